/-
 A part of the proof: see the text of the law.
-/
import Derived.Test.YtchlampphcaomaaGreatDoorFxg
set_option linter.unusedSimpArgs false
set_option linter.unusedVariables false
namespace Go.Proofs.Try
open Go.Proofs.Tryz
open Go.Al
set_option maxRecDepth 100000
abbrev q133_0:MI:=oI 4 0
abbrev q133_1:MI:=oI 5 0
abbrev q133_2:MI:=oI 5 7
def mc133:MC:=(.seq (.ops [pK 3 1,(none,q133_0),(none,q133_1)]) (.seq (.ops [(none,.e (.alloc 6 [.raw (.slice none 0 0)]))]) (.seq (.seq (.ops [pF 12 5 3,pL 13 12,pG 14 13,pI 15 0]) (.block 0 (.loop (.seq (.ops [pB 16 15 14]) (.seq (.cond 16 .skip (.exit 0)) (.seq (.block 1 (.seq (.ops [pQ 17 6 13 15,pR 18 6 17,(none,.e (.alloc 8 z3)),pS 6 8 18]) (.seq (.ops [pM 20 0,pR 21 6 8,pW 22 133 20 21,pM 19 22,pX 23 0 19,pX 24 1 19,pM 9 23,pM 10 24]) (.seq (.seq (.ops [pM 25 10,pD 26 25 0]) (.cond 26 (.seq (.ops [pM 27 10,(none,q133_0),pM 5 27]) .ret) .skip)) (.ops [pL 28 6,pM 29 9,(none,.e (.mkl 30 3 1 1 (.int .i64 0) [(0,.t 29)])),(none,.e (.app 31 3 1 8 (.t 28) (.t 30))),(none,.e (.store 1 false (.t 6) (.t 31)))]))))) (.ops [pA 32 15 1,pM 15 32]))))))) (.seq (.ops [(none,.v (.fn 33 (.func 157) [] [.t 6])),pM 11 33]) (.seq (.block 2 (.seq (.ops [pF 35 0 3,pL 36 35,pE 37 36 1,pM 34 37]) (.cond 34 (.seq (.seq (.ops [pF 38 1 3,pL 39 38,(none,.v (.bin 40 .lss false (.t 39) (.c (.int .i64 0)))),pM 41 40,gF 41 (oF 42 1 3),gF 41 (oL 43 42),gF 41 (oM 44 0),gF 41 (oG 45 44),(some (41,false),.v (.bin 46 .geq false (.t 43) (.t 45))),pO 47 41 46,pM 48 47,gF 48 (oM 49 0),gF 48 (oF 50 1 3),gF 48 (oL 51 50),gF 48 (oQ 52 1 49 51),gF 48 (oL 53 52),(some (48,false),.v (.bin 54 .lss false (.t 53) (.c (.int .i64 0)))),pO 55 48 54,pM 56 55,gF 56 (oM 57 0),gF 56 (oF 58 1 3),gF 56 (oL 59 58),gF 56 (oQ 60 1 57 59),gF 56 (oL 61 60),(some (56,false),.v (.bin 62 .gtr false (.t 61) (.c (.int .i64 3)))),pO 63 56 62]) (.cond 63 (.seq (.ops [(none,q133_0),pI 5 1]) .ret) .skip)) (.seq (.ops [pM 64 0,pF 65 1 3,pL 66 65,pQ 67 1 64 66,pL 68 67,pM 4 68,(none,q133_1)]) .ret)) (.seq (.ops [pF 70 0 3,pL 71 70,pE 72 71 2,pM 69 72]) (.cond 69 (.seq (.seq (.ops [pF 73 2 3,pR 74 3 73,pV 75 152 74,pN 76 75]) (.cond 76 (.seq (.ops [(none,q133_0),pI 5 1]) .ret) .skip)) (.seq (.ops [pF 77 2 3,pF 78 0 77,pL 79 78,pM 4 79,(none,q133_1)]) .ret)) (.seq (.ops [pF 81 0 3,pL 82 81,pV 83 160 82,pM 80 83]) (.cond 80 (.seq (.seq (.ops [pM 84 11,(none,.e (.callv (some 85) (.t 84) [.c (.int .i64 1)])),pN 86 85]) (.cond 86 (.seq (.ops [(none,q133_0),(none,q133_2)]) .ret) .skip)) (.seq (.ops [pI 4 1,(none,q133_1)]) .ret)) (.seq (.ops [pF 88 0 3,pL 89 88,pV 90 150 89,pM 87 90]) (.cond 87 (.seq (.ops [pM 91 11,pL 92 6,(none,.p (.idx 93 1 (.t 92) (.c (.int .i64 0)))),pL 94 93,(none,.e (.callv (some 95) (.t 91) [.t 94])),pN 96 95,pM 97 96,gT 97 (oM 98 11),gT 97 (oL 99 6),(some (97,true),.p (.idx 100 1 (.t 99) (.c (.int .i64 1)))),gT 97 (oL 101 100),(some (97,true),.e (.callv (some 102) (.t 98) [.t 101])),gT 97 (oN 103 102),pP 104 97 103]) (.cond 104 (.seq (.ops [(none,q133_0),(none,q133_2)]) .ret) .skip)) (.seq (.ops [pF 106 0 3,pL 107 106,pD 108 107 15,pM 109 108,gT 109 (oM 110 11),(some (109,true),.e (.callv (some 111) (.t 110) [.c (.int .i64 3)])),gT 109 (oN 112 111),pP 113 109 112,pM 105 113]) (.cond 105 (.seq (.ops [(none,q133_0),(none,q133_2)]) .ret) .skip))))))))))) (.seq (.ops [pI 4 3,(none,q133_1)]) .ret))))))
theorem ok133:FnOk E 133 114 [.tmp 4,.tmp 5] mc133:=ofk func133
set_option maxRecDepth 20000
set_option maxHeartbeats 8000000
theorem c133n (ks:List Int) (e:EX) (rs:List (Int × Int)) (hv:inI e.val.n) (hlen:rs.length=e.args.length) (har:(e.args.length:Int)=ar e.op)
 (hrec:∀ j,j<e.args.length→ACalls E.P 133 [ksV ks,(e.args.getD j default).av] [] (fun r H=>r=.tup [.int .i64 (rs.getD j default).1,.int .i64 (rs.getD j default).2]∧H=[])) :
 ACalls E.P 133 [ksV ks,e.av] [] (fun r H=>r=.tup [.int .i64 (knode ks e rs).1,.int .i64 (knode ks e rs).2]∧H=[]):=by
 have hmax:=maxLen_eq
 have hsh:=ar_cases har
 refine ok133.acalls hE hm (by simp) fun N hN=>?_
 unfold mc133 q133_2 q133_1 q133_0 z3 pK pF pL pG pI pB pQ pR pS pM pW pX pD pA pE pO pV pN pP gF gT oM oI oL oF oN oG oQ
 simp only [lA,seval,av_fs]
 refine LenR_i fun hll=>?_
 rw [List.length_map,hmax] at hll
 simp only [lA,seval,List.length_map]
 refine loop_i (fun i:Nat=>i≤e.args.length∧∀ j,j<i→(rs.getD j default).2=0) (fun i=>⟨[(0,ksV ks),(3,.op 0 0),(6,.op 1 0),(13,.view 6 (e.args.map EX.av)),(14,.int .i64 e.args.length),(15,.int .i64 i)],if i=0 then [.box e.fs,.box [.raw (.slice none 0 0)]] else [.box e.fs,.box [.slc 2 1 i],.arr 3 1 ((rs.take i).map prK)]⟩) (fun i=>e.args.length - i) 0 ⟨by omega,by omega⟩
  (by simp only [if_true];exact (ent [0,1] false (by simp only [lP,seval,pa_prK]<;>(try simp)<;>(try omega)) (by simp only [lP,seval,pa_prK]<;>(try simp)<;>(try omega)))) ?_
 rintro i ⟨hi,ha⟩
 by_cases hin:i<e.args.length
 · have hrec:=hrec i hin
   simp only [av_fs] at hrec
   have hlt:((i:Int)<(e.args.length:Int)):=by omega
   have hl:(rs.take i).length=i:=by simp;omega
   have fin:(rs.getD i default).2≠0→knode ks e rs=(0,(rs.getD i default).2):=fun h2=>by
    have:=ferr_at (l:=rs) ha (by omega) h2
    simp only [knode,this,if_neg h2]
   have ht:(rs.take (i+1)).map prK=(rs.take i).map prK++[.int .i64 (rs.getD i default).1]:=by
    rw [List.take_succ_eq_append_getElem (show i<rs.length by omega),List.map_append]
    simp [prK,show i<rs.length by omega]
   have nx:(rs.getD i default).2=0→∀ j,j<i+1→(rs.getD j default).2=0:=fun h2 j hj=>by
    by_cases hji:j<i
    · exact ha j hji
    · obtain rfl:j=i:=by omega
      exact h2
   by_cases hi0:i=0
   · subst hi0
     have hlt0:((0:Int)<(e.args.length:Int)):=by omega
     simp only [if_true]
     repeat' (first|(with_reducible first|(apply St.o;constructor)<;>intro _|refine And.intro (by omega) ?_|(apply Sq.o;constructor))|((with_reducible apply Sc.o true;constructor);simp only [lP,seval,IdxR_exs,Int.toNat_natCast,List.length_map,pa_prK,vw_prK,hlt0,decide_true];refine ⟨_,hrec,?_⟩;rintro _ _ ⟨rfl,rfl⟩;simp only [lA,lP,seval,IdxR_exs,Int.toNat_natCast,List.length_map,pa_prK,vw_prK,hlt0,decide_true])|((with_reducible refine keep0_i ?_);simp only [lP,seval])|simp (disch:=omega) only [lE,seval,IdxR_exs,Int.toNat_natCast,List.length_map,pa_prK,vw_prK,hlt0,decide_true])
     · rename_i h2
       rw [fin h2]
     · rename_i h2
       refine back_i 1 ⟨by omega,nx h2⟩ (by omega) ?_
       rw [if_neg (by omega)]
       simp only [Nat.zero_add] at ht
       rw [ht]
       exact (ent [0,1,4] false (by simp only [lP,seval,pa_prK,hl,List.map_append]<;>(try simp)<;>(try omega)) (by simp only [lP,seval,pa_prK,hl,List.map_append]<;>(try simp)<;>(try omega)))
   · simp only [if_neg hi0]
     repeat' (first|(with_reducible first|(apply St.o;constructor)<;>intro _|refine And.intro (by omega) ?_|(apply Sq.o;constructor))|((with_reducible apply Sc.o true;constructor);simp only [lP,seval,IdxR_exs,Int.toNat_natCast,List.length_map,pa_prK,vw_prK,hlt,decide_true];refine ⟨_,hrec,?_⟩;rintro _ _ ⟨rfl,rfl⟩;simp only [lA,lP,seval,IdxR_exs,Int.toNat_natCast,List.length_map,pa_prK,vw_prK,hlt,decide_true])|((with_reducible refine keep0_i ?_);simp only [lP,seval])|simp (disch:=omega) only [lE,seval,IdxR_exs,Int.toNat_natCast,List.length_map,pa_prK,vw_prK,hlt,decide_true])
     · rename_i h2
       rw [fin h2]
     · rename_i h2
       refine back_i (i+1) ⟨by omega,nx h2⟩ (by omega) ?_
       rw [if_neg (by omega),ht]
       exact (ent [0,1,5] false (by simp only [lP,seval,pa_prK,hl,List.map_append]<;>(try simp)<;>(try omega)) (by simp only [lP,seval,pa_prK,hl,List.map_append]<;>(try simp)<;>(try omega)))
 · have hie:i=rs.length:=by omega
   subst hie
   have hf:ferr rs=0:=ferr_none ha
   have hk:knode ks e rs=kN ks e.op e.n e.val (rs.map (·.1)):=by rw [knode,if_pos hf]
   have h152:=c152 e.val hv
   have h150:=c150 e.op
   have h160:=c160 e.op
   rw [hk]
   simp only [List.take_length]
   simp only [vl_av] at h152
   clear hrec hk hf ha
   have hl0:e.args.length=rs.length:=hlen.symm
   rcases hsh with ⟨h0,hop⟩ | ⟨h0,hop⟩ | ⟨h0,hop⟩
   · obtain rfl:rs=[]:=List.eq_nil_of_length_eq_zero (by omega)
     simp only [List.length_nil,if_true]
     rcases hop with hop | hop
     · repeat' (first|(with_reducible first|(apply St.o;constructor)<;>intro _|refine And.intro (by omega) ?_|(apply Sq.o;constructor))|((with_reducible refine keep0_i ?_);simp only [lP,seval])|simp (disch:=omega) only [lE,seval,List.length_map,hop,hl0,Int.lt_irrefl,List.length_nil,List.length_cons,Int.ofNat_zero,decide_false,decide_true])
       all_goals clear h152 h150 h160
       all_goals (simp only [kN,if_true])
       all_goals first | (rw [if_pos (by omega)];done) | (rw [if_neg (by omega)];done)
     · repeat' (first|(with_reducible first|(apply St.o;constructor)<;>intro _|refine And.intro (by omega) ?_|(apply Sq.o;constructor))|((with_reducible apply Sc.o true;constructor);simp only [lP,seval,List.length_map,hop,hl0,Int.lt_irrefl,List.length_nil,List.length_cons,Int.ofNat_zero,decide_false,decide_true];refine ⟨_,h152,?_⟩;rintro _ _ ⟨rfl,rfl⟩;simp only [lA,lP,seval,List.length_map,hop,hl0,Int.lt_irrefl,List.length_nil,List.length_cons,Int.ofNat_zero,decide_false,decide_true])|((with_reducible refine keep0_i ?_);simp only [lP,seval])|simp (disch:=omega) only [lE,seval,List.length_map,hop,hl0,Int.lt_irrefl,List.length_nil,List.length_cons,Int.ofNat_zero,decide_false,decide_true])
       all_goals clear h152 h150 h160
       all_goals (rename_i h;simp [kN,h])
   · obtain ⟨x,rfl⟩:∃ x,rs=[x]:=by
      rcases rs with _ | ⟨x,_ | ⟨z,t⟩⟩
      · rw [h0] at hl0;simp at hl0
      · exact ⟨x,rfl⟩
      · rw [h0] at hl0;simp at hl0
     have h157:∀ w,ACalls E.P 157 [.int .i64 w,.vp [.view 1 [.int .i64 x.1]]] [] (fun r H=>r=.bool ([x.1].all (okK w))∧H=[]):=c157 [x.1]
     simp only [List.length_cons,List.length_nil,List.map_cons,List.map_nil,prK]
     rcases hop with hop | hop
     · have hc:cmpB e.op=false:=by rw [hop];rfl
       have hd:ariB e.op=false:=by rw [hop];rfl
       rw [hop] at h150 h160 hc hd
       repeat' (first|(with_reducible first|(apply St.o;constructor)<;>intro _|refine And.intro (by omega) ?_|(apply Sq.o;constructor))|((with_reducible apply Sc.o true;constructor);simp only [lP,seval,List.length_map,hop,hc,hd,hl0,Int.lt_irrefl,List.length_nil,List.length_cons,Int.ofNat_zero,decide_false,decide_true];(first|refine ⟨_,h157 _,?_⟩|refine ⟨_,h150,?_⟩|refine ⟨_,h160,?_⟩);rintro _ _ ⟨rfl,rfl⟩;simp only [lA,lP,seval,List.length_map,hop,hc,hd,hl0,Int.lt_irrefl,List.length_nil,List.length_cons,Int.ofNat_zero,decide_false,decide_true])|((with_reducible refine keep0_i ?_);simp only [lP,seval])|simp (disch:=omega) only [lE,seval,List.length_map,hop,hc,hd,hl0,Int.lt_irrefl,List.length_nil,List.length_cons,Int.ofNat_zero,decide_false,decide_true])
       all_goals clear h157 h152 h150 h160
       all_goals (rename_i h;simp only [Bool.not_eq_true',Bool.not_eq_false'] at h;simp [kN,hc,hd,h])
     · have hc:cmpB e.op=false:=by rw [hop];rfl
       have hd:ariB e.op=false:=by rw [hop];rfl
       rw [hop] at h150 h160 hc hd
       repeat' (first|(with_reducible first|(apply St.o;constructor)<;>intro _|refine And.intro (by omega) ?_|(apply Sq.o;constructor))|((with_reducible apply Sc.o true;constructor);simp only [lP,seval,List.length_map,hop,hc,hd,hl0,Int.lt_irrefl,List.length_nil,List.length_cons,Int.ofNat_zero,decide_false,decide_true];(first|refine ⟨_,h157 _,?_⟩|refine ⟨_,h150,?_⟩|refine ⟨_,h160,?_⟩);rintro _ _ ⟨rfl,rfl⟩;simp only [lA,lP,seval,List.length_map,hop,hc,hd,hl0,Int.lt_irrefl,List.length_nil,List.length_cons,Int.ofNat_zero,decide_false,decide_true])|((with_reducible refine keep0_i ?_);simp only [lP,seval])|simp (disch:=omega) only [lE,seval,List.length_map,hop,hc,hd,hl0,Int.lt_irrefl,List.length_nil,List.length_cons,Int.ofNat_zero,decide_false,decide_true])
       all_goals clear h157 h152 h150 h160
       all_goals simp [kN,hc,hd]
   · obtain ⟨x,y,rfl⟩:∃ x y,rs=[x,y]:=by
      rcases rs with _ | ⟨x,_ | ⟨y,_ | ⟨z,t⟩⟩⟩
      · rw [h0] at hl0;simp at hl0
      · rw [h0] at hl0;simp at hl0
      · exact ⟨x,y,rfl⟩
      · rw [h0] at hl0;simp at hl0
     have h157:∀ w,ACalls E.P 157 [.int .i64 w,.vp [.view 1 [.int .i64 x.1,.int .i64 y.1]]] [] (fun r H=>r=.bool ([x.1,y.1].all (okK w))∧H=[]):=c157 [x.1,y.1]
     have ho1:e.op≠1:=by omega
     have ho2:e.op≠2:=by omega
     have ho3:e.op≠15:=by omega
     simp only [List.length_cons,List.length_nil,List.map_cons,List.map_nil,prK]
     repeat' (first|(with_reducible first|(apply St.o;constructor)<;>intro _|refine And.intro (by omega) ?_|(apply Sq.o;constructor))|((with_reducible apply Sc.o true;constructor);simp only [lP,seval,epR_cons,List.length_map,ho1,ho2,ho3,hl0,Int.lt_irrefl,List.length_nil,List.length_cons,Int.ofNat_zero,decide_false,decide_true];(first|refine ⟨_,h157 _,?_⟩|refine ⟨_,h150,?_⟩|refine ⟨_,h160,?_⟩);rintro _ _ ⟨rfl,rfl⟩;simp only [lA,lP,seval,epR_cons,List.length_map,ho1,ho2,ho3,hl0,Int.lt_irrefl,List.length_nil,List.length_cons,Int.ofNat_zero,decide_false,decide_true])|((with_reducible refine keep0_i ?_);simp only [lP,seval])|simp (disch:=omega) only [lE,seval,epR_cons,List.length_map,ho1,ho2,ho3,hl0,Int.lt_irrefl,List.length_nil,List.length_cons,Int.ofNat_zero,decide_false,decide_true])
     all_goals clear h157 h152 h150 h160
     all_goals simp only [kN,if_neg ho1,if_neg ho2,if_neg ho3,List.map_cons,List.map_nil]
     all_goals clear hlen hi hin hl0 h0 har hll
     all_goals clear hv hmax hN hop ho1 ho2 ho3
     all_goals simp only [Bool.not_eq_true',Bool.not_eq_false',Bool.not_true,List.all_cons,List.all_nil,Bool.and_true,List.getD_cons_zero,List.getD_cons_succ] at *
     all_goals simp only [*,if_true,Bool.false_eq_true,if_false,or_self,or_true,true_or,or_false,false_or]
set_option maxHeartbeats 4000000
inductive T where
 | col (n:Int)
 | val (v:VL)
 | un (op:Int) (a:T)
 | bin (op:Int) (a b:T)
instance:Inhabited T:=⟨.col 0⟩
def T.ex:T→EX
 | .col n=>.mk 1 n 0 0 ⟨#[]⟩ []
 | .val v=>.mk 2 0 v.k v.n v.s []
 | .un op a=>.mk op 0 0 0 ⟨#[]⟩ [a.ex]
 | .bin op a b=>.mk op 0 0 0 ⟨#[]⟩ [a.ex,b.ex]
def T.wf:T→Prop
 | .col _=>True
 | .val _=>True
 | .un op a=>(op=14∨op=15)∧a.wf
 | .bin op a b=>(3≤op∧op≤13)∧a.wf∧b.wf
def T.vals (p:VL→Prop):T→Prop
 | .col _=>True
 | .val v=>p v
 | .un _ a=>a.vals p
 | .bin _ a b=>a.vals p∧b.vals p
def T.size:T→Nat
 | .col _=>1
 | .val _=>1
 | .un _ a=>1+a.size
 | .bin _ a b=>1+a.size+b.size
def T.kind (ks:List Int):T→Int × Int
 | .col n=>kN ks 1 n VL.null []
 | .val v=>kN ks 2 0 v []
 | .un op a=>if (a.kind ks).2=0 then kN ks op 0 VL.null [(a.kind ks).1] else (0,(a.kind ks).2)
 | .bin op a b=>if (a.kind ks).2=0 then (if (b.kind ks).2=0 then kN ks op 0 VL.null [(a.kind ks).1,(b.kind ks).1] else (0,(b.kind ks).2)) else (0,(a.kind ks).2)
def mkT (op n:Int) (v:VL):List T→T
 | []=>if op=1 then .col n else .val v
 | [a]=>.un op a
 | a::b::_=>.bin op a b
mutual
def EX.tr:EX→T
 | .mk op n k i s args=>mkT op n ⟨k,i,s⟩ (EX.trL args)
def EX.trL:List EX→List T
 | []=>[]
 | e::es=>e.tr::EX.trL es
end
mutual
def EX.okI:EX→Prop
 | .mk op n k i s args=>inI i∧EX.okIL args
def EX.okIL:List EX→Prop
 | []=>True
 | e::es=>e.okI∧EX.okIL es
end
theorem fm_mk {op n k i:Int} {s:ByteArray} {args:List EX}:(EX.mk op n k i s args).fm=true↔(args.length:Int)=ar op∧(n=0∨op=1)∧((k=0∧i=0∧s=⟨#[]⟩)∨op=2):=by
 unfold EX.fm
 simp only [Bool.and_eq_true,Bool.or_eq_true,decide_eq_true_eq,and_assoc]
 exact Iff.rfl
theorem ar1 {op:Int} (h:op=14∨op=15):ar op=1:=by unfold ar;(repeat' split) <;> omega
theorem ar2 {op:Int} (h:3≤op∧op≤13):ar op=2:=by unfold ar;(repeat' split) <;> omega
theorem ex_tr:∀ e:EX,e.formed=true→e.tr.ex=e∧e.tr.wf∧(e.okI→e.tr.vals fun v=>inI v.n)
 | .mk op n k i s args,h=>by
   rw [EX.formed,Bool.and_eq_true,fm_mk] at h
   obtain ⟨⟨h1,h2,h3⟩,h4⟩:=h
   have har:=ar_cases h1
   match args,h4 with
   | [],_ =>
     simp at har
     rcases har with rfl | rfl
     · have h3:k=0∧i=0∧s=⟨#[]⟩:=by simpa using h3
       obtain ⟨rfl,rfl,rfl⟩:=h3
       simp [EX.tr,EX.trL,mkT,T.ex,T.wf,T.vals]
     · have h2:n=0:=by simpa using h2
       subst h2
       simp [EX.tr,EX.trL,mkT,T.ex,T.wf,T.vals,EX.okI,EX.okIL]
   | [a],h4 =>
     simp at har
     simp only [EX.formedL,Bool.and_true] at h4
     obtain ⟨ih1,ih2,ih3⟩:=ex_tr a h4
     have hn:n=0:=by omega
     have h3:k=0∧i=0∧s=⟨#[]⟩:=by rcases h3 with h3 | h3;exact h3;omega
     obtain ⟨rfl,rfl,rfl⟩:=h3
     subst hn
     simp only [EX.tr,EX.trL,mkT,T.ex,T.wf,T.vals,EX.okI,EX.okIL,ih1]
     exact ⟨trivial,⟨har,ih2⟩,fun h=>ih3 h.2.1⟩
   | [a,b],h4 =>
     simp at har
     simp only [EX.formedL,Bool.and_true,Bool.and_eq_true] at h4
     obtain ⟨ih1,ih2,ih3⟩:=ex_tr a h4.1
     obtain ⟨ih4,ih5,ih6⟩:=ex_tr b h4.2
     have hn:n=0:=by omega
     have h3:k=0∧i=0∧s=⟨#[]⟩:=by rcases h3 with h3 | h3;exact h3;omega
     obtain ⟨rfl,rfl,rfl⟩:=h3
     subst hn
     simp only [EX.tr,EX.trL,mkT,T.ex,T.wf,T.vals,EX.okI,EX.okIL,ih1,ih4]
     exact ⟨trivial,⟨har,ih2,ih5⟩,fun h=>⟨ih3 h.2.1,ih6 h.2.2.1⟩⟩
   | a::b::c::d,_=>simp at har
theorem T.formed:∀ t:T,t.wf→t.ex.formed=true
 | .col n,_=>by simp [T.ex,EX.formed,EX.formedL,fm_mk,ar]
 | .val v,_=>by simp [T.ex,EX.formed,EX.formedL,fm_mk,ar]
 | .un op a,h=>by
   obtain ⟨h1,h2⟩:=h
   simp only [T.ex,EX.formed,EX.formedL,T.formed a h2,Bool.and_true,fm_mk,ar]
   rcases h1 with rfl | rfl <;> simp
 | .bin op a b,h=>by
   obtain ⟨h1,h2,h3⟩:=h
   simp only [T.ex,EX.formed,EX.formedL,T.formed a h2,T.formed b h3,Bool.and_true,fm_mk,ar]
   rw [if_neg (by omega),if_neg (by omega),if_pos (by omega)]
   simp
theorem c133 (ks:List Int):∀ t:T,t.wf→(t.vals fun v=>inI v.n)→ACalls E.P 133 [ksV ks,t.ex.av] [] (fun r H=>r=.tup [.int .i64 (t.kind ks).1,.int .i64 (t.kind ks).2]∧H=[])
 | .col n,_,_=>c133n ks (T.col n).ex [] (by simp [T.ex,EX.val,inI]) rfl (by simp [T.ex,EX.args,EX.op,ar]) (fun j hj=>by simp [T.ex,EX.args] at hj)
 | .val v,_,hv=>c133n ks (T.val v).ex [] hv rfl (by simp [T.ex,EX.args,EX.op,ar]) (fun j hj=>by simp [T.ex,EX.args] at hj)
 | .un op a,hw,hv=>by
   have ih:=c133 ks a hw.2 hv
   have h:=c133n ks (T.un op a).ex [a.kind ks] (by simp [T.ex,EX.val,inI]) rfl (by obtain ⟨rfl | rfl,_⟩:=hw <;> simp [T.ex,EX.args,EX.op,ar]) (fun j hj=>by
    have:j=0:=by simp [T.ex,EX.args] at hj;exact hj
    subst this;exact ih)
   have e:knode ks (T.un op a).ex [a.kind ks]=(T.un op a).kind ks:=by
    simp only [knode,ferr,T.kind,T.ex,EX.op,EX.n,EX.val,List.map_cons,List.map_nil]
    split <;> simp_all <;> rfl
   rw [e] at h;exact h
 | .bin op a b,hw,hv=>by
   have ih:=c133 ks a hw.2.1 hv.1
   have ih2:=c133 ks b hw.2.2 hv.2
   have h:=c133n ks (T.bin op a b).ex [a.kind ks,b.kind ks] (by simp [T.ex,EX.val,inI]) rfl (ar2 hw.1).symm (fun j hj=>by
    have:j=0∨j=1:=by simp [T.ex,EX.args] at hj;omega
    rcases this with rfl | rfl
    · exact ih
    · exact ih2)
   have e:knode ks (T.bin op a b).ex [a.kind ks,b.kind ks]=(T.bin op a b).kind ks:=by
    simp only [knode,ferr,T.kind,T.ex,EX.op,EX.n,EX.val,List.map_cons,List.map_nil]
    split <;> rename_i h1 <;> (by_cases h2:(a.kind ks).2=0 <;> simp [h2] at h1 ⊢ <;> simp_all <;> rfl)
   rw [e] at h;exact h
set_option maxRecDepth 100000
abbrev q123_0:MI:=oI 5 0
def mc123:MC:=(.seq (.ops [pK 2 0,(none,.e (.alloc 4 z2)),(none,q123_0)]) (.seq (.ops [pY 6]) (.seq (.seq (.ops [pF 12 5 2,pL 13 12,pG 14 13,pI 15 0]) (.block 0 (.loop (.seq (.ops [pB 16 15 14]) (.seq (.cond 16 .skip (.exit 0)) (.seq (.block 1 (.seq (.ops [pQ 17 6 13 15,pR 18 6 17,(none,.e (.alloc 8 z3)),pS 6 8 18]) (.seq (.ops [pR 20 6 8,pM 21 1,pW 22 123 20 21,pM 19 22,pX 23 0 19,pX 24 1 19,(none,.e (.alloc 9 z2)),pS 3 9 23,pM 10 24]) (.seq (.seq (.ops [pM 25 10,pD 26 25 0]) (.cond 26 (.seq (.ops [(none,.v (.build 27 z2 [])),pM 28 10,pS 3 4 27,pM 5 28]) .ret) .skip)) (.ops [pM 29 6,pR 30 3 9,(none,.e (.mkl 31 25 3 1 (.agg z2) [(0,.t 30)])),(none,.e (.app 32 25 3 32 (.t 29) (.t 31))),pM 6 32]))))) (.ops [pA 33 15 1,pM 15 33]))))))) (.seq (.block 2 (.seq (.ops [pF 35 0 2,pL 36 35,pE 37 36 1,pM 34 37]) (.cond 34 (.seq (.ops [pM 38 1,pF 39 1 2,pL 40 39,pQ 41 3 38 40,pR 42 3 41,pS 3 4 42,(none,q123_0)]) .ret) (.seq (.ops [pF 44 0 2,pL 45 44,pE 46 45 2,pM 43 46]) (.cond 43 (.seq (.ops [pF 47 2 2,pR 48 3 47,pS 3 4 48,(none,q123_0)]) .ret) (.seq (.ops [pF 50 0 2,pL 51 50,pE 52 51 12,pM 49 52]) (.cond 49 (.seq (.any true (.pure0 none (oM 53 6) (.pure0 none (.p (.idx 54 3 (.t 53) (.c (.int .i64 0)))) (.pure0 none (oR 55 3 54) (.pure0 none (oM 56 6) (.pure0 none (.p (.idx 57 3 (.t 56) (.c (.int .i64 1)))) (.pure0 none (oR 58 3 57) (.alt none (oW 59 147 55 58) (.pure1 none (oX 60 0 59) (.pure1 none (oX 61 1 59) (.alt none (oS 3 4 60) (.pure1 none (oM 5 61) .done) .stop))) .stop)))))))) .ret) (.seq (.ops [pF 63 0 2,pL 64 63,pE 65 64 13,pM 62 65]) (.cond 62 (.seq (.any true (.pure0 none (oM 66 6) (.pure0 none (.p (.idx 67 3 (.t 66) (.c (.int .i64 0)))) (.pure0 none (oR 68 3 67) (.pure0 none (oM 69 6) (.pure0 none (.p (.idx 70 3 (.t 69) (.c (.int .i64 1)))) (.pure0 none (oR 71 3 70) (.alt none (oW 72 148 68 71) (.pure1 none (oX 73 0 72) (.pure1 none (oX 74 1 72) (.alt none (oS 3 4 73) (.pure1 none (oM 5 74) .done) .stop))) .stop)))))))) .ret) (.seq (.ops [pF 76 0 2,pL 77 76,pE 78 77 14,pM 75 78]) (.cond 75 (.seq (.ops [pM 79 6,(none,.p (.idx 80 3 (.t 79) (.c (.int .i64 0)))),pR 81 3 80,pV 82 149 81,pX 83 0 82,pX 84 1 82,pS 3 4 83,pM 5 84]) .ret) (.seq (.ops [pF 86 0 2,pL 87 86,pE 88 87 15,pM 85 88]) (.cond 85 (.seq (.ops [pM 89 6,(none,.p (.idx 90 3 (.t 89) (.c (.int .i64 0)))),pF 91 0 90,pL 92 91,pE 93 92 0,pV 94 146 93,pS 3 4 94,(none,q123_0)]) .ret) (.seq (.ops [pF 96 0 2,pL 97 96,pV 98 150 97,pM 95 98]) (.cond 95 (.seq (.any true (.pure0 none (oF 99 0 2) (.pure0 none (oL 100 99) (.pure0 none (oM 101 6) (.pure0 none (.p (.idx 102 3 (.t 101) (.c (.int .i64 0)))) (.pure0 none (oR 103 3 102) (.pure0 none (oM 104 6) (.pure0 none (.p (.idx 105 3 (.t 104) (.c (.int .i64 1)))) (.pure0 none (oR 106 3 105) (.alt none (.e (.call (some 107) 151 [.t 100,.t 103,.t 106])) (.pure1 none (oX 108 0 107) (.pure1 none (oX 109 1 107) (.alt none (oS 3 4 108) (.pure1 none (oM 5 109) .done) .stop))) .stop)))))))))) .ret) .skip))))))))))))))) (.seq (.seq (.ops [pM 110 6,(none,.p (.idx 111 3 (.t 110) (.c (.int .i64 0)))),pF 112 0 111,pL 113 112,pE 114 113 0,pM 115 114,gF 115 (oM 116 6),(some (115,false),.p (.idx 117 3 (.t 116) (.c (.int .i64 1)))),gF 115 (oF 118 0 117),gF 115 (oL 119 118),gF 115 (oE 120 119 0),pO 121 115 120]) (.cond 121 (.seq (.ops [(none,.v (.build 122 z2 [])),pS 3 4 122,(none,q123_0)]) .ret) .skip)) (.seq (.any false (.pure0 none (.v (.gld 123 0)) (.pure0 none (oF 124 0 2) (.pure0 none (oL 125 124) (.pure0 none (.p (.look 126 false (.int .i64) (.raw .nilFunc) (.t 123) (.t 125))) (.pure0 none (oM 127 6) (.pure0 none (.p (.idx 128 3 (.t 127) (.c (.int .i64 0)))) (.pure0 none (oF 129 1 128) (.pure0 none (oL 130 129) (.pure0 none (oM 131 6) (.pure0 none (.p (.idx 132 3 (.t 131) (.c (.int .i64 1)))) (.pure0 none (oF 133 1 132) (.pure0 none (oL 134 133) (.pure0 none (.v (.build 135 [.int .i64 0,.int .i64 0] [(0,1,.t 130),(1,1,.t 134)])) (.alt none (.e (.callv (some 136) (.t 126) [.t 135])) (.base (.pure0 none (oM 11 136) .done)) .stop))))))))))))))) (.seq (.seq (.ops [pM 137 11,(none,.v (.bin 138 .lss false (.t 137) (.c (.int .i64 (-549755813888))))),pM 139 138,gF 139 (oM 140 11),(some (139,false),.v (.bin 141 .gtr false (.t 140) (.c (.int .i64 549755813887)))),pO 142 139 141]) (.cond 142 (.seq (.ops [(none,.v (.build 143 z2 [])),pS 3 4 143,pI 5 360]) .ret) .skip)) (.seq (.ops [pM 144 11,(none,.v (.build 145 z2 [(0,1,.c (.int .i64 1)),(1,1,.t 144)])),pS 3 4 145,(none,q123_0)]) .ret))))))))
theorem ok123:FnOk E 123 146 [.cell 4 25,.tmp 5] mc123:=ofk func123
set_option maxRecDepth 20000
set_option maxHeartbeats 8000000
abbrev rowV (r:List VL):AV:=.view 3 (r.map VL.av)
def prV (x:VL × Int):AV:=x.1.av
theorem vw_prV {H:List AObj} {l:List Nat} {n:Nat} {xs:List (VL × Int)}:(xs.map prV).map (vw H l (n+1))=xs.map prV:=map_same (fun x=>vw_vl x.1) xs
theorem pa_prV {H:List AObj} {l:List Nat} {bor:Bool} {n:Nat} {xs:List (VL × Int)}:(xs.map prV).map (pa H l bor (n+1))=xs.map prV:=map_same (fun x=>pa_vl x.1) xs
theorem cmpBytes:∀ a b:List UInt8,Lib.compareBytes a b=if Op.bytesLess a b=true then -1 else if a=b then 0 else 1
 | [],[]=>by simp [Lib.compareBytes,Op.bytesLess]
 | [],_::_=>by simp [Lib.compareBytes,Op.bytesLess]
 | _::_,[]=>by simp [Lib.compareBytes,Op.bytesLess]
 | a::x,b::y=>by
   rw [Lib.compareBytes,cmpBytes x y]
   simp only [Op.bytesLess,Bool.or_eq_true,decide_eq_true_eq,Bool.and_eq_true,beq_iff_eq,List.cons.injEq]
   by_cases h1:a<b
   · simp [h1]
   · by_cases h2:b<a
     · have h3:a≠b:=fun h=>by subst h;exact h1 h2
       simp [h1,h2,h3]
     · have h3:a=b:=UInt8.le_antisymm (UInt8.not_lt.1 h2) (UInt8.not_lt.1 h1)
       subst h3
       simp
theorem toL (s:ByteArray):s.toList=s.data.toList:=ByteArray.toList_eq s
theorem VL.cmp_eq {a b:VL} (ha:a.Right) (hb:b.Right) (hk:a.k=b.k):a.cmp b=a.cmp19 b:=by
 obtain ⟨ka,na,sa⟩:=a
 obtain ⟨kb,nb,sb⟩:=b
 simp only at hk
 subst hk
 have hs:(sa.data.toList=sb.data.toList)↔sa=sb:=by
  obtain ⟨⟨la⟩⟩:=sa;obtain ⟨⟨lb⟩⟩:=sb;simp
 simp only [VL.cmp,VL.cmp19,orI,cmpBytes,toL,ne_eq,not_true_eq_false,if_false]
 simp only [VL.Right] at ha hb
 have h0:sgn ka ka=0:=by simp [sgn]
 have h1:sgn na nb=0∨sa=sb:=by
  rcases ha with ⟨_,h1,h2⟩ | ⟨_,_,_,h2⟩ | ⟨_,h1,_⟩ | ⟨_,_,h2⟩ <;> rcases hb with ⟨_,h3,h4⟩ | ⟨_,_,_,h4⟩ | ⟨_,h3,_⟩ | ⟨_,_,h4⟩ <;> first | omega | (right;rw [h2,h4]) | (left;rw [h1,h3];simp [sgn])
 rw [h0]
 simp only [if_true,hs]
 rcases h1 with h1 | h1
 · rw [h1]
   simp only [if_true]
   by_cases h2:Op.bytesLess sa.data.toList sb.data.toList=true <;> by_cases h3:sa=sb <;> simp [h2,h3]
 · subst h1
   have h2:Op.bytesLess sa.data.toList sa.data.toList=false:=by
    have:∀ l:List UInt8,Op.bytesLess l l=false:=fun l=>by
     induction l with
     | nil=>rfl
     | cons x l ih=>simp [Op.bytesLess,ih]
    exact this _
   simp only [h2,decide_true,Bool.or_true,Bool.not_true,Bool.false_eq_true,if_false,if_true]
   split <;> simp_all
theorem test_eq {op:Int} {a b:VL} (ha:a.Right) (hb:b.Right):VL.test VL.cmp op a b=VL.test VL.cmp19 op a b:=by
 unfold VL.test
 by_cases h:a.k=b.k
 · rw [VL.cmp_eq ha hb h]
 · simp [h]
def eN (r:List VL) (op n:Int) (v:VL) (l:List VL):VL × Int :=
 if op=1 then (r.getD n.toNat default,0) else if op=2 then (v,0)
 else if op=12 then VL.dec false (l.getD 0 default) (l.getD 1 default)
 else if op=13 then VL.dec true (l.getD 0 default) (l.getD 1 default)
 else if op=14 then (l.getD 0 default).not19
 else if op=15 then (VL.ofB (decide ((l.getD 0 default).k=0)),0)
 else if cmpB op=true then VL.test VL.cmp19 op (l.getD 0 default) (l.getD 1 default)
 else if (l.getD 0 default).k=0∨(l.getD 1 default).k=0 then (VL.null,0)
 else if (ariR op (l.getD 0 default).n (l.getD 1 default).n).2=0 then (⟨1,(ariR op (l.getD 0 default).n (l.getD 1 default).n).1,⟨#[]⟩⟩,0)
 else (VL.null,360)
def enode (r:List VL) (e:EX) (rs:List (VL × Int)):VL × Int:=if ferr rs=0 then eN r e.op e.n e.val (rs.map (·.1)) else (VL.null,ferr rs)
theorem right_small {v:VL} (h:v.Right):small v.n:=by
 simp only [VL.Right,small] at *;omega
abbrev opK:List AV:=[.int .i64 3,.int .i64 4,.int .i64 5]
abbrev opF:List AV:=[.fn (.func 194) [] [],.fn (.func 196) [] [],.fn (.func 197) [] []]
theorem look3:Al.look (.int .i64) (.raw .nilFunc) opK opF (.int .i64 3)=some (.fn (.func 194) [] [],true):=rfl
theorem look4:Al.look (.int .i64) (.raw .nilFunc) opK opF (.int .i64 4)=some (.fn (.func 196) [] [],true):=rfl
theorem look5:Al.look (.int .i64) (.raw .nilFunc) opK opF (.int .i64 5)=some (.fn (.func 197) [] [],true):=rfl
theorem c123n (r:List VL) (e:EX) (rs:List (VL × Int)) (hlen:rs.length=e.args.length) (har:(e.args.length:Int)=ar e.op) (hcol:e.op=1→0≤e.n∧e.n<r.length) (hR:∀ x ∈ rs,x.1.Right)
 (hrec:∀ j,j<e.args.length→ACalls E.P 123 [(e.args.getD j default).av,rowV r] [] (fun q H=>q=.tup [(rs.getD j default).1.av,.int .i64 (rs.getD j default).2]∧H=[])) :
 ACalls E.P 123 [e.av,rowV r] [] (fun q H=>q=.tup [(enode r e rs).1.av,.int .i64 (enode r e rs).2]∧H=[]):=by
 have hmax:=maxLen_eq
 have hsh:=ar_cases har
 refine ok123.acalls hE hm (by simp) fun N hN=>?_
 unfold mc123 q123_0 z2 z3 pK pY pF pL pG pI pB pQ pR pS pM pW pX pD pA pE pV pO gF oM oI oL oR oF oE oX oS oW
 simp only [lA,seval,av_fs]
 refine LenR_i fun hll=>?_
 rw [List.length_map,hmax] at hll
 simp only [lA,seval,List.length_map]
 refine loop_i (fun i:Nat=>i≤e.args.length∧∀ j,j<i→(rs.getD j default).2=0) (fun i=>⟨[(1,rowV r),(2,.op 0 0),(4,.op 1 0),(6,.slc 2 3 i),(13,.view 6 (e.args.map EX.av)),(14,.int .i64 e.args.length),(15,.int .i64 i)],[.box e.fs,.box [.int .i64 0,.int .i64 0,.str ⟨#[]⟩],.arr 25 3 ((rs.take i).map prV)]⟩) (fun i=>e.args.length - i) 0 ⟨by omega,by omega⟩
  (Ent.ghost' 6 25 3 (by omega) rfl (ent [0,1,2] false (by simp only [lP,seval,pa_prV]<;>(try simp)<;>(try omega)) (by simp only [lP,seval,pa_prV]<;>(try simp)<;>(try omega)))) ?_
 rintro i ⟨hi,ha⟩
 by_cases hin:i<e.args.length
 · have hrec:=hrec i hin
   simp only [av_fs,vl_av] at hrec
   have hlt:((i:Int)<(e.args.length:Int)):=by omega
   have hl:(rs.take i).length=i:=by simp;omega
   repeat' (first|(with_reducible first|(apply St.o;constructor)<;>intro _|refine And.intro (by omega) ?_|(apply Sq.o;constructor))|((with_reducible apply Sc.o true;constructor);simp only [lP,seval,IdxR_exs,Int.toNat_natCast,List.length_map,pa_prV,vw_prV,hlt,decide_true,ti25];refine ⟨_,hrec,?_⟩;rintro _ _ ⟨rfl,rfl⟩;simp only [lA,lP,seval,IdxR_exs,Int.toNat_natCast,List.length_map,pa_prV,vw_prV,hlt,decide_true,ti25])|((with_reducible refine keep0_i ?_);simp only [lP,seval])|simp (disch:=omega) only [lE,seval,IdxR_exs,Int.toNat_natCast,List.length_map,pa_prV,vw_prV,hlt,decide_true,ti25])
   · rename_i h2
     have:=ferr_at (l:=rs) ha (by omega) h2
     simp only [enode,this,if_neg h2]
     rfl
   · rename_i h2
     refine back_i (i+1) ⟨by omega,fun j hj=>?_⟩ (by omega) ?_
     · by_cases hji:j<i
       · exact ha j hji
       · obtain rfl:j=i:=by omega
         exact h2
     · have ht:(rs.take (i+1)).map prV=(rs.take i).map prV++[(rs.getD i default).1.av]:=by
        rw [List.take_succ_eq_append_getElem (show i<rs.length by omega),List.map_append]
        simp [prV,show i<rs.length by omega]
       rw [ht,vl_av]
       exact (ent [0,1,6] false (by simp only [lP,seval,pa_prV,hl,List.map_append]<;>(try simp)<;>(try omega)) (by simp only [lP,seval,pa_prV,hl,List.map_append]<;>(try simp)<;>(try omega)))
 · have hie:i=rs.length:=by omega
   subst hie
   have hf:ferr rs=0:=ferr_none ha
   have hk:enode r e rs=eN r e.op e.n e.val (rs.map (·.1)):=by rw [enode,if_pos hf]
   rw [hk]
   simp only [List.take_length]
   clear hrec hk hf ha
   have hl0:e.args.length=rs.length:=hlen.symm
   rcases hsh with ⟨h0,hop⟩ | ⟨h0,hop⟩ | ⟨h0,hop⟩
   · obtain rfl:rs=[]:=List.eq_nil_of_length_eq_zero (by omega)
     rcases hop with hop | hop
     · obtain ⟨hc1,hc2⟩:=hcol hop
       repeat' (first|(with_reducible first|(apply St.o;constructor)<;>intro _|refine And.intro (by omega) ?_|(apply Sq.o;constructor))|((with_reducible refine keep0_i ?_);simp only [lP,seval])|simp (disch:=omega) only [lE,seval,IdxR_vls,List.length_map,hop,hl0,ti25,Int.lt_irrefl,List.length_nil,List.length_cons,Int.ofNat_zero,decide_false,decide_true])
       all_goals simp [eN,vl_av]
     · repeat' (first|(with_reducible first|(apply St.o;constructor)<;>intro _|refine And.intro (by omega) ?_|(apply Sq.o;constructor))|((with_reducible refine keep0_i ?_);simp only [lP,seval])|simp (disch:=omega) only [lE,seval,List.length_map,hop,hl0,ti25,Int.lt_irrefl,List.length_nil,List.length_cons,Int.ofNat_zero,decide_false,decide_true])
       all_goals simp [eN,vl_av]
   · obtain ⟨x,rfl⟩:∃ x,rs=[x]:=by
      rcases rs with _ | ⟨x,_ | ⟨z,t⟩⟩
      · rw [h0] at hl0;simp at hl0
      · exact ⟨x,rfl⟩
      · rw [h0] at hl0;simp at hl0
     obtain ⟨x,x2⟩:=x
     have hx:x.Right:=hR (x,x2) (by simp)
     have h149:=c149 hx
     have h146:∀ b:Bool,ACalls E.P 146 [.bool b] [] (fun r H=>r=.agg [.int .i64 3,.int .i64 (if b then 1 else 0),.str ⟨#[]⟩]∧H=[]):=c146
     simp only [vl_av] at h149
     simp only [List.length_cons,List.length_nil,List.map_cons,List.map_nil,prV,vl_av]
     rcases hop with hop | hop
     · repeat' (first|(with_reducible first|(apply St.o;constructor)<;>intro _|refine And.intro (by omega) ?_|(apply Sq.o;constructor))|((with_reducible apply Sc.o true;constructor);simp only [lP,seval,epR_cons,List.length_map,hop,hl0,ti25,Int.lt_irrefl,List.length_nil,List.length_cons,Int.ofNat_zero,decide_false,decide_true];(first|refine ⟨_,h149,?_⟩|refine ⟨_,h146 _,?_⟩);rintro _ _ ⟨rfl,rfl⟩;simp only [lA,lP,seval,epR_cons,List.length_map,hop,hl0,ti25,Int.lt_irrefl,List.length_nil,List.length_cons,Int.ofNat_zero,decide_false,decide_true])|((with_reducible refine keep0_i ?_);simp only [lP,seval])|simp (disch:=omega) only [lE,seval,epR_cons,List.length_map,hop,hl0,ti25,Int.lt_irrefl,List.length_nil,List.length_cons,Int.ofNat_zero,decide_false,decide_true])
       all_goals simp [eN]
     · repeat' (first|(with_reducible first|(apply St.o;constructor)<;>intro _|refine And.intro (by omega) ?_|(apply Sq.o;constructor))|((with_reducible apply Sc.o true;constructor);simp only [lP,seval,epR_cons,List.length_map,hop,hl0,ti25,Int.lt_irrefl,List.length_nil,List.length_cons,Int.ofNat_zero,decide_false,decide_true];(first|refine ⟨_,h149,?_⟩|refine ⟨_,h146 _,?_⟩);rintro _ _ ⟨rfl,rfl⟩;simp only [lA,lP,seval,epR_cons,List.length_map,hop,hl0,ti25,Int.lt_irrefl,List.length_nil,List.length_cons,Int.ofNat_zero,decide_false,decide_true])|((with_reducible refine keep0_i ?_);simp only [lP,seval])|simp (disch:=omega) only [lE,seval,epR_cons,List.length_map,hop,hl0,ti25,Int.lt_irrefl,List.length_nil,List.length_cons,Int.ofNat_zero,decide_false,decide_true])
       all_goals simp [eN,VL.ofB]
   · obtain ⟨x,y,rfl⟩:∃ x y,rs=[x,y]:=by
      rcases rs with _ | ⟨x,_ | ⟨y,_ | ⟨z,t⟩⟩⟩
      · rw [h0] at hl0;simp at hl0
      · rw [h0] at hl0;simp at hl0
      · exact ⟨x,y,rfl⟩
      · rw [h0] at hl0;simp at hl0
     obtain ⟨x,x2⟩:=x
     obtain ⟨y,y2⟩:=y
     have hx:x.Right:=hR (x,x2) (by simp)
     have hy:y.Right:=hR (y,y2) (by simp)
     have sx:=right_small hx
     have sy:=right_small hy
     have h147:=c147 hx hy
     have h148:=c148 hx hy
     have h150:=c150 e.op
     have h151:=c151 e.op x y
     have h194:=c194 x.n y.n
     have h196:=c196 x.n y.n
     have h197:=c197 x.n y.n sx sy
     simp only [vl_av] at h147 h148 h151
     simp only [List.length_cons,List.length_nil,List.map_cons,List.map_nil,prV,vl_av]
     have hops:e.op=12∨e.op=13∨(cmpB e.op=true∧e.op≠1∧e.op≠2∧e.op≠12∧e.op≠13∧e.op≠14∧e.op≠15)∨e.op=3∨e.op=4∨e.op=5:=by
      simp only [cmpB,decide_eq_true_eq];omega
     rcases hops with hop | hop | ⟨hop,ho1,ho2,ho3,ho4,ho5,ho6⟩ | hop | hop | hop
     · repeat' (first|(with_reducible first|(apply St.o;constructor)<;>intro _|refine And.intro (by omega) ?_|(apply Sq.o;constructor))|((with_reducible apply Sc.o true;constructor);simp only [lP,seval,epR_cons,List.length_map,hop,hl0,ti25,Int.lt_irrefl,List.length_nil,List.length_cons,Int.ofNat_zero,decide_false,decide_true];refine ⟨_,h147,?_⟩;rintro _ _ ⟨rfl,rfl⟩;simp only [lA,lP,seval,epR_cons,List.length_map,hop,hl0,ti25,Int.lt_irrefl,List.length_nil,List.length_cons,Int.ofNat_zero,decide_false,decide_true])|((with_reducible refine keep0_i ?_);simp only [lP,seval])|simp (disch:=omega) only [lE,seval,epR_cons,List.length_map,hop,hl0,ti25,Int.lt_irrefl,List.length_nil,List.length_cons,Int.ofNat_zero,decide_false,decide_true])
       refine any_i [1] ?_
       repeat' (first|(with_reducible first|(apply St.o;constructor)<;>intro _|refine And.intro (by omega) ?_|(apply Sq.o;constructor))|((with_reducible apply Sc.o true;constructor);simp only [lP,seval,epR_cons,List.length_map,hop,hl0,ti25,Int.lt_irrefl,List.length_nil,List.length_cons,Int.ofNat_zero,decide_false,decide_true];refine ⟨_,h147,?_⟩;rintro _ _ ⟨rfl,rfl⟩;simp only [lA,lP,seval,epR_cons,List.length_map,hop,hl0,ti25,Int.lt_irrefl,List.length_nil,List.length_cons,Int.ofNat_zero,decide_false,decide_true])|((with_reducible refine keep0_i ?_);simp only [lP,seval])|simp (disch:=omega) only [lE,seval,epR_cons,List.length_map,hop,hl0,ti25,Int.lt_irrefl,List.length_nil,List.length_cons,Int.ofNat_zero,decide_false,decide_true])
       all_goals simp [eN]
     · repeat' (first|(with_reducible first|(apply St.o;constructor)<;>intro _|refine And.intro (by omega) ?_|(apply Sq.o;constructor))|((with_reducible apply Sc.o true;constructor);simp only [lP,seval,epR_cons,List.length_map,hop,hl0,ti25,Int.lt_irrefl,List.length_nil,List.length_cons,Int.ofNat_zero,decide_false,decide_true];refine ⟨_,h148,?_⟩;rintro _ _ ⟨rfl,rfl⟩;simp only [lA,lP,seval,epR_cons,List.length_map,hop,hl0,ti25,Int.lt_irrefl,List.length_nil,List.length_cons,Int.ofNat_zero,decide_false,decide_true])|((with_reducible refine keep0_i ?_);simp only [lP,seval])|simp (disch:=omega) only [lE,seval,epR_cons,List.length_map,hop,hl0,ti25,Int.lt_irrefl,List.length_nil,List.length_cons,Int.ofNat_zero,decide_false,decide_true])
       refine any_i [1] ?_
       repeat' (first|(with_reducible first|(apply St.o;constructor)<;>intro _|refine And.intro (by omega) ?_|(apply Sq.o;constructor))|((with_reducible apply Sc.o true;constructor);simp only [lP,seval,epR_cons,List.length_map,hop,hl0,ti25,Int.lt_irrefl,List.length_nil,List.length_cons,Int.ofNat_zero,decide_false,decide_true];refine ⟨_,h148,?_⟩;rintro _ _ ⟨rfl,rfl⟩;simp only [lA,lP,seval,epR_cons,List.length_map,hop,hl0,ti25,Int.lt_irrefl,List.length_nil,List.length_cons,Int.ofNat_zero,decide_false,decide_true])|((with_reducible refine keep0_i ?_);simp only [lP,seval])|simp (disch:=omega) only [lE,seval,epR_cons,List.length_map,hop,hl0,ti25,Int.lt_irrefl,List.length_nil,List.length_cons,Int.ofNat_zero,decide_false,decide_true])
       all_goals simp [eN]
     · repeat' (first|(with_reducible first|(apply St.o;constructor)<;>intro _|refine And.intro (by omega) ?_|(apply Sq.o;constructor))|((with_reducible apply Sc.o true;constructor);simp only [lP,seval,epR_cons,List.length_map,hop,ho1,ho2,ho3,ho4,ho5,ho6,hl0,ti25,Int.lt_irrefl,List.length_nil,List.length_cons,Int.ofNat_zero,decide_false,decide_true];(first|refine ⟨_,h150,?_⟩|refine ⟨_,h151,?_⟩);rintro _ _ ⟨rfl,rfl⟩;simp only [lA,lP,seval,epR_cons,List.length_map,hop,ho1,ho2,ho3,ho4,ho5,ho6,hl0,ti25,Int.lt_irrefl,List.length_nil,List.length_cons,Int.ofNat_zero,decide_false,decide_true])|((with_reducible refine keep0_i ?_);simp only [lP,seval])|simp (disch:=omega) only [lE,seval,epR_cons,List.length_map,hop,ho1,ho2,ho3,ho4,ho5,ho6,hl0,ti25,Int.lt_irrefl,List.length_nil,List.length_cons,Int.ofNat_zero,decide_false,decide_true])
       refine any_i [1] ?_
       repeat' (first|(with_reducible first|(apply St.o;constructor)<;>intro _|refine And.intro (by omega) ?_|(apply Sq.o;constructor))|((with_reducible apply Sc.o true;constructor);simp only [lP,seval,epR_cons,List.length_map,hop,ho1,ho2,ho3,ho4,ho5,ho6,hl0,ti25,Int.lt_irrefl,List.length_nil,List.length_cons,Int.ofNat_zero,decide_false,decide_true];(first|refine ⟨_,h150,?_⟩|refine ⟨_,h151,?_⟩);rintro _ _ ⟨rfl,rfl⟩;simp only [lA,lP,seval,epR_cons,List.length_map,hop,ho1,ho2,ho3,ho4,ho5,ho6,hl0,ti25,Int.lt_irrefl,List.length_nil,List.length_cons,Int.ofNat_zero,decide_false,decide_true])|((with_reducible refine keep0_i ?_);simp only [lP,seval])|simp (disch:=omega) only [lE,seval,epR_cons,List.length_map,hop,ho1,ho2,ho3,ho4,ho5,ho6,hl0,ti25,Int.lt_irrefl,List.length_nil,List.length_cons,Int.ofNat_zero,decide_false,decide_true])
       all_goals simp [eN,ho1,ho2,ho3,ho4,ho5,ho6,hop,test_eq hx hy]
     · have hc:cmpB e.op=false:=by rw [hop];rfl
       rw [hop] at h150 hc
       have hw:IntKind.i64.wrap (x.n+y.n)=x.n+y.n:=wrap_i64 (by obtain ⟨_,_⟩:=sx;obtain ⟨_,_⟩:=sy;omega) (by obtain ⟨_,_⟩:=sx;obtain ⟨_,_⟩:=sy;omega)
       repeat' (first|(with_reducible first|(apply St.o;constructor)<;>intro _|refine And.intro (by omega) ?_|(apply Sq.o;constructor))|((with_reducible apply Sc.o true;constructor);simp only [lP,seval,glob,Option.map_some,look3,hw,epR_cons,List.length_map,hop,hc,hl0,ti25,Int.lt_irrefl,List.length_nil,List.length_cons,Int.ofNat_zero,decide_false,decide_true];(first|refine ⟨_,h150,?_⟩|refine ⟨_,h194,?_⟩);rintro _ _ ⟨rfl,rfl⟩;simp only [lA,lP,seval,glob,Option.map_some,look3,hw,epR_cons,List.length_map,hop,hc,hl0,ti25,Int.lt_irrefl,List.length_nil,List.length_cons,Int.ofNat_zero,decide_false,decide_true])|((with_reducible refine keep0_i ?_);simp only [lP,seval])|simp (disch:=omega) only [lE,seval,glob,Option.map_some,look3,hw,epR_cons,List.length_map,hop,hc,hl0,ti25,Int.lt_irrefl,List.length_nil,List.length_cons,Int.ofNat_zero,decide_false,decide_true])
       all_goals clear h147 h148 h150 h151 h194 h196 h197
       all_goals simp [eN,hc,ariR,ari, *]
       all_goals (try exact ⟨rfl,rfl,rfl⟩)
       all_goals trace_state
     · have hc:cmpB e.op=false:=by rw [hop];rfl
       rw [hop] at h150 hc
       have hw:IntKind.i64.wrap (x.n - y.n)=x.n - y.n:=wrap_i64 (by obtain ⟨_,_⟩:=sx;obtain ⟨_,_⟩:=sy;omega) (by obtain ⟨_,_⟩:=sx;obtain ⟨_,_⟩:=sy;omega)
       repeat' (first|(with_reducible first|(apply St.o;constructor)<;>intro _|refine And.intro (by omega) ?_|(apply Sq.o;constructor))|((with_reducible apply Sc.o true;constructor);simp only [lP,seval,glob,Option.map_some,look4,hw,epR_cons,List.length_map,hop,hc,hl0,ti25,Int.lt_irrefl,List.length_nil,List.length_cons,Int.ofNat_zero,decide_false,decide_true];(first|refine ⟨_,h150,?_⟩|refine ⟨_,h196,?_⟩);rintro _ _ ⟨rfl,rfl⟩;simp only [lA,lP,seval,glob,Option.map_some,look4,hw,epR_cons,List.length_map,hop,hc,hl0,ti25,Int.lt_irrefl,List.length_nil,List.length_cons,Int.ofNat_zero,decide_false,decide_true])|((with_reducible refine keep0_i ?_);simp only [lP,seval])|simp (disch:=omega) only [lE,seval,glob,Option.map_some,look4,hw,epR_cons,List.length_map,hop,hc,hl0,ti25,Int.lt_irrefl,List.length_nil,List.length_cons,Int.ofNat_zero,decide_false,decide_true])
       all_goals clear h147 h148 h150 h151 h194 h196 h197
       all_goals simp [eN,hc,ariR,ari, *]
       all_goals (try exact ⟨rfl,rfl,rfl⟩)
       all_goals trace_state
     · have hc:cmpB e.op=false:=by rw [hop];rfl
       rw [hop] at h150 hc
       repeat' (first|(with_reducible first|(apply St.o;constructor)<;>intro _|refine And.intro (by omega) ?_|(apply Sq.o;constructor))|((with_reducible apply Sc.o true;constructor);simp only [lP,seval,glob,Option.map_some,look5,epR_cons,List.length_map,hop,hc,hl0,ti25,Int.lt_irrefl,List.length_nil,List.length_cons,Int.ofNat_zero,decide_false,decide_true];(first|(refine ⟨_,h150,?_⟩;rintro _ _ ⟨rfl,rfl⟩)|(refine ⟨_,h197,?_⟩;rintro _ _ ⟨⟨n,rfl,hn1,hn2⟩,rfl⟩));simp only [lA,lP,seval,glob,Option.map_some,look5,epR_cons,List.length_map,hop,hc,hl0,ti25,Int.lt_irrefl,List.length_nil,List.length_cons,Int.ofNat_zero,decide_false,decide_true])|((with_reducible refine keep0_i ?_);simp only [lP,seval])|simp (disch:=omega) only [lE,seval,glob,Option.map_some,look5,epR_cons,List.length_map,hop,hc,hl0,ti25,Int.lt_irrefl,List.length_nil,List.length_cons,Int.ofNat_zero,decide_false,decide_true])
       all_goals clear h147 h148 h150 h151 h194 h196 h197
       all_goals first
        | (have h:n=x.n * y.n:=hn1 (by omega)
           subst h
           have h':¬ (x.n * y.n < -549755813888∨549755813887<x.n * y.n):=by omega
           simp [eN,hc,ariR,ari,if_neg h', *];done)
        | (have h:x.n * y.n < -549755813888∨549755813887<x.n * y.n:=by omega
           simp only [eN,ariR,ari,if_pos h]
           simp [hc, *]
           exact ⟨rfl,rfl,rfl⟩)
        | (simp [eN,hc, *];exact ⟨rfl,rfl,rfl⟩)
        | trace_state
set_option maxRecDepth 100000
def mc121:MC:=(.seq (.ops [pK 2 0,pZ 4,pI 5 0]) (.seq (.ops [pR 9 6 2,pM 10 1,pW 11 123 9 10,pM 8 11,pX 12 0 8,pX 13 1 8,(none,.e (.alloc 6 z2)),pS 3 6 12,pM 7 13]) (.seq (.any false (.pure0 none (oM 14 7) (.pure0 none (oE 15 14 0) (.pure0 none (oM 16 15) (.pure0 (some (16,true)) (oR 17 3 6) (.pure0 none (oM 21 7) (.alt (some (16,true)) (.e (.call (some 18) 146 [.c (.bool true)])) (.base (.pure0 (some (16,true)) (.v (.eq 19 false (.agg [(0,false,1,.int),(1,false,1,.int),(2,false,1,.str)]) (.t 17) (.t 18))) (.pure0 none (oP 20 16 19) (.pure0 none (oM 4 20) (.pure0 none (oM 5 21) .done))))) .stop))))))) .ret)))
theorem ok121:FnOk E 121 22 [.tmp 4,.tmp 5] mc121:=ofk func121
set_option maxRecDepth 20000
set_option maxHeartbeats 4000000
def T.eval (r:List VL):T→VL × Int
 | .col n=>(r.getD n.toNat default,0)
 | .val v=>(v,0)
 | .un op a=>if (a.eval r).2=0 then eN r op 0 VL.null [(a.eval r).1] else (VL.null,(a.eval r).2)
 | .bin op a b=>if (a.eval r).2=0 then (if (b.eval r).2=0 then eN r op 0 VL.null [(a.eval r).1,(b.eval r).1] else (VL.null,(b.eval r).2)) else (VL.null,(a.eval r).2)
def T.fits (n:Nat):T→Prop
 | .col k=>0≤k∧k<n
 | .val _=>True
 | .un _ a=>a.fits n
 | .bin _ a b=>a.fits n∧b.fits n
theorem null_right:VL.null.Right:=.inl ⟨rfl,rfl,rfl⟩
theorem ofB_right (b:Bool):(VL.ofB b).Right:=.inr (.inr (.inr ⟨rfl,by cases b <;> simp [VL.ofB],rfl⟩))
theorem dec_right (s:Bool) (a b:VL):(VL.dec s a b).1.Right:=by
 unfold VL.dec
 (repeat' split) <;> first | exact null_right | exact ofB_right _
theorem not_right {a:VL} (h:a.Right):a.not19.1.Right:=by
 unfold VL.not19
 (repeat' split) <;> first | exact null_right | exact ofB_right _ | exact h
theorem test_right (c:VL→VL→Int) (op:Int) (a b:VL):(VL.test c op a b).1.Right:=by
 unfold VL.test
 (repeat' split) <;> first | exact null_right | exact ofB_right _
theorem ariR_range {op a b:Int} (h:(ariR op a b).2=0) : -549755813888≤(ariR op a b).1∧(ariR op a b).1≤549755813887:=by
 unfold ariR at *
 split at h
 · simp at h
 · rename_i h1;rw [if_neg h1];simp only;omega
theorem eN_right {r:List VL} {op n:Int} {v:VL} {l:List VL} (hv:op=2→v.Right) (hr:op=1→(r.getD n.toNat default).Right) (h0:(l.getD 0 default).Right):(eN r op n v l).1.Right:=by
 unfold eN
 split
 · rename_i h;exact hr h
 split
 · rename_i h;exact hv h
 split
 · exact dec_right _ _ _
 split
 · exact dec_right _ _ _
 split
 · exact not_right h0
 split
 · exact ofB_right _
 split
 · exact test_right _ _ _ _
 split
 · exact null_right
 split
 · rename_i h
   have:=ariR_range h
   exact .inr (.inl ⟨rfl,this.1,this.2,rfl⟩)
 · exact null_right
theorem T.eval_right {r:List VL} (hr:∀ v ∈ r,v.Right):∀ t:T,t.wf→t.fits r.length→t.vals VL.Right→(t.eval r).1.Right
 | .col k,_,h,_=>by
   obtain ⟨h1,h2⟩:=h
   have hlt:k.toNat<r.length:=by omega
   simp only [T.eval,List.getD_eq_getElem?_getD,hlt,List.getElem?_eq_getElem,Option.getD_some]
   exact hr _ (List.getElem_mem hlt)
 | .val v,_,_,h=>h
 | .un op a,hw,h,hv=>by
   have ih:=T.eval_right hr a hw.2 h hv
   have:=hw.1
   rw [T.eval]
   split
   · exact eN_right (fun _=>null_right) (fun h=>by omega) ih
   · exact null_right
 | .bin op a b,hw,h,hv=>by
   have ih:=T.eval_right hr a hw.2.1 h.1 hv.1
   have:=hw.1
   rw [T.eval]
   split
   · split
     · exact eN_right (fun _=>null_right) (fun h=>by omega) ih
     · exact null_right
   · exact null_right
theorem enode_un (r:List VL) (op:Int) (a:T):enode r (T.un op a).ex [a.eval r]=(T.un op a).eval r:=by
 simp only [enode,ferr,T.eval,T.ex,EX.op,EX.n,EX.val,List.map_cons,List.map_nil]
 split <;> simp_all <;> rfl
theorem enode_bin (r:List VL) (op:Int) (a b:T):enode r (T.bin op a b).ex [a.eval r,b.eval r]=(T.bin op a b).eval r:=by
 simp only [enode,ferr,T.eval,T.ex,EX.op,EX.n,EX.val,List.map_cons,List.map_nil]
 split <;> rename_i h1 <;> (by_cases h2:(a.eval r).2=0 <;> simp [h2] at h1 ⊢ <;> simp_all <;> rfl)
theorem c123 {r:List VL} (hr:∀ v ∈ r,v.Right):∀ t:T,t.wf→t.fits r.length→t.vals VL.Right→ACalls E.P 123 [t.ex.av,rowV r] [] (fun q H=>q=.tup [(t.eval r).1.av,.int .i64 (t.eval r).2]∧H=[])
 | .col n,_,h,_=>c123n r (T.col n).ex [] rfl (by simp [T.ex,EX.args,EX.op,ar]) (fun _=>h) (by simp) (fun j hj=>by simp [T.ex,EX.args] at hj)
 | .val v,_,_,_=>c123n r (T.val v).ex [] rfl (by simp [T.ex,EX.args,EX.op,ar]) (by simp [T.ex,EX.op]) (by simp) (fun j hj=>by simp [T.ex,EX.args] at hj)
 | .un op a,hw,hf,hv=>by
   have ih:=c123 hr a hw.2 hf hv
   have h:=c123n r (T.un op a).ex [a.eval r] rfl (ar1 hw.1).symm (fun h=>by have:=hw.1;simp only [T.ex,EX.op] at h;omega) (fun x hx=>by rw [List.mem_singleton.1 hx];exact T.eval_right hr a hw.2 hf hv) (fun j hj=>by
    have:j=0:=by simp [T.ex,EX.args] at hj;exact hj
    subst this;exact ih)
   rwa [enode_un] at h
 | .bin op a b,hw,hf,hv=>by
   have ih:=c123 hr a hw.2.1 hf.1 hv.1
   have ih2:=c123 hr b hw.2.2 hf.2 hv.2
   have h:=c123n r (T.bin op a b).ex [a.eval r,b.eval r] rfl (ar2 hw.1).symm (fun h=>by have:=hw.1;simp only [T.ex,EX.op] at h;omega) (fun x hx=>by
    rcases List.mem_cons.1 hx with rfl | hx
    · exact T.eval_right hr a hw.2.1 hf.1 hv.1
    · rw [List.mem_singleton.1 hx];exact T.eval_right hr b hw.2.2 hf.2 hv.2) (fun j hj=>by
    have:j=0∨j=1:=by simp [T.ex,EX.args] at hj;omega
    rcases this with rfl | rfl
    · exact ih
    · exact ih2)
   rwa [enode_bin] at h
def T.holds (r:List VL) (t:T):Bool:=decide ((t.eval r).2=0) && (t.eval r).1.is true
instance:DecidableEq VL:=fun a b=>decidable_of_iff (a.same b=true) VL.same_iff
theorem c121 {r:List VL} (hr:∀ v ∈ r,v.Right) (t:T) (hw:t.wf) (hf:t.fits r.length) (hv:t.vals VL.Right):ACalls E.P 121 [t.ex.av,rowV r] [] (fun q H=>q=.tup [.bool (t.holds r),.int .i64 (t.eval r).2]∧H=[]):=by
 have h:=c123 hr t hw hf hv
 have h146:=c146 true
 have hx:(VL.ofB true).av=.agg [.int .i64 3,.int .i64 1,.str ⟨#[]⟩]:=rfl
 unfold T.holds
 simp only [av_fs,vl_av] at h h146
 rw [show (VL.ofB true).cs=[.int .i64 3,.int .i64 1,.str ⟨#[]⟩] from rfl] at h146
 simp only [VL.is,if_true]
 generalize t.eval r=v at *
 obtain ⟨v,v2⟩:=v
 refine ok121.acalls hE hm (by simp) fun N hN=>?_
 unfold mc121 z2 pK pZ pI pR pM pW pX pS oM oR oE oP
 simp only [lA,seval,av_fs]
 repeat' (first|(with_reducible first|(apply St.o;constructor)<;>intro _|refine And.intro (by omega) ?_|(apply Sq.o;constructor))|((with_reducible apply Sc.o true;constructor);simp only [lP,seval,ti25,flatEq,strA];(first|refine ⟨_,h,?_⟩|refine ⟨_,h146,?_⟩);rintro _ _ ⟨rfl,rfl⟩;simp only [lA,lP,seval,ti25,flatEq,strA])|((with_reducible refine keep0_i ?_);simp only [lP,seval])|simp (disch:=omega) only [lE,seval,ti25,flatEq,strA])
 all_goals (rename_i h0;simp [h0,and_assoc])
set_option maxRecDepth 100000
def mc111:MC:=(.seq (.ops [pK 3 1,(none,.e (.alloc 4 [.int .i64 0])),(none,.e (.alloc 5 [.int .i64 0]))]) (.seq (.seq (.ops [pR 7 6 3,pV 8 130 7,(none,.v (.bin 9 .gtr false (.t 8) (.c (.int .i64 200))))]) (.cond 9 (.seq (.ops [(none,.e (.store 1 false (.t 4) (.c (.int .i64 0)))),(none,.e (.store 1 false (.t 5) (.c (.int .i64 2))))]) .ret) .skip)) (.seq (.seq (.ops [pR 10 6 3,pV 11 131 10]) (.block 0 (.rngf (.t 11) #[12] (.ops [(none,.e (.alloc 6 z3)),pS 6 6 12]) (.block 1 (.seq (.ops [pR 13 6 6,pV 14 132 13,pN 15 14]) (.cond 15 (.seq (.ops [(none,.e (.store 1 false (.t 4) (.c (.int .i64 0)))),(none,.e (.store 1 false (.t 5) (.c (.int .i64 3))))]) .ret) .skip)))))) (.seq (.ops [pM 16 0,pR 17 6 3,pW 18 133 16 17,pX 19 0 18,pX 20 1 18,(none,.e (.store 1 false (.t 4) (.t 19))),(none,.e (.store 1 false (.t 5) (.t 20)))]) .ret))))
theorem ok111:FnOk E 111 21 [.cell 4 3,.cell 5 44] mc111:=ofk func111
set_option maxRecDepth 20000
set_option maxHeartbeats 8000000
theorem wrap_wrap (a b:Int):IntKind.i64.wrap (IntKind.i64.wrap a+IntKind.i64.wrap b)=IntKind.i64.wrap (a+b):=by
 rw [IntKind.wrap_i64,IntKind.wrap_i64,IntKind.wrap_i64,IntKind.wrap_i64];omega
theorem wrap1:IntKind.i64.wrap 1=1:=rfl
theorem wrap1n:IntKind.i64.wrap ((1:Nat):Int)=1:=rfl
theorem ti3:E.TI 3=some ⟨.int .i64,1,8,[.int .i64 0],false,false,false⟩:=rfl
theorem ti44:E.TI 44=some ⟨.int .i64,1,8,[.int .i64 0],false,false,false⟩:=rfl
def chk (ks:List Int) (e:EX):Int × Int:=if 200<IntKind.i64.wrap e.count then (0,2) else if e.formed=true then e.tr.kind ks else (0,3)
section
variable {m:Nat} {N:FN} {id:Nat} {o:LoopState→Option Code→AObj} {Q:AV→List AObj→Prop} {fr:List (Nat × AV)} {H:List AObj}
theorem ent_take (k:Nat) (hm:m≤(H.take k).length) (hs:(H.take k).all (scO (H.take k).length)=true):Ent m N ⟨fr,H⟩ ⟨[],H.take k⟩:=by
 have:=Ent.drop (N:=N) (fr:=fr) (fr':=[]) (L:=H.drop k) hm hs trivial
 rwa [List.take_append_drop] at this
theorem round_take (k:Nat) (hm:m≤(H.take k).length) (hs:(H.take k).all (scO (H.take k).length)=true) (h1:(H.take k)[id]?=some (o .busy none)) (h2:Q (.bool true) ((H.take k).set id (o .ready none))):roundQ m N id o Q .normal ⟨fr,H⟩ :=
 ⟨H.take k,ent_take k hm hs,h1,h2⟩
theorem ret_take (k:Nat) (hm:m≤(H.take k).length) (hs:(H.take k).all (scO (H.take k).length)=true) (h1:(H.take k)[id]?=some (o .busy none)) (h2:Q (.bool false) ((H.take k).set id (o .done (some .ret)))):roundQ m N id o Q .ret ⟨fr,H⟩ :=
 ⟨H.take k,ent_take k hm hs,h1,h2⟩
end
mutual
theorem walk_all (p:EX→Bool) (q:EX→Bool) (ql:List EX→Bool) (h1:∀ e,q e=(p e && ql e.args)) (h2:ql []=true) (h3:∀ e l,ql (e::l)=(q e && ql l)):∀ e:EX,walk (fun _ x=>(p x,!p x)) e false=(q e,!q e)
 | .mk op n k i s args=>by
   rw [walk,h1]
   simp only [EX.args]
   cases hp:p (.mk op n k i s args) with
   | false=>simp
   | true=>simp [walkL_all p q ql h1 h2 h3 args]
theorem walkL_all (p:EX→Bool) (q:EX→Bool) (ql:List EX→Bool) (h1:∀ e,q e=(p e && ql e.args)) (h2:ql []=true) (h3:∀ e l,ql (e::l)=(q e && ql l)):∀ l:List EX,walkL (fun _ x=>(p x,!p x)) l false=(ql l,!ql l)
 | []=>by simp [walkL,h2]
 | e::l=>by
   rw [walkL,h3,walk_all p q ql h1 h2 h3 e]
   cases q e with
   | false=>simp
   | true=>simp [walkL_all p q ql h1 h2 h3 l]
end
theorem walk_formed (e:EX):walk (fun _ x=>(x.fm,!x.fm)) e false=(e.formed,!e.formed) :=
 walk_all EX.fm EX.formed EX.formedL (fun e=>by rw [formed_eq,formedL_all]) rfl (fun _ _=>rfl) e
theorem c111 (ks:List Int) (e:EX) (hI:e.okI):ACalls E.P 111 [ksV ks,e.av] [] (fun r H=>r=.tup [.int .i64 (chk ks e).1,.int .i64 (chk ks e).2]∧H=[]):=by
 have h1:=c130 e
 have h131:=c131 e
 have h3:e.formed=true→ACalls E.P 133 [ksV ks,e.av] [] (fun r H=>r=.tup [.int .i64 (e.tr.kind ks).1,.int .i64 (e.tr.kind ks).2]∧H=[]):=fun h=>by
  obtain ⟨h1,h2,h4⟩:=ex_tr e h
  have:=c133 ks e.tr h2 (h4 hI)
  rwa [h1] at this
 simp only [av_fs,cs_fs] at h1 h3 h131
 generalize hc:IntKind.i64.wrap (e.count:Int)=c at h1
 refine ok111.acalls hE hm (by simp) fun N hN=>?_
 unfold mc111 z3 pK pR pV pS pN pM pW pX
 simp only [lA,seval,av_fs]
 repeat' (first|(with_reducible first|(apply St.o;constructor)<;>intro _|refine And.intro (by omega) ?_|(apply Sq.o;constructor))|((with_reducible apply Sc.o true;constructor);simp only [lP,seval,ti3,ti44];refine ⟨_,h1,?_⟩;rintro _ _ ⟨rfl,rfl⟩;simp only [lA,lP,seval,ti3,ti44])|((with_reducible apply Sc.o false;constructor);simp only [lP,seval,ti3,ti44];refine ⟨_,h131,?_⟩;rintro _ _ ⟨rfl,rfl⟩;simp only [lA,lP,seval,ti3,ti44])|((with_reducible refine keep0_i ?_);simp only [lP,seval])|simp (disch:=omega) only [lE,seval,ti3,ti44])
 · rename_i h
   simp only [chk,hc,if_pos h]
 rename_i h
 refine rng_i hN [(4,.op 1 0),(5,.op 2 0)] (by simp [FrSub,Go.Al.get]) fun fn cas bd hy=>?_
 let st:Bool→List AObj:=fun b=>[.box e.fs,.box [.int .i64 0],.box [.int .i64 (if b then 3 else 0)],.loop (if b then .done else .ready) (if b then some .ret else none) [(4,.op 1 0),(5,.op 2 0)] N.n fn #[12] cas bd]
 have hY:∀ (x:EX),AYield E.P 3 [x.av] (st false) (fun r H'=>r=.bool x.fm∧H'=st (!x.fm)):=by
  intro x
  have h132:=c132 x
  simp only [av_fs] at h132
  refine hy 3 [(4,.op 1 0),(5,.op 2 0)] [x.av] (st false) _ rfl rfl fun N2 hN2=>?_
  simp only [lA,seval,st,av_fs]
  repeat' (first|(with_reducible first|(apply St.o;constructor)<;>intro _|refine And.intro (by omega) ?_|(apply Sq.o;constructor))|((with_reducible apply Sc.o true;constructor);simp only [lP,seval];refine ⟨_,h132,?_⟩;rintro _ _ ⟨rfl,rfl⟩;simp only [lA,lP,seval])|((with_reducible refine keep0_i ?_);simp only [lP,seval])|simp (disch:=omega) only [lE,seval])
  · rename_i h
    have hx:x.fm=false:=by simpa using h
    rw [hx]
    exact ret_take (o:=fun st pd=>.loop st pd [(4,.op 1 0),(5,.op 2 0)] N.n fn #[12] cas bd) 4 (by simp) (by simp [scO,scL,sc]) rfl ⟨rfl,rfl⟩
  · rename_i h
    have hx:x.fm=true:=by simpa using h
    rw [hx]
    exact round_take (o:=fun st pd=>.loop st pd [(4,.op 1 0),(5,.op 2 0)] N.n fn #[12] cas bd) 4 (by simp) (by simp [scO,scL,sc]) rfl ⟨rfl,rfl⟩
 have h154:=c154 (st:=st) (K:=4) (id:=3) (f:=fun _ x=>(x.fm,!x.fm)) (live:=fun b=>b=false) (fun _=>rfl) (by omega) (fun b=>by cases b <;> simp [st,scO,sc,scL]) (fun b x hb hx=>by simpa using hx)
  (fun b x hb=>by subst hb;exact hY x) e false rfl
 rw [walk_formed,cs_fs] at h154
 refine ⟨_,h154,?_⟩
 rintro r _ rfl
 cases hf:e.formed with
 | false =>
   refine ⟨.done,some .ret,[(4,.op 1 0),(5,.op 2 0)],rfl,by simp,[(4,.op 1 0),(5,.op 2 0)],(st true).set 3 .lost,Ent.fr (by simp [FrSub,Go.Al.get]),?_⟩
   simp only [lA,seval,st,ti3,ti44]
   refine keep0_i ?_
   simp only [lP,seval]
   simp [chk,hc,if_neg h,hf]
 | true =>
   have h4:=h3 hf
   refine ⟨.ready,none,[(4,.op 1 0),(5,.op 2 0)],rfl,by simp,[(0,ksV ks),(3,.op 0 0),(4,.op 1 0),(5,.op 2 0)],(st false).set 3 .lost,Ent.fr (by simp [FrSub,Go.Al.get]),?_⟩
   simp only [lA,seval,st,ti3,ti44]
   repeat' (first|(with_reducible first|(apply St.o;constructor)<;>intro _|refine And.intro (by omega) ?_|(apply Sq.o;constructor))|((with_reducible apply Sc.o true;constructor);simp only [lP,seval,ti3,ti44];refine ⟨_,h4,?_⟩;rintro _ _ ⟨rfl,rfl⟩;simp only [lA,lP,seval,ti3,ti44])|((with_reducible refine keep0_i ?_);simp only [lP,seval])|simp (disch:=omega) only [lE,seval,ti3,ti44])
   simp [chk,hc,if_neg h,hf]
set_option maxRecDepth 100000
abbrev q108_0:MI:=oZ 4
def mc108:MC:=(.seq (.ops [(none,q108_0)]) (.seq (.seq (.ops [pM 7 0,pG 8 7,(none,.v (.bin 9 .gtr false (.t 8) (.c (.int .i64 20)))),pM 10 9,gF 10 (oM 11 1),gF 10 (oG 12 11),gF 10 (oM 13 0),gF 10 (oG 14 13),(some (10,false),.v (.bin 15 .neq false (.t 12) (.t 14))),pO 16 10 15]) (.cond 16 (.seq (.ops [(none,q108_0)]) .ret) .skip)) (.seq (.seq (.ops [pI 5 0]) (.block 0 (.loop (.seq (.seq (.ops [pM 17 5,pM 18 1,pG 19 18,pB 20 17 19]) (.cond 20 .skip (.exit 0))) (.seq (.block 1 (.seq (.ops [pM 23 1,pM 24 5,pQ 25 3 23 24,pR 26 3 25,pV 27 58 26,pM 6 27]) (.seq (.any false (.pure0 none (oM 28 6) (.pure0 none (oN 29 28) (.pure0 none (oM 30 29) (.pure0 (some (30,false)) (oM 31 1) (.pure0 (some (30,false)) (oM 32 5) (.pure0 (some (30,false)) (oQ 33 3 31 32) (.pure0 (some (30,false)) (oF 34 0 33) (.pure0 (some (30,false)) (oL 35 34) (.pure0 (some (30,false)) (oD 36 35 0) (.pure0 (some (30,false)) (oM 37 36) (.pure0 (some (37,true)) (oM 38 1) (.pure0 (some (37,true)) (oM 39 5) (.pure0 (some (37,true)) (oQ 40 3 38 39) (.pure0 (some (37,true)) (oF 41 0 40) (.pure0 (some (37,true)) (oL 42 41) (.pure0 (some (37,true)) (oM 43 0) (.pure0 (some (37,true)) (oM 44 5) (.pure0 (some (37,true)) (oQ 45 1 43 44) (.pure0 (some (37,true)) (oL 46 45) (.pure0 (some (37,true)) (.v (.bin 47 .neq false (.t 42) (.t 46))) (.pure0 (some (30,false)) (oP 48 37 47) (.pure0 none (oO 49 30 48) .done))))))))))))))))))))))) (.cond 49 (.seq (.ops [(none,q108_0)]) .ret) .skip)))) (.ops [pM 21 5,pA 22 21 1,pM 5 22])))))) (.seq (.ops [(none,.v (.mov 4 (.c (.bool true))))]) .ret))))
theorem ok108:FnOk E 108 50 [.tmp 4] mc108:=ofk func108
set_option maxRecDepth 20000
theorem kind_ok (ks:List Int):∀ t:T,t.wf→(t.kind ks).2=0→t.fits ks.length∧t.vals VL.Right
 | .col n,_,h=>by
   simp only [T.kind,kN,if_pos] at h
   refine ⟨?_,trivial⟩
   split at h
   · simp at h
   · simp only [T.fits];omega
 | .val v,_,h=>by
   refine ⟨trivial,?_⟩
   by_cases hv:v.Right
   · exact hv
   · simp [T.kind,kN,hv] at h
 | .un op a,hw,h=>by
   rw [T.kind] at h
   split at h
   · rename_i h1;exact kind_ok ks a hw.2 h1
   · exact absurd h (by assumption)
 | .bin op a b,hw,h=>by
   rw [T.kind] at h
   split at h
   · split at h
     · rename_i h1 h2
       obtain ⟨a1,a2⟩:=kind_ok ks a hw.2.1 h1
       obtain ⟨b1,b2⟩:=kind_ok ks b hw.2.2 h2
       exact ⟨⟨a1,b1⟩,a2,b2⟩
     · exact absurd h (by assumption)
   · exact absurd h (by assumption)
theorem chk_ok {ks:List Int} {e:EX} (h:(chk ks e).2=0):e.formed=true∧(e.tr.kind ks).2=0∧chk ks e=e.tr.kind ks:=by
 unfold chk at h ⊢
 split at h
 · simp at h
 · rename_i h1
   split at h
   · rename_i h2;exact ⟨h2,h,by rw [if_neg h1,if_pos h2]⟩
   · simp at h
def inCol (ks:List Int) (r:List VL) (i:Nat):Prop:=(r.getD i default).Right∧((r.getD i default).k=0∨(r.getD i default).k=ks.getD i 0)
instance (ks:List Int) (r:List VL) (i:Nat):Decidable (inCol ks r i):=by unfold inCol;infer_instance
def OfR (ks:List Int) (r:List VL):Prop:=ks.length≤20∧r.length=ks.length∧∀ i,i<r.length→inCol ks r i
instance (ks:List Int) (r:List VL):Decidable (OfR ks r):=by unfold OfR;infer_instance
theorem all_snoc {P:Nat→Prop} {i:Nat} (h:∀ j,j<i→P j) (hi:P i):∀ j,j<i+1→P j:=fun j hj=>by
 by_cases hji:j=i
 · rw [hji];exact hi
 · exact h j (by omega)
theorem c108 (ks:List Int) (r:List VL):ACalls E.P 108 [ksV ks,rowV r] [] (fun q H=>q=.bool (decide (OfR ks r))∧H=[]):=by
 have hmax:=maxLen_eq
 have h58:∀ v:VL,ACalls E.P 58 [.agg v.cs] [] (fun r H=>r=.bool (decide v.Right)∧H=[]):=c58
 refine ok108.acalls hE hm (by simp) fun N hN=>?_
 unfold mc108 q108_0 pM pG pO pI pB pQ pR pV pA gF oM oL oF oD oZ oP oO oN oG oQ
 simp only [lA,seval]
 repeat' (first|(with_reducible first|(apply St.o;constructor)<;>intro _|refine And.intro (by omega) ?_|(apply Sq.o;constructor))|((with_reducible refine keep0_i ?_);simp only [lP,seval])|simp (disch:=omega) only [lE,seval,List.length_map])
 · have:¬ OfR ks r:=fun h=>by have:=h.1;have:=h.2.1;omega
   simp [this]
 · rename_i h2 h3 h4
   rw [List.length_map] at *
   have hlen:r.length=ks.length:=by omega
   refine loop_i (fun i:Nat=>i≤r.length∧∀ j,j<i→inCol ks r j) (fun i=>⟨[(0,ksV ks),(1,rowV r),(5,.int .i64 i)],[]⟩) (fun i=>r.length - i) 0 ⟨by omega,fun j hj=>by omega⟩ (ent [] false (by simp only [lP,seval,List.length_map]<;>(try simp)<;>(try omega)) (by simp only [lP,seval,List.length_map]<;>(try simp)<;>(try omega))) ?_
   rintro i ⟨hi,ho⟩
   repeat' (first|(with_reducible first|(apply St.o;constructor)<;>intro _|refine And.intro (by omega) ?_|(apply Sq.o;constructor))|((with_reducible apply Sc.o false;constructor);simp only [lP,seval,IdxR_vls,IdxR_ints,Int.toNat_natCast,List.length_map];refine ⟨_,h58 _,?_⟩;rintro _ _ ⟨rfl,rfl⟩;simp only [lA,lP,seval,IdxR_vls,IdxR_ints,Int.toNat_natCast,List.length_map])|((with_reducible refine keep0_i ?_);simp only [lP,seval])|simp (disch:=omega) only [lE,seval,IdxR_vls,IdxR_ints,Int.toNat_natCast,List.length_map])
   · rename_i g1 g2 g3 g4
     have:¬ OfR ks r:=fun h=>by rcases (h.2.2 i (by omega)).2 with k | k <;> contradiction
     simp [this]
   · rename_i g1 g2 g3 g4
     exact back_i (i+1) ⟨by omega,all_snoc ho ⟨g2,.inr g4⟩⟩ (by omega) (ent [] false)
   · rename_i g1 g2 g3
     exact back_i (i+1) ⟨by omega,all_snoc ho ⟨g2,.inl g3⟩⟩ (by omega) (ent [] false)
   · rename_i g1 g2
     have:¬ OfR ks r:=fun h=>g2 (h.2.2 i (by omega)).1
     simp [this]
   · rename_i g1
     have:OfR ks r:=⟨by omega,hlen,fun j hj=>ho j (by omega)⟩
     simp [this]
 · have:¬ OfR ks r:=fun h=>by have:=h.1;have:=h.2.1;omega
   simp [this]
set_option maxRecDepth 100000
def mc51:MC:=(.seq (.ops [pK 2 0,pK 3 1,pZ 4]) (.seq (.ops [pF 5 0 2,pL 6 5,pF 7 0 3,pL 8 7,(none,.v (.bin 9 .eql false (.t 6) (.t 8))),pM 10 9,gT 10 (oF 11 1 2),gT 10 (oL 12 11),gT 10 (oF 13 1 3),gT 10 (oL 14 13),(some (10,true),.v (.bin 15 .eql false (.t 12) (.t 14))),pP 16 10 15,pM 17 16,gT 17 (oF 18 2 2),gT 17 (oR 19 3 18),gT 17 (oF 20 2 3),gT 17 (oR 21 3 20),(some (17,true),.v (.eq 22 false (.agg [(0,false,1,.int),(1,false,1,.int),(2,false,1,.str)]) (.t 19) (.t 21))),pP 23 17 22,pM 24 23,gT 24 (oF 25 5 2),gT 24 (oL 26 25),gT 24 (oF 27 5 3),gT 24 (oL 28 27),(some (24,true),.e (.call (some 29) 52 [.t 26,.t 28,.c (.fn (.func 51) [] [])])),pP 30 24 29,pM 4 30]) .ret))
theorem ok51:FnOk E 51 31 [.tmp 4] mc51:=ofk func51
abbrev q52_0:MI:=oZ 6
def mc52:MC:=(.seq (.ops [(none,q52_0)]) (.seq (.seq (.ops [pM 10 0,pG 11 10,pM 12 1,pG 13 12,(none,.v (.bin 14 .neq false (.t 11) (.t 13)))]) (.cond 14 (.seq (.ops [(none,q52_0)]) .ret) .skip)) (.seq (.seq (.ops [pM 15 0,pG 16 15,pI 17 0]) (.block 0 (.loop (.seq (.ops [pB 18 17 16]) (.seq (.cond 18 .skip (.exit 0)) (.seq (.block 1 (.seq (.ops [pM 19 17,pQ 20 6 15 17,pR 21 6 20,(none,.e (.alloc 8 z3)),pM 7 19,pS 6 8 21]) (.seq (.ops [pM 22 1,pM 23 7,pQ 24 6 22 23,pR 25 6 24,(none,.e (.alloc 9 z3)),pS 6 9 25]) (.seq (.ops [pM 26 2,pR 27 6 8,pR 28 6 9,(none,.e (.callv (some 29) (.t 26) [.t 27,.t 28])),pN 30 29]) (.cond 30 (.seq (.ops [(none,q52_0)]) .ret) .skip))))) (.ops [pA 31 17 1,pM 17 31]))))))) (.seq (.ops [(none,.v (.mov 6 (.c (.bool true))))]) .ret))))
theorem ok52:FnOk E 52 32 [.tmp 6] mc52:=ofk func52
set_option maxRecDepth 20000
noncomputable def eqE (a b:EX):Bool:=@decide (a=b) (Classical.propDecidable _)
noncomputable def eqL (l m:List EX):Bool:=@decide (l=m) (Classical.propDecidable _)
theorem eqE_iff {a b:EX}:eqE a b=true↔a=b:=by simp [eqE]
theorem eqL_iff {a b:List EX}:eqL a b=true↔a=b:=by simp [eqL]
theorem eqE_false {a b:EX}:eqE a b=false↔a≠b:=by rw [← Bool.not_eq_true,eqE_iff]
theorem eqL_false {a b:List EX}:eqL a b=false↔a≠b:=by rw [← Bool.not_eq_true,eqL_iff]
theorem ex_eq {a b:EX}:a=b↔a.op=b.op∧a.n=b.n∧(a.val.k=b.val.k∧a.val.n=b.val.n∧a.val.s=b.val.s)∧a.args=b.args:=by
 cases a;cases b
 simp [EX.op,EX.n,EX.val,EX.args,and_assoc]
theorem list_eq {l m:List EX} (h1:l.length=m.length) (h2:∀ j,j<l.length→l.getD j default=m.getD j default):l=m:=by
 apply List.ext_getElem h1
 intro i hi hi2
 have:=h2 i hi
 simpa [hi,hi2] using this
theorem c52n (l m:List EX) (hrec:∀ j,j<l.length→∀ y:EX,ACalls E.P 51 [(l.getD j default).av,y.av] [] (fun r H=>r=.bool (eqE (l.getD j default) y)∧H=[])) :
 ACalls E.P 52 [.view 6 (l.map EX.av),.view 6 (m.map EX.av),.fn (.func 51) [] []] [] (fun r H=>r=.bool (eqL l m)∧H=[]):=by
 have hmax:=maxLen_eq
 refine ok52.acalls hE hm (by simp) fun N hN=>?_
 unfold mc52 q52_0 z3 pM pG pI pB pQ pR pS pN pA oZ
 simp only [lA,seval]
 repeat' (first|(with_reducible first|(apply St.o;constructor)<;>intro _|refine And.intro (by omega) ?_|(apply Sq.o;constructor))|((with_reducible refine keep0_i ?_);simp only [lP,seval])|simp (disch:=omega) only [lE,seval,List.length_map])
 · rename_i h
   have:l≠m:=fun h2=>by subst h2;omega
   simp [eqL_false.2 this]
 · rename_i h
   have hlen:l.length=m.length:=by omega
   refine loop_i (fun i:Nat=>i≤l.length∧∀ j,j<i→l.getD j default=m.getD j default) (fun i=>⟨[(1,.view 6 (m.map EX.av)),(2,.fn (.func 51) [] []),(15,.view 6 (l.map EX.av)),(16,.int .i64 l.length),(17,.int .i64 i)],[]⟩) (fun i=>l.length - i) 0 ⟨by omega,by simp⟩ (ent [] false) ?_
   rintro i ⟨hi,ha⟩
   by_cases hin:i<l.length
   · have hr:=hrec i hin (m.getD i default)
     have hlt:((i:Int)<(l.length:Int)):=by omega
     simp only [av_fs] at hr
     repeat' (first|(with_reducible first|(apply St.o;constructor)<;>intro _|refine And.intro (by omega) ?_|(apply Sq.o;constructor))|((with_reducible apply Sc.o true;constructor);simp only [lP,seval,IdxR_exs,Int.toNat_natCast,List.length_map,hlt,decide_true];refine ⟨_,hr,?_⟩;rintro _ _ ⟨rfl,rfl⟩;simp only [lA,lP,seval,IdxR_exs,Int.toNat_natCast,List.length_map,hlt,decide_true])|((with_reducible refine keep0_i ?_);simp only [lP,seval])|simp (disch:=omega) only [lE,seval,IdxR_exs,Int.toNat_natCast,List.length_map,hlt,decide_true])
     · rename_i h2
       have h3:¬ (l.getD i default=m.getD i default):=eqE_false.1 (by simpa using h2)
       have:l≠m:=fun h4=>by subst h4;exact h3 rfl
       simp [eqL_false.2 this]
     · rename_i h2
       have h3:l.getD i default=m.getD i default:=eqE_iff.1 (by simpa using h2)
       refine back_i (i+1) ⟨by omega,fun j hj=>?_⟩ (by omega) (ent [] false)
       by_cases hji:j<i
       · exact ha j hji
       · obtain rfl:j=i:=by omega
         exact h3
   · obtain rfl:i=l.length:=by omega
     have:l=m:=list_eq hlen ha
     repeat' (first|(with_reducible first|(apply St.o;constructor)<;>intro _|refine And.intro (by omega) ?_|(apply Sq.o;constructor))|((with_reducible refine keep0_i ?_);simp only [lP,seval])|simp (disch:=omega) only [lE,seval,List.length_map,Int.lt_irrefl,decide_false])
     simp [eqL_iff.2 this]
theorem c51 (a b:EX):ACalls E.P 51 [a.av,b.av] [] (fun r H=>r=.bool (eqE a b)∧H=[]):=by
 generalize hsz:SizeOf.sizeOf a=sz
 induction sz using Nat.strongRecOn generalizing a b with
 | _ sz ih =>
 have h52:=c52n a.args b.args fun j hj y=>ih _ (by subst hsz;exact size_args hj) _ y rfl
 refine ok51.acalls hE hm (by simp) fun N hN=>?_
 unfold mc51 pK pZ pF pL pM pP gT oL oR oF
 simp only [lA,seval,av_fs]
 repeat' (first|(with_reducible first|(apply St.o;constructor)<;>intro _|refine And.intro (by omega) ?_|(apply Sq.o;constructor))|((with_reducible apply Sc.o true;constructor);simp only [lP,seval,strA,flatEq];refine ⟨_,h52,?_⟩;rintro _ _ ⟨rfl,rfl⟩;simp only [lA,lP,seval,strA,flatEq])|((with_reducible refine keep0_i ?_);simp only [lP,seval])|simp (disch:=omega) only [lE,seval,strA,flatEq])
 all_goals clear h52 ih
 · rename_i h1 h2 h3
   have h3:a.val.k=b.val.k∧a.val.n=b.val.n∧a.val.s=b.val.s:=by simpa using h3
   have:eqE a b=eqL a.args b.args:=by
    rw [Bool.eq_iff_iff,eqE_iff,eqL_iff,ex_eq]
    exact ⟨fun h=>h.2.2.2,fun h=>⟨h1,h2,h3,h⟩⟩
   simp [this]
 all_goals
  have:a≠b:=fun h=>by
   subst h
   simp_all
  simp [eqE_false.2 this]
end Go.Proofs.Try
