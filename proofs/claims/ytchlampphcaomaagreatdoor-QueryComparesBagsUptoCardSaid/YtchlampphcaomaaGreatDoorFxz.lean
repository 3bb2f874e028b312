/-
 A part of the proof: see the text of the law.
-/
import Derived.Test.YtchlampphcaomaaGreatDoorFxg
set_option linter.unusedSimpArgs false
set_option linter.unusedVariables false
namespace Go.Proofs.Try
open Go.Proofs.Tryz
open Go.Al
set_option maxRecDepth 100000
abbrev q133_0:MI:=.v (.mov 4 (.c (.int .i64 0)))
abbrev q133_1:MI:=.v (.mov 5 (.c (.int .i64 0)))
abbrev q133_2:MI:=.v (.mov 5 (.c (.int .i64 7)))
def mc133:MC:=(.seq (.ops [(none,.e (.box 3 (.t 1))),(none,q133_0),(none,q133_1)]) (.seq (.ops [(none,.e (.alloc 6 [.raw (.slice none 0 0)]))]) (.seq (.seq (.ops [(none,.v (.fld 12 5 (.t 3))),(none,.v (.load 13 false 1 (.t 12))),(none,.p (.len 14 (.t 13))),(none,.v (.mov 15 (.c (.int .i64 0))))]) (.block 0 (.loop (.seq (.ops [(none,.v (.bin 16 .lss false (.t 15) (.t 14)))]) (.seq (.cond 16 .skip (.exit 0)) (.seq (.block 1 (.seq (.ops [(none,.p (.idx 17 6 (.t 13) (.t 15))),(none,.v (.load 18 true 6 (.t 17))),(none,.e (.alloc 8 z3)),(none,.e (.store 6 true (.t 8) (.t 18)))]) (.seq (.ops [(none,.v (.mov 20 (.t 0))),(none,.v (.load 21 true 6 (.t 8))),(none,.e (.call (some 22) 133 [.t 20,.t 21])),(none,.v (.mov 19 (.t 22))),(none,.v (.ext 23 0 (.t 19))),(none,.v (.ext 24 1 (.t 19))),(none,.v (.mov 9 (.t 23))),(none,.v (.mov 10 (.t 24)))]) (.seq (.seq (.ops [(none,.v (.mov 25 (.t 10))),(none,.v (.bin 26 .neq false (.t 25) (.c (.int .i64 0))))]) (.cond 26 (.seq (.ops [(none,.v (.mov 27 (.t 10))),(none,q133_0),(none,.v (.mov 5 (.t 27)))]) .ret) .skip)) (.ops [(none,.v (.load 28 false 1 (.t 6))),(none,.v (.mov 29 (.t 9))),(none,.e (.mkl 30 3 1 1 (.int .i64 0) [(0,.t 29)])),(none,.e (.app 31 3 1 8 (.t 28) (.t 30))),(none,.e (.store 1 false (.t 6) (.t 31)))]))))) (.ops [(none,.v (.bin 32 .add false (.t 15) (.c (.int .i64 1)))),(none,.v (.mov 15 (.t 32)))]))))))) (.seq (.ops [(none,.v (.fn 33 (.func 157) [] [.t 6])),(none,.v (.mov 11 (.t 33)))]) (.seq (.block 2 (.seq (.ops [(none,.v (.fld 35 0 (.t 3))),(none,.v (.load 36 false 1 (.t 35))),(none,.v (.bin 37 .eql false (.t 36) (.c (.int .i64 1)))),(none,.v (.mov 34 (.t 37)))]) (.cond 34 (.seq (.seq (.ops [(none,.v (.fld 38 1 (.t 3))),(none,.v (.load 39 false 1 (.t 38))),(none,.v (.bin 40 .lss false (.t 39) (.c (.int .i64 0)))),(none,.v (.mov 41 (.t 40))),(some (41,false),.v (.fld 42 1 (.t 3))),(some (41,false),.v (.load 43 false 1 (.t 42))),(some (41,false),.v (.mov 44 (.t 0))),(some (41,false),.p (.len 45 (.t 44))),(some (41,false),.v (.bin 46 .geq false (.t 43) (.t 45))),(none,.v (.pick 47 (.t 41) (.c (.bool true)) (.t 46))),(none,.v (.mov 48 (.t 47))),(some (48,false),.v (.mov 49 (.t 0))),(some (48,false),.v (.fld 50 1 (.t 3))),(some (48,false),.v (.load 51 false 1 (.t 50))),(some (48,false),.p (.idx 52 1 (.t 49) (.t 51))),(some (48,false),.v (.load 53 false 1 (.t 52))),(some (48,false),.v (.bin 54 .lss false (.t 53) (.c (.int .i64 0)))),(none,.v (.pick 55 (.t 48) (.c (.bool true)) (.t 54))),(none,.v (.mov 56 (.t 55))),(some (56,false),.v (.mov 57 (.t 0))),(some (56,false),.v (.fld 58 1 (.t 3))),(some (56,false),.v (.load 59 false 1 (.t 58))),(some (56,false),.p (.idx 60 1 (.t 57) (.t 59))),(some (56,false),.v (.load 61 false 1 (.t 60))),(some (56,false),.v (.bin 62 .gtr false (.t 61) (.c (.int .i64 3)))),(none,.v (.pick 63 (.t 56) (.c (.bool true)) (.t 62)))]) (.cond 63 (.seq (.ops [(none,q133_0),(none,.v (.mov 5 (.c (.int .i64 1))))]) .ret) .skip)) (.seq (.ops [(none,.v (.mov 64 (.t 0))),(none,.v (.fld 65 1 (.t 3))),(none,.v (.load 66 false 1 (.t 65))),(none,.p (.idx 67 1 (.t 64) (.t 66))),(none,.v (.load 68 false 1 (.t 67))),(none,.v (.mov 4 (.t 68))),(none,q133_1)]) .ret)) (.seq (.ops [(none,.v (.fld 70 0 (.t 3))),(none,.v (.load 71 false 1 (.t 70))),(none,.v (.bin 72 .eql false (.t 71) (.c (.int .i64 2)))),(none,.v (.mov 69 (.t 72)))]) (.cond 69 (.seq (.seq (.ops [(none,.v (.fld 73 2 (.t 3))),(none,.v (.load 74 true 3 (.t 73))),(none,.e (.call (some 75) 152 [.t 74])),(none,.v (.not 76 (.t 75)))]) (.cond 76 (.seq (.ops [(none,q133_0),(none,.v (.mov 5 (.c (.int .i64 1))))]) .ret) .skip)) (.seq (.ops [(none,.v (.fld 77 2 (.t 3))),(none,.v (.fld 78 0 (.t 77))),(none,.v (.load 79 false 1 (.t 78))),(none,.v (.mov 4 (.t 79))),(none,q133_1)]) .ret)) (.seq (.ops [(none,.v (.fld 81 0 (.t 3))),(none,.v (.load 82 false 1 (.t 81))),(none,.e (.call (some 83) 160 [.t 82])),(none,.v (.mov 80 (.t 83)))]) (.cond 80 (.seq (.seq (.ops [(none,.v (.mov 84 (.t 11))),(none,.e (.callv (some 85) (.t 84) [.c (.int .i64 1)])),(none,.v (.not 86 (.t 85)))]) (.cond 86 (.seq (.ops [(none,q133_0),(none,q133_2)]) .ret) .skip)) (.seq (.ops [(none,.v (.mov 4 (.c (.int .i64 1)))),(none,q133_1)]) .ret)) (.seq (.ops [(none,.v (.fld 88 0 (.t 3))),(none,.v (.load 89 false 1 (.t 88))),(none,.e (.call (some 90) 150 [.t 89])),(none,.v (.mov 87 (.t 90)))]) (.cond 87 (.seq (.ops [(none,.v (.mov 91 (.t 11))),(none,.v (.load 92 false 1 (.t 6))),(none,.p (.idx 93 1 (.t 92) (.c (.int .i64 0)))),(none,.v (.load 94 false 1 (.t 93))),(none,.e (.callv (some 95) (.t 91) [.t 94])),(none,.v (.not 96 (.t 95))),(none,.v (.mov 97 (.t 96))),(some (97,true),.v (.mov 98 (.t 11))),(some (97,true),.v (.load 99 false 1 (.t 6))),(some (97,true),.p (.idx 100 1 (.t 99) (.c (.int .i64 1)))),(some (97,true),.v (.load 101 false 1 (.t 100))),(some (97,true),.e (.callv (some 102) (.t 98) [.t 101])),(some (97,true),.v (.not 103 (.t 102))),(none,.v (.pick 104 (.t 97) (.t 103) (.c (.bool false))))]) (.cond 104 (.seq (.ops [(none,q133_0),(none,q133_2)]) .ret) .skip)) (.seq (.ops [(none,.v (.fld 106 0 (.t 3))),(none,.v (.load 107 false 1 (.t 106))),(none,.v (.bin 108 .neq false (.t 107) (.c (.int .i64 15)))),(none,.v (.mov 109 (.t 108))),(some (109,true),.v (.mov 110 (.t 11))),(some (109,true),.e (.callv (some 111) (.t 110) [.c (.int .i64 3)])),(some (109,true),.v (.not 112 (.t 111))),(none,.v (.pick 113 (.t 109) (.t 112) (.c (.bool false)))),(none,.v (.mov 105 (.t 113)))]) (.cond 105 (.seq (.ops [(none,q133_0),(none,q133_2)]) .ret) .skip))))))))))) (.seq (.ops [(none,.v (.mov 4 (.c (.int .i64 3)))),(none,q133_1)]) .ret))))))
theorem ok133:FnOk E 133 114 [.tmp 4,.tmp 5] mc133:=ofk func133
end Go.Proofs.Try
namespace Go.Proofs.Try
open Go.Proofs.Tryz
open Go.Al
set_option linter.unusedVariables false
set_option linter.unusedSimpArgs false
set_option maxRecDepth 20000
set_option maxHeartbeats 8000000

theorem c133n (ks:List Int) (e:EX) (rs:List (Int × Int)) (hv:inI e.val.n) (hlen:rs.length=e.args.length) (har:(e.args.length:Int)=ar e.op)
 (hrec:∀ j,j<e.args.length→ACalls E.P 133 [ksV ks,(e.args.getD j default).av] [] (fun r H=>r=.tup [.int .i64 (rs.getD j default).1,.int .i64 (rs.getD j default).2]∧H=[])) :
 ACalls E.P 133 [ksV ks,e.av] [] (fun r H=>r=.tup [.int .i64 (knode ks e rs).1,.int .i64 (knode ks e rs).2]∧H=[]):=by
 have hmax:=maxLen_eq
 have hsh:=ar_cases har
 refine ok133.acalls hE hm (by simp) fun N hN=>?_
 unfold mc133 q133_2 q133_1 q133_0 z3
 simp only [lA,ptrCells,ptrAdd,isNil,seval,av_fs]
 refine LenR_i fun hll=>?_
 rw [List.length_map,hmax] at hll
 simp only [lA,ptrCells,ptrAdd,isNil,seval,List.length_map]
 refine loop_i (fun i:Nat=>i≤e.args.length∧∀ j,j<i→(rs.getD j default).2=0) (fun i=>⟨[(0,ksV ks),(3,.op 0 0),(6,.op 1 0),(13,.view 6 (e.args.map EX.av)),(14,.int .i64 e.args.length),(15,.int .i64 i)],if i=0 then [.box e.fs,.box [.raw (.slice none 0 0)]] else [.box e.fs,.box [.slc 2 1 i],.arr 3 1 ((rs.take i).map prK)]⟩) (fun i=>e.args.length - i) 0 ⟨by omega,by omega⟩
  (by simp only [if_true];exact (Ent.to [0,1] false (by simp) (by simp) rfl (by simp only [lP,seval,pa_prK] <;> (try simp) <;> (try omega)) (by simp only [lP,seval,pa_prK] <;> (try simp) <;> (try omega)))) ?_
 rintro i ⟨hi,ha⟩
 by_cases hin:i<e.args.length
 · have hrec:=hrec i hin
   simp only [av_fs] at hrec
   have hlt:((i:Int)<(e.args.length:Int)):=by omega
   have hl:(rs.take i).length=i:=by simp;omega
   have fin:(rs.getD i default).2≠0→knode ks e rs=(0,(rs.getD i default).2):=fun h2=>by
    have:=ferr_at (l:=rs) ha (by omega) h2
    simp only [knode,this,if_neg h2]
   have ht:(rs.take (i+1)).map prK=(rs.take i).map prK++[.int .i64 (rs.getD i default).1]:=by
    rw [List.take_succ_eq_append_getElem (show i<rs.length by omega),List.map_append]
    simp [prK,show i<rs.length by omega]
   have nx:(rs.getD i default).2=0→∀ j,j<i+1→(rs.getD j default).2=0:=fun h2 j hj=>by
    by_cases hji:j<i
    · exact ha j hji
    · obtain rfl:j=i:=by omega
      exact h2
   by_cases hi0:i=0
   · subst hi0
     have hlt0:((0:Int)<(e.args.length:Int)):=by omega
     simp only [if_true]
     repeat' (first | (with_reducible apply St.o;constructor) <;> intro _ | (with_reducible first | refine And.intro (by omega) ?_ | (apply Sq.o;constructor)) | ((with_reducible apply Sc.o true;constructor);simp only [lP,seval,IdxR_exs,Int.toNat_natCast,List.length_map,pa_prK,vw_prK,hlt0,decide_true];refine ⟨_,hrec,?_⟩;rintro _ _ ⟨rfl,rfl⟩;simp only [lA,lP,ptrCells,ptrAdd,isNil,seval,IdxR_exs,Int.toNat_natCast,List.length_map,pa_prK,vw_prK,hlt0,decide_true]) | ((with_reducible refine keep0_i ?_);simp only [lP,seval]) | simp (maxSteps:=1000000) (disch:=omega) only [lE,ptrCells,ptrAdd,isNil,seval,IdxR_exs,Int.toNat_natCast,List.length_map,pa_prK,vw_prK,hlt0,decide_true])
     · rename_i h2
       rw [fin h2]
     · rename_i h2
       refine back_i 1 ⟨by omega,nx h2⟩ (by omega) ?_
       rw [if_neg (by omega)]
       simp only [Nat.zero_add] at ht
       rw [ht]
       exact (Ent.to [0,1,4] false (by simp) (by simp) rfl (by simp only [lP,seval,pa_prK,hl,List.map_append] <;> (try simp) <;> (try omega)) (by simp only [lP,seval,pa_prK,hl,List.map_append] <;> (try simp) <;> (try omega)))
   · simp only [if_neg hi0]
     repeat' (first | (with_reducible apply St.o;constructor) <;> intro _ | (with_reducible first | refine And.intro (by omega) ?_ | (apply Sq.o;constructor)) | ((with_reducible apply Sc.o true;constructor);simp only [lP,seval,IdxR_exs,Int.toNat_natCast,List.length_map,pa_prK,vw_prK,hlt,decide_true];refine ⟨_,hrec,?_⟩;rintro _ _ ⟨rfl,rfl⟩;simp only [lA,lP,ptrCells,ptrAdd,isNil,seval,IdxR_exs,Int.toNat_natCast,List.length_map,pa_prK,vw_prK,hlt,decide_true]) | ((with_reducible refine keep0_i ?_);simp only [lP,seval]) | simp (maxSteps:=1000000) (disch:=omega) only [lE,ptrCells,ptrAdd,isNil,seval,IdxR_exs,Int.toNat_natCast,List.length_map,pa_prK,vw_prK,hlt,decide_true])
     · rename_i h2
       rw [fin h2]
     · rename_i h2
       refine back_i (i+1) ⟨by omega,nx h2⟩ (by omega) ?_
       rw [if_neg (by omega),ht]
       exact (Ent.to [0,1,5] false (by simp) (by simp) rfl (by simp only [lP,seval,pa_prK,hl,List.map_append] <;> (try simp) <;> (try omega)) (by simp only [lP,seval,pa_prK,hl,List.map_append] <;> (try simp) <;> (try omega)))
 · have hie:i=rs.length:=by omega
   subst hie
   have hf:ferr rs=0:=ferr_none ha
   have hk:knode ks e rs=kN ks e.op e.n e.val (rs.map (·.1)):=by rw [knode,if_pos hf]
   have h152:=c152 e.val hv
   have h150:=c150 e.op
   have h160:=c160 e.op
   rw [hk]
   simp only [List.take_length]
   simp only [vl_av] at h152
   clear hrec hk hf ha
   have hl0:e.args.length=rs.length:=hlen.symm
   rcases hsh with ⟨h0,hop⟩ | ⟨h0,hop⟩ | ⟨h0,hop⟩
   · obtain rfl:rs=[]:=List.eq_nil_of_length_eq_zero (by omega)
     simp only [List.length_nil,if_true]
     rcases hop with hop | hop
     · repeat' (first | (with_reducible apply St.o;constructor) <;> intro _ | (with_reducible first | refine And.intro (by omega) ?_ | (apply Sq.o;constructor)) | ((with_reducible refine keep0_i ?_);simp only [lP,seval]) | simp (maxSteps:=1000000) (disch:=omega) only [lE,ptrCells,ptrAdd,isNil,seval,List.length_map,hop,hl0,Int.lt_irrefl,List.length_nil,List.length_cons,Int.ofNat_zero,decide_false,decide_true])
       all_goals clear h152 h150 h160
       all_goals (simp only [kN,if_true])
       all_goals first | (rw [if_pos (by omega)];done) | (rw [if_neg (by omega)];done)
     · repeat' (first | (with_reducible apply St.o;constructor) <;> intro _ | (with_reducible first | refine And.intro (by omega) ?_ | (apply Sq.o;constructor)) | ((with_reducible apply Sc.o true;constructor);simp only [lP,seval,List.length_map,hop,hl0,Int.lt_irrefl,List.length_nil,List.length_cons,Int.ofNat_zero,decide_false,decide_true];refine ⟨_,h152,?_⟩;rintro _ _ ⟨rfl,rfl⟩;simp only [lA,lP,ptrCells,ptrAdd,isNil,seval,List.length_map,hop,hl0,Int.lt_irrefl,List.length_nil,List.length_cons,Int.ofNat_zero,decide_false,decide_true]) | ((with_reducible refine keep0_i ?_);simp only [lP,seval]) | simp (maxSteps:=1000000) (disch:=omega) only [lE,ptrCells,ptrAdd,isNil,seval,List.length_map,hop,hl0,Int.lt_irrefl,List.length_nil,List.length_cons,Int.ofNat_zero,decide_false,decide_true])
       all_goals clear h152 h150 h160
       all_goals (rename_i h;simp [kN,h])
   · obtain ⟨x,rfl⟩:∃ x,rs=[x]:=by
      rcases rs with _ | ⟨x,_ | ⟨z,t⟩⟩
      · rw [h0] at hl0;simp at hl0
      · exact ⟨x,rfl⟩
      · rw [h0] at hl0;simp at hl0
     have h157:∀ w,ACalls E.P 157 [.int .i64 w,.vp [.view 1 [.int .i64 x.1]]] [] (fun r H=>r=.bool ([x.1].all (okK w))∧H=[]):=c157 [x.1]
     simp only [List.length_cons,List.length_nil,List.map_cons,List.map_nil,prK]
     rcases hop with hop | hop
     · have hc:cmpB e.op=false:=by rw [hop];rfl
       have hd:ariB e.op=false:=by rw [hop];rfl
       rw [hop] at h150 h160 hc hd
       repeat' (first | (with_reducible apply St.o;constructor) <;> intro _ | (with_reducible first | refine And.intro (by omega) ?_ | (apply Sq.o;constructor)) | ((with_reducible apply Sc.o true;constructor);simp only [lP,seval,List.length_map,hop,hc,hd,hl0,Int.lt_irrefl,List.length_nil,List.length_cons,Int.ofNat_zero,decide_false,decide_true];(first | refine ⟨_,h157 _,?_⟩ | refine ⟨_,h150,?_⟩ | refine ⟨_,h160,?_⟩);rintro _ _ ⟨rfl,rfl⟩;simp only [lA,lP,ptrCells,ptrAdd,isNil,seval,List.length_map,hop,hc,hd,hl0,Int.lt_irrefl,List.length_nil,List.length_cons,Int.ofNat_zero,decide_false,decide_true]) | ((with_reducible refine keep0_i ?_);simp only [lP,seval]) | simp (maxSteps:=1000000) (disch:=omega) only [lE,ptrCells,ptrAdd,isNil,seval,List.length_map,hop,hc,hd,hl0,Int.lt_irrefl,List.length_nil,List.length_cons,Int.ofNat_zero,decide_false,decide_true])
       all_goals clear h157 h152 h150 h160
       all_goals (rename_i h;simp only [Bool.not_eq_true',Bool.not_eq_false'] at h;simp [kN,hc,hd,h])
     · have hc:cmpB e.op=false:=by rw [hop];rfl
       have hd:ariB e.op=false:=by rw [hop];rfl
       rw [hop] at h150 h160 hc hd
       repeat' (first | (with_reducible apply St.o;constructor) <;> intro _ | (with_reducible first | refine And.intro (by omega) ?_ | (apply Sq.o;constructor)) | ((with_reducible apply Sc.o true;constructor);simp only [lP,seval,List.length_map,hop,hc,hd,hl0,Int.lt_irrefl,List.length_nil,List.length_cons,Int.ofNat_zero,decide_false,decide_true];(first | refine ⟨_,h157 _,?_⟩ | refine ⟨_,h150,?_⟩ | refine ⟨_,h160,?_⟩);rintro _ _ ⟨rfl,rfl⟩;simp only [lA,lP,ptrCells,ptrAdd,isNil,seval,List.length_map,hop,hc,hd,hl0,Int.lt_irrefl,List.length_nil,List.length_cons,Int.ofNat_zero,decide_false,decide_true]) | ((with_reducible refine keep0_i ?_);simp only [lP,seval]) | simp (maxSteps:=1000000) (disch:=omega) only [lE,ptrCells,ptrAdd,isNil,seval,List.length_map,hop,hc,hd,hl0,Int.lt_irrefl,List.length_nil,List.length_cons,Int.ofNat_zero,decide_false,decide_true])
       all_goals clear h157 h152 h150 h160
       all_goals simp [kN,hc,hd]
   · obtain ⟨x,y,rfl⟩:∃ x y,rs=[x,y]:=by
      rcases rs with _ | ⟨x,_ | ⟨y,_ | ⟨z,t⟩⟩⟩
      · rw [h0] at hl0;simp at hl0
      · rw [h0] at hl0;simp at hl0
      · exact ⟨x,y,rfl⟩
      · rw [h0] at hl0;simp at hl0
     have h157:∀ w,ACalls E.P 157 [.int .i64 w,.vp [.view 1 [.int .i64 x.1,.int .i64 y.1]]] [] (fun r H=>r=.bool ([x.1,y.1].all (okK w))∧H=[]):=c157 [x.1,y.1]
     have ho1:e.op≠1:=by omega
     have ho2:e.op≠2:=by omega
     have ho3:e.op≠15:=by omega
     simp only [List.length_cons,List.length_nil,List.map_cons,List.map_nil,prK]
     repeat' (first | (with_reducible apply St.o;constructor) <;> intro _ | (with_reducible first | refine And.intro (by omega) ?_ | (apply Sq.o;constructor)) | ((with_reducible apply Sc.o true;constructor);simp only [lP,seval,epR_cons,List.length_map,ho1,ho2,ho3,hl0,Int.lt_irrefl,List.length_nil,List.length_cons,Int.ofNat_zero,decide_false,decide_true];(first | refine ⟨_,h157 _,?_⟩ | refine ⟨_,h150,?_⟩ | refine ⟨_,h160,?_⟩);rintro _ _ ⟨rfl,rfl⟩;simp only [lA,lP,ptrCells,ptrAdd,isNil,seval,epR_cons,List.length_map,ho1,ho2,ho3,hl0,Int.lt_irrefl,List.length_nil,List.length_cons,Int.ofNat_zero,decide_false,decide_true]) | ((with_reducible refine keep0_i ?_);simp only [lP,seval]) | simp (maxSteps:=1000000) (disch:=omega) only [lE,ptrCells,ptrAdd,isNil,seval,epR_cons,List.length_map,ho1,ho2,ho3,hl0,Int.lt_irrefl,List.length_nil,List.length_cons,Int.ofNat_zero,decide_false,decide_true])
     all_goals clear h157 h152 h150 h160
     all_goals simp only [kN,if_neg ho1,if_neg ho2,if_neg ho3,List.map_cons,List.map_nil]
     all_goals clear hlen hi hin hl0 h0 har hll
     all_goals clear hv hmax hN hop ho1 ho2 ho3
     all_goals simp only [Bool.not_eq_true',Bool.not_eq_false',Bool.not_true,List.all_cons,List.all_nil,Bool.and_true,List.getD_cons_zero,List.getD_cons_succ] at *
     all_goals simp only [*,if_true,Bool.false_eq_true,if_false,or_self,or_true,true_or,or_false,false_or]
end Go.Proofs.Try


namespace Go.Proofs.Try
open Go.Proofs.Tryz
open Go.Al
set_option linter.unusedVariables false
set_option linter.unusedSimpArgs false
set_option maxRecDepth 20000
set_option maxHeartbeats 4000000

inductive T where
 | col (n:Int)
 | val (v:VL)
 | un (op:Int) (a:T)
 | bin (op:Int) (a b:T)
instance:Inhabited T:=⟨.col 0⟩
def T.ex:T→EX
 | .col n=>.mk 1 n 0 0 ⟨#[]⟩ []
 | .val v=>.mk 2 0 v.k v.n v.s []
 | .un op a=>.mk op 0 0 0 ⟨#[]⟩ [a.ex]
 | .bin op a b=>.mk op 0 0 0 ⟨#[]⟩ [a.ex,b.ex]
def T.wf:T→Prop
 | .col _=>True
 | .val _=>True
 | .un op a=>(op=14∨op=15)∧a.wf
 | .bin op a b=>(3≤op∧op≤13)∧a.wf∧b.wf
def T.vals (p:VL→Prop):T→Prop
 | .col _=>True
 | .val v=>p v
 | .un _ a=>a.vals p
 | .bin _ a b=>a.vals p∧b.vals p
def T.size:T→Nat
 | .col _=>1
 | .val _=>1
 | .un _ a=>1+a.size
 | .bin _ a b=>1+a.size+b.size
def T.kind (ks:List Int):T→Int × Int
 | .col n=>kN ks 1 n VL.null []
 | .val v=>kN ks 2 0 v []
 | .un op a=>if (a.kind ks).2=0 then kN ks op 0 VL.null [(a.kind ks).1] else (0,(a.kind ks).2)
 | .bin op a b=>if (a.kind ks).2=0 then (if (b.kind ks).2=0 then kN ks op 0 VL.null [(a.kind ks).1,(b.kind ks).1] else (0,(b.kind ks).2)) else (0,(a.kind ks).2)

def mkT (op n:Int) (v:VL):List T→T
 | []=>if op=1 then .col n else .val v
 | [a]=>.un op a
 | a::b::_=>.bin op a b
mutual
def EX.tr:EX→T
 | .mk op n k i s args=>mkT op n ⟨k,i,s⟩ (EX.trL args)
def EX.trL:List EX→List T
 | []=>[]
 | e::es=>e.tr::EX.trL es
end
mutual
def EX.okI:EX→Prop
 | .mk op n k i s args=>inI i∧EX.okIL args
def EX.okIL:List EX→Prop
 | []=>True
 | e::es=>e.okI∧EX.okIL es
end
theorem fm_mk {op n k i:Int} {s:ByteArray} {args:List EX}:(EX.mk op n k i s args).fm=true↔(args.length:Int)=ar op∧(n=0∨op=1)∧((k=0∧i=0∧s=⟨#[]⟩)∨op=2):=by
 unfold EX.fm
 simp only [Bool.and_eq_true,Bool.or_eq_true,decide_eq_true_eq,and_assoc]
 exact Iff.rfl
theorem ar1 {op:Int} (h:op=14∨op=15):ar op=1:=by unfold ar;(repeat' split) <;> omega
theorem ar2 {op:Int} (h:3≤op∧op≤13):ar op=2:=by unfold ar;(repeat' split) <;> omega
theorem ex_tr:∀ e:EX,e.formed=true→e.tr.ex=e∧e.tr.wf∧(e.okI→e.tr.vals fun v=>inI v.n)
 | .mk op n k i s args,h=>by
   rw [EX.formed,Bool.and_eq_true,fm_mk] at h
   obtain ⟨⟨h1,h2,h3⟩,h4⟩:=h
   have har:=ar_cases h1
   match args,h4 with
   | [],_ =>
     simp at har
     rcases har with rfl | rfl
     · have h3:k=0∧i=0∧s=⟨#[]⟩:=by simpa using h3
       obtain ⟨rfl,rfl,rfl⟩:=h3
       simp [EX.tr,EX.trL,mkT,T.ex,T.wf,T.vals]
     · have h2:n=0:=by simpa using h2
       subst h2
       simp [EX.tr,EX.trL,mkT,T.ex,T.wf,T.vals,EX.okI,EX.okIL]
   | [a],h4 =>
     simp at har
     simp only [EX.formedL,Bool.and_true] at h4
     obtain ⟨ih1,ih2,ih3⟩:=ex_tr a h4
     have hn:n=0:=by omega
     have h3:k=0∧i=0∧s=⟨#[]⟩:=by rcases h3 with h3 | h3;exact h3;omega
     obtain ⟨rfl,rfl,rfl⟩:=h3
     subst hn
     simp only [EX.tr,EX.trL,mkT,T.ex,T.wf,T.vals,EX.okI,EX.okIL,ih1]
     exact ⟨trivial,⟨har,ih2⟩,fun h=>ih3 h.2.1⟩
   | [a,b],h4 =>
     simp at har
     simp only [EX.formedL,Bool.and_true,Bool.and_eq_true] at h4
     obtain ⟨ih1,ih2,ih3⟩:=ex_tr a h4.1
     obtain ⟨ih4,ih5,ih6⟩:=ex_tr b h4.2
     have hn:n=0:=by omega
     have h3:k=0∧i=0∧s=⟨#[]⟩:=by rcases h3 with h3 | h3;exact h3;omega
     obtain ⟨rfl,rfl,rfl⟩:=h3
     subst hn
     simp only [EX.tr,EX.trL,mkT,T.ex,T.wf,T.vals,EX.okI,EX.okIL,ih1,ih4]
     exact ⟨trivial,⟨har,ih2,ih5⟩,fun h=>⟨ih3 h.2.1,ih6 h.2.2.1⟩⟩
   | a::b::c::d,_=>simp at har
theorem T.formed:∀ t:T,t.wf→t.ex.formed=true
 | .col n,_=>by simp [T.ex,EX.formed,EX.formedL,fm_mk,ar]
 | .val v,_=>by simp [T.ex,EX.formed,EX.formedL,fm_mk,ar]
 | .un op a,h=>by
   obtain ⟨h1,h2⟩:=h
   simp only [T.ex,EX.formed,EX.formedL,T.formed a h2,Bool.and_true,fm_mk,ar]
   rcases h1 with rfl | rfl <;> simp
 | .bin op a b,h=>by
   obtain ⟨h1,h2,h3⟩:=h
   simp only [T.ex,EX.formed,EX.formedL,T.formed a h2,T.formed b h3,Bool.and_true,fm_mk,ar]
   rw [if_neg (by omega),if_neg (by omega),if_pos (by omega)]
   simp

theorem c133 (ks:List Int):∀ t:T,t.wf→(t.vals fun v=>inI v.n)→ACalls E.P 133 [ksV ks,t.ex.av] [] (fun r H=>r=.tup [.int .i64 (t.kind ks).1,.int .i64 (t.kind ks).2]∧H=[])
 | .col n,_,_=>c133n ks (T.col n).ex [] (by simp [T.ex,EX.val,inI]) rfl (by simp [T.ex,EX.args,EX.op,ar]) (fun j hj=>by simp [T.ex,EX.args] at hj)
 | .val v,_,hv=>c133n ks (T.val v).ex [] hv rfl (by simp [T.ex,EX.args,EX.op,ar]) (fun j hj=>by simp [T.ex,EX.args] at hj)
 | .un op a,hw,hv=>by
   have ih:=c133 ks a hw.2 hv
   have h:=c133n ks (T.un op a).ex [a.kind ks] (by simp [T.ex,EX.val,inI]) rfl (by obtain ⟨rfl | rfl,_⟩:=hw <;> simp [T.ex,EX.args,EX.op,ar]) (fun j hj=>by
    have:j=0:=by simp [T.ex,EX.args] at hj;exact hj
    subst this;exact ih)
   have e:knode ks (T.un op a).ex [a.kind ks]=(T.un op a).kind ks:=by
    simp only [knode,ferr,T.kind,T.ex,EX.op,EX.n,EX.val,List.map_cons,List.map_nil]
    split <;> simp_all <;> rfl
   rw [e] at h;exact h
 | .bin op a b,hw,hv=>by
   have ih:=c133 ks a hw.2.1 hv.1
   have ih2:=c133 ks b hw.2.2 hv.2
   have h:=c133n ks (T.bin op a b).ex [a.kind ks,b.kind ks] (by simp [T.ex,EX.val,inI]) rfl (ar2 hw.1).symm (fun j hj=>by
    have:j=0∨j=1:=by simp [T.ex,EX.args] at hj;omega
    rcases this with rfl | rfl
    · exact ih
    · exact ih2)
   have e:knode ks (T.bin op a b).ex [a.kind ks,b.kind ks]=(T.bin op a b).kind ks:=by
    simp only [knode,ferr,T.kind,T.ex,EX.op,EX.n,EX.val,List.map_cons,List.map_nil]
    split <;> rename_i h1 <;> (by_cases h2:(a.kind ks).2=0 <;> simp [h2] at h1 ⊢ <;> simp_all <;> rfl)
   rw [e] at h;exact h
end Go.Proofs.Try


namespace Go.Proofs.Try
open Go.Proofs.Tryz
open Go.Al
set_option maxRecDepth 100000
abbrev q123_0:MI:=.v (.mov 5 (.c (.int .i64 0)))
def mc123:MC:=(.seq (.ops [(none,.e (.box 2 (.t 0))),(none,.e (.alloc 4 z2)),(none,q123_0)]) (.seq (.ops [(none,.v (.mov 6 (.c (.raw (.slice none 0 0)))))]) (.seq (.seq (.ops [(none,.v (.fld 12 5 (.t 2))),(none,.v (.load 13 false 1 (.t 12))),(none,.p (.len 14 (.t 13))),(none,.v (.mov 15 (.c (.int .i64 0))))]) (.block 0 (.loop (.seq (.ops [(none,.v (.bin 16 .lss false (.t 15) (.t 14)))]) (.seq (.cond 16 .skip (.exit 0)) (.seq (.block 1 (.seq (.ops [(none,.p (.idx 17 6 (.t 13) (.t 15))),(none,.v (.load 18 true 6 (.t 17))),(none,.e (.alloc 8 z3)),(none,.e (.store 6 true (.t 8) (.t 18)))]) (.seq (.ops [(none,.v (.load 20 true 6 (.t 8))),(none,.v (.mov 21 (.t 1))),(none,.e (.call (some 22) 123 [.t 20,.t 21])),(none,.v (.mov 19 (.t 22))),(none,.v (.ext 23 0 (.t 19))),(none,.v (.ext 24 1 (.t 19))),(none,.e (.alloc 9 z2)),(none,.e (.store 3 true (.t 9) (.t 23))),(none,.v (.mov 10 (.t 24)))]) (.seq (.seq (.ops [(none,.v (.mov 25 (.t 10))),(none,.v (.bin 26 .neq false (.t 25) (.c (.int .i64 0))))]) (.cond 26 (.seq (.ops [(none,.v (.build 27 z2 [])),(none,.v (.mov 28 (.t 10))),(none,.e (.store 3 true (.t 4) (.t 27))),(none,.v (.mov 5 (.t 28)))]) .ret) .skip)) (.ops [(none,.v (.mov 29 (.t 6))),(none,.v (.load 30 true 3 (.t 9))),(none,.e (.mkl 31 25 3 1 (.agg z2) [(0,.t 30)])),(none,.e (.app 32 25 3 32 (.t 29) (.t 31))),(none,.v (.mov 6 (.t 32)))]))))) (.ops [(none,.v (.bin 33 .add false (.t 15) (.c (.int .i64 1)))),(none,.v (.mov 15 (.t 33)))]))))))) (.seq (.block 2 (.seq (.ops [(none,.v (.fld 35 0 (.t 2))),(none,.v (.load 36 false 1 (.t 35))),(none,.v (.bin 37 .eql false (.t 36) (.c (.int .i64 1)))),(none,.v (.mov 34 (.t 37)))]) (.cond 34 (.seq (.ops [(none,.v (.mov 38 (.t 1))),(none,.v (.fld 39 1 (.t 2))),(none,.v (.load 40 false 1 (.t 39))),(none,.p (.idx 41 3 (.t 38) (.t 40))),(none,.v (.load 42 true 3 (.t 41))),(none,.e (.store 3 true (.t 4) (.t 42))),(none,q123_0)]) .ret) (.seq (.ops [(none,.v (.fld 44 0 (.t 2))),(none,.v (.load 45 false 1 (.t 44))),(none,.v (.bin 46 .eql false (.t 45) (.c (.int .i64 2)))),(none,.v (.mov 43 (.t 46)))]) (.cond 43 (.seq (.ops [(none,.v (.fld 47 2 (.t 2))),(none,.v (.load 48 true 3 (.t 47))),(none,.e (.store 3 true (.t 4) (.t 48))),(none,q123_0)]) .ret) (.seq (.ops [(none,.v (.fld 50 0 (.t 2))),(none,.v (.load 51 false 1 (.t 50))),(none,.v (.bin 52 .eql false (.t 51) (.c (.int .i64 12)))),(none,.v (.mov 49 (.t 52)))]) (.cond 49 (.seq (.any true (.pure0 none (.v (.mov 53 (.t 6))) (.pure0 none (.p (.idx 54 3 (.t 53) (.c (.int .i64 0)))) (.pure0 none (.v (.load 55 true 3 (.t 54))) (.pure0 none (.v (.mov 56 (.t 6))) (.pure0 none (.p (.idx 57 3 (.t 56) (.c (.int .i64 1)))) (.pure0 none (.v (.load 58 true 3 (.t 57))) (.alt none (.e (.call (some 59) 147 [.t 55,.t 58])) (.pure1 none (.v (.ext 60 0 (.t 59))) (.pure1 none (.v (.ext 61 1 (.t 59))) (.alt none (.e (.store 3 true (.t 4) (.t 60))) (.pure1 none (.v (.mov 5 (.t 61))) .done) .stop))) .stop)))))))) .ret) (.seq (.ops [(none,.v (.fld 63 0 (.t 2))),(none,.v (.load 64 false 1 (.t 63))),(none,.v (.bin 65 .eql false (.t 64) (.c (.int .i64 13)))),(none,.v (.mov 62 (.t 65)))]) (.cond 62 (.seq (.any true (.pure0 none (.v (.mov 66 (.t 6))) (.pure0 none (.p (.idx 67 3 (.t 66) (.c (.int .i64 0)))) (.pure0 none (.v (.load 68 true 3 (.t 67))) (.pure0 none (.v (.mov 69 (.t 6))) (.pure0 none (.p (.idx 70 3 (.t 69) (.c (.int .i64 1)))) (.pure0 none (.v (.load 71 true 3 (.t 70))) (.alt none (.e (.call (some 72) 148 [.t 68,.t 71])) (.pure1 none (.v (.ext 73 0 (.t 72))) (.pure1 none (.v (.ext 74 1 (.t 72))) (.alt none (.e (.store 3 true (.t 4) (.t 73))) (.pure1 none (.v (.mov 5 (.t 74))) .done) .stop))) .stop)))))))) .ret) (.seq (.ops [(none,.v (.fld 76 0 (.t 2))),(none,.v (.load 77 false 1 (.t 76))),(none,.v (.bin 78 .eql false (.t 77) (.c (.int .i64 14)))),(none,.v (.mov 75 (.t 78)))]) (.cond 75 (.seq (.ops [(none,.v (.mov 79 (.t 6))),(none,.p (.idx 80 3 (.t 79) (.c (.int .i64 0)))),(none,.v (.load 81 true 3 (.t 80))),(none,.e (.call (some 82) 149 [.t 81])),(none,.v (.ext 83 0 (.t 82))),(none,.v (.ext 84 1 (.t 82))),(none,.e (.store 3 true (.t 4) (.t 83))),(none,.v (.mov 5 (.t 84)))]) .ret) (.seq (.ops [(none,.v (.fld 86 0 (.t 2))),(none,.v (.load 87 false 1 (.t 86))),(none,.v (.bin 88 .eql false (.t 87) (.c (.int .i64 15)))),(none,.v (.mov 85 (.t 88)))]) (.cond 85 (.seq (.ops [(none,.v (.mov 89 (.t 6))),(none,.p (.idx 90 3 (.t 89) (.c (.int .i64 0)))),(none,.v (.fld 91 0 (.t 90))),(none,.v (.load 92 false 1 (.t 91))),(none,.v (.bin 93 .eql false (.t 92) (.c (.int .i64 0)))),(none,.e (.call (some 94) 146 [.t 93])),(none,.e (.store 3 true (.t 4) (.t 94))),(none,q123_0)]) .ret) (.seq (.ops [(none,.v (.fld 96 0 (.t 2))),(none,.v (.load 97 false 1 (.t 96))),(none,.e (.call (some 98) 150 [.t 97])),(none,.v (.mov 95 (.t 98)))]) (.cond 95 (.seq (.any true (.pure0 none (.v (.fld 99 0 (.t 2))) (.pure0 none (.v (.load 100 false 1 (.t 99))) (.pure0 none (.v (.mov 101 (.t 6))) (.pure0 none (.p (.idx 102 3 (.t 101) (.c (.int .i64 0)))) (.pure0 none (.v (.load 103 true 3 (.t 102))) (.pure0 none (.v (.mov 104 (.t 6))) (.pure0 none (.p (.idx 105 3 (.t 104) (.c (.int .i64 1)))) (.pure0 none (.v (.load 106 true 3 (.t 105))) (.alt none (.e (.call (some 107) 151 [.t 100,.t 103,.t 106])) (.pure1 none (.v (.ext 108 0 (.t 107))) (.pure1 none (.v (.ext 109 1 (.t 107))) (.alt none (.e (.store 3 true (.t 4) (.t 108))) (.pure1 none (.v (.mov 5 (.t 109))) .done) .stop))) .stop)))))))))) .ret) .skip))))))))))))))) (.seq (.seq (.ops [(none,.v (.mov 110 (.t 6))),(none,.p (.idx 111 3 (.t 110) (.c (.int .i64 0)))),(none,.v (.fld 112 0 (.t 111))),(none,.v (.load 113 false 1 (.t 112))),(none,.v (.bin 114 .eql false (.t 113) (.c (.int .i64 0)))),(none,.v (.mov 115 (.t 114))),(some (115,false),.v (.mov 116 (.t 6))),(some (115,false),.p (.idx 117 3 (.t 116) (.c (.int .i64 1)))),(some (115,false),.v (.fld 118 0 (.t 117))),(some (115,false),.v (.load 119 false 1 (.t 118))),(some (115,false),.v (.bin 120 .eql false (.t 119) (.c (.int .i64 0)))),(none,.v (.pick 121 (.t 115) (.c (.bool true)) (.t 120)))]) (.cond 121 (.seq (.ops [(none,.v (.build 122 z2 [])),(none,.e (.store 3 true (.t 4) (.t 122))),(none,q123_0)]) .ret) .skip)) (.seq (.any false (.pure0 none (.v (.gld 123 0)) (.pure0 none (.v (.fld 124 0 (.t 2))) (.pure0 none (.v (.load 125 false 1 (.t 124))) (.pure0 none (.p (.look 126 false (.int .i64) (.raw .nilFunc) (.t 123) (.t 125))) (.pure0 none (.v (.mov 127 (.t 6))) (.pure0 none (.p (.idx 128 3 (.t 127) (.c (.int .i64 0)))) (.pure0 none (.v (.fld 129 1 (.t 128))) (.pure0 none (.v (.load 130 false 1 (.t 129))) (.pure0 none (.v (.mov 131 (.t 6))) (.pure0 none (.p (.idx 132 3 (.t 131) (.c (.int .i64 1)))) (.pure0 none (.v (.fld 133 1 (.t 132))) (.pure0 none (.v (.load 134 false 1 (.t 133))) (.pure0 none (.v (.build 135 [.int .i64 0,.int .i64 0] [(0,1,.t 130),(1,1,.t 134)])) (.alt none (.e (.callv (some 136) (.t 126) [.t 135])) (.base (.pure0 none (.v (.mov 11 (.t 136))) .done)) .stop))))))))))))))) (.seq (.seq (.ops [(none,.v (.mov 137 (.t 11))),(none,.v (.bin 138 .lss false (.t 137) (.c (.int .i64 (-549755813888))))),(none,.v (.mov 139 (.t 138))),(some (139,false),.v (.mov 140 (.t 11))),(some (139,false),.v (.bin 141 .gtr false (.t 140) (.c (.int .i64 549755813887)))),(none,.v (.pick 142 (.t 139) (.c (.bool true)) (.t 141)))]) (.cond 142 (.seq (.ops [(none,.v (.build 143 z2 [])),(none,.e (.store 3 true (.t 4) (.t 143))),(none,.v (.mov 5 (.c (.int .i64 360))))]) .ret) .skip)) (.seq (.ops [(none,.v (.mov 144 (.t 11))),(none,.v (.build 145 z2 [(0,1,.c (.int .i64 1)),(1,1,.t 144)])),(none,.e (.store 3 true (.t 4) (.t 145))),(none,q123_0)]) .ret))))))))
theorem ok123:FnOk E 123 146 [.cell 4 25,.tmp 5] mc123:=ofk func123
end Go.Proofs.Try
namespace Go.Proofs.Try
open Go.Proofs.Tryz
open Go.Al
set_option linter.unusedVariables false
set_option linter.unusedSimpArgs false
set_option maxRecDepth 20000
set_option maxHeartbeats 8000000

abbrev rowV (r:List VL):AV:=.view 3 (r.map VL.av)
def prV (x:VL × Int):AV:=x.1.av
theorem vw_prV {H:List AObj} {l:List Nat} {n:Nat} {xs:List (VL × Int)}:(xs.map prV).map (vw H l (n+1))=xs.map prV:=map_same (fun x=>vw_vl x.1) xs
theorem pa_prV {H:List AObj} {l:List Nat} {bor:Bool} {n:Nat} {xs:List (VL × Int)}:(xs.map prV).map (pa H l bor (n+1))=xs.map prV:=map_same (fun x=>pa_vl x.1) xs

theorem cmpBytes:∀ a b:List UInt8,Lib.compareBytes a b=if Op.bytesLess a b=true then -1 else if a=b then 0 else 1
 | [],[]=>by simp [Lib.compareBytes,Op.bytesLess]
 | [],_::_=>by simp [Lib.compareBytes,Op.bytesLess]
 | _::_,[]=>by simp [Lib.compareBytes,Op.bytesLess]
 | a::x,b::y=>by
   rw [Lib.compareBytes,cmpBytes x y]
   simp only [Op.bytesLess,Bool.or_eq_true,decide_eq_true_eq,Bool.and_eq_true,beq_iff_eq,List.cons.injEq]
   by_cases h1:a<b
   · simp [h1]
   · by_cases h2:b<a
     · have h3:a≠b:=fun h=>by subst h;exact h1 h2
       simp [h1,h2,h3]
     · have h3:a=b:=UInt8.le_antisymm (UInt8.not_lt.1 h2) (UInt8.not_lt.1 h1)
       subst h3
       simp
theorem toL (s:ByteArray):s.toList=s.data.toList:=ByteArray.toList_eq s
theorem VL.cmp_eq {a b:VL} (ha:a.Right) (hb:b.Right) (hk:a.k=b.k):a.cmp b=a.cmp19 b:=by
 obtain ⟨ka,na,sa⟩:=a
 obtain ⟨kb,nb,sb⟩:=b
 simp only at hk
 subst hk
 have hs:(sa.data.toList=sb.data.toList)↔sa=sb:=by
  obtain ⟨⟨la⟩⟩:=sa;obtain ⟨⟨lb⟩⟩:=sb;simp
 simp only [VL.cmp,VL.cmp19,orI,cmpBytes,toL,ne_eq,not_true_eq_false,if_false]
 simp only [VL.Right] at ha hb
 have h0:sgn ka ka=0:=by simp [sgn]
 have h1:sgn na nb=0∨sa=sb:=by
  rcases ha with ⟨_,h1,h2⟩ | ⟨_,_,_,h2⟩ | ⟨_,h1,_⟩ | ⟨_,_,h2⟩ <;> rcases hb with ⟨_,h3,h4⟩ | ⟨_,_,_,h4⟩ | ⟨_,h3,_⟩ | ⟨_,_,h4⟩ <;> first | omega | (right;rw [h2,h4]) | (left;rw [h1,h3];simp [sgn])
 rw [h0]
 simp only [if_true,hs]
 rcases h1 with h1 | h1
 · rw [h1]
   simp only [if_true]
   by_cases h2:Op.bytesLess sa.data.toList sb.data.toList=true <;> by_cases h3:sa=sb <;> simp [h2,h3]
 · subst h1
   have h2:Op.bytesLess sa.data.toList sa.data.toList=false:=by
    have:∀ l:List UInt8,Op.bytesLess l l=false:=fun l=>by
     induction l with
     | nil=>rfl
     | cons x l ih=>simp [Op.bytesLess,ih]
    exact this _
   simp only [h2,decide_true,Bool.or_true,Bool.not_true,Bool.false_eq_true,if_false,if_true]
   split <;> simp_all
theorem test_eq {op:Int} {a b:VL} (ha:a.Right) (hb:b.Right):VL.test VL.cmp op a b=VL.test VL.cmp19 op a b:=by
 unfold VL.test
 by_cases h:a.k=b.k
 · rw [VL.cmp_eq ha hb h]
 · simp [h]

def eN (r:List VL) (op n:Int) (v:VL) (l:List VL):VL × Int :=
 if op=1 then (r.getD n.toNat default,0) else if op=2 then (v,0)
 else if op=12 then VL.dec false (l.getD 0 default) (l.getD 1 default)
 else if op=13 then VL.dec true (l.getD 0 default) (l.getD 1 default)
 else if op=14 then (l.getD 0 default).not19
 else if op=15 then (VL.ofB (decide ((l.getD 0 default).k=0)),0)
 else if cmpB op=true then VL.test VL.cmp19 op (l.getD 0 default) (l.getD 1 default)
 else if (l.getD 0 default).k=0∨(l.getD 1 default).k=0 then (VL.null,0)
 else if (ariR op (l.getD 0 default).n (l.getD 1 default).n).2=0 then (⟨1,(ariR op (l.getD 0 default).n (l.getD 1 default).n).1,⟨#[]⟩⟩,0)
 else (VL.null,360)
def enode (r:List VL) (e:EX) (rs:List (VL × Int)):VL × Int:=if ferr rs=0 then eN r e.op e.n e.val (rs.map (·.1)) else (VL.null,ferr rs)
theorem right_small {v:VL} (h:v.Right):small v.n:=by
 simp only [VL.Right,small] at *;omega

abbrev opK:List AV:=[.int .i64 3,.int .i64 4,.int .i64 5]
abbrev opF:List AV:=[.fn (.func 194) [] [],.fn (.func 196) [] [],.fn (.func 197) [] []]
theorem look3:Al.look (.int .i64) (.raw .nilFunc) opK opF (.int .i64 3)=some (.fn (.func 194) [] [],true):=rfl
theorem look4:Al.look (.int .i64) (.raw .nilFunc) opK opF (.int .i64 4)=some (.fn (.func 196) [] [],true):=rfl
theorem look5:Al.look (.int .i64) (.raw .nilFunc) opK opF (.int .i64 5)=some (.fn (.func 197) [] [],true):=rfl
theorem c123n (r:List VL) (e:EX) (rs:List (VL × Int)) (hlen:rs.length=e.args.length) (har:(e.args.length:Int)=ar e.op) (hcol:e.op=1→0≤e.n∧e.n<r.length) (hR:∀ x ∈ rs,x.1.Right)
 (hrec:∀ j,j<e.args.length→ACalls E.P 123 [(e.args.getD j default).av,rowV r] [] (fun q H=>q=.tup [(rs.getD j default).1.av,.int .i64 (rs.getD j default).2]∧H=[])) :
 ACalls E.P 123 [e.av,rowV r] [] (fun q H=>q=.tup [(enode r e rs).1.av,.int .i64 (enode r e rs).2]∧H=[]):=by
 have hmax:=maxLen_eq
 have hsh:=ar_cases har
 refine ok123.acalls hE hm (by simp) fun N hN=>?_
 unfold mc123 q123_0 z2 z3
 simp only [lA,ptrCells,ptrAdd,isNil,seval,av_fs]
 refine LenR_i fun hll=>?_
 rw [List.length_map,hmax] at hll
 simp only [lA,ptrCells,ptrAdd,isNil,seval,List.length_map]
 refine loop_i (fun i:Nat=>i≤e.args.length∧∀ j,j<i→(rs.getD j default).2=0) (fun i=>⟨[(1,rowV r),(2,.op 0 0),(4,.op 1 0),(6,.slc 2 3 i),(13,.view 6 (e.args.map EX.av)),(14,.int .i64 e.args.length),(15,.int .i64 i)],[.box e.fs,.box [.int .i64 0,.int .i64 0,.str ⟨#[]⟩],.arr 25 3 ((rs.take i).map prV)]⟩) (fun i=>e.args.length - i) 0 ⟨by omega,by omega⟩
  (Ent.ghost' 6 25 3 (by omega) rfl (Ent.to [0,1,2] false (by simp) (by simp) rfl (by simp only [lP,seval,pa_prV] <;> (try simp) <;> (try omega)) (by simp only [lP,seval,pa_prV] <;> (try simp) <;> (try omega)))) ?_
 rintro i ⟨hi,ha⟩
 by_cases hin:i<e.args.length
 · have hrec:=hrec i hin
   simp only [av_fs,vl_av] at hrec
   have hlt:((i:Int)<(e.args.length:Int)):=by omega
   have hl:(rs.take i).length=i:=by simp;omega
   repeat' (first | (with_reducible apply St.o;constructor) <;> intro _ | (with_reducible first | refine And.intro (by omega) ?_ | (apply Sq.o;constructor)) | ((with_reducible apply Sc.o true;constructor);simp only [lP,seval,IdxR_exs,Int.toNat_natCast,List.length_map,pa_prV,vw_prV,hlt,decide_true,ti25];refine ⟨_,hrec,?_⟩;rintro _ _ ⟨rfl,rfl⟩;simp only [lA,lP,ptrCells,ptrAdd,isNil,seval,IdxR_exs,Int.toNat_natCast,List.length_map,pa_prV,vw_prV,hlt,decide_true,ti25]) | ((with_reducible refine keep0_i ?_);simp only [lP,seval]) | simp (maxSteps:=1000000) (disch:=omega) only [lE,ptrCells,ptrAdd,isNil,seval,IdxR_exs,Int.toNat_natCast,List.length_map,pa_prV,vw_prV,hlt,decide_true,ti25])
   · rename_i h2
     have:=ferr_at (l:=rs) ha (by omega) h2
     simp only [enode,this,if_neg h2]
     rfl
   · rename_i h2
     refine back_i (i+1) ⟨by omega,fun j hj=>?_⟩ (by omega) ?_
     · by_cases hji:j<i
       · exact ha j hji
       · obtain rfl:j=i:=by omega
         exact h2
     · have ht:(rs.take (i+1)).map prV=(rs.take i).map prV++[(rs.getD i default).1.av]:=by
        rw [List.take_succ_eq_append_getElem (show i<rs.length by omega),List.map_append]
        simp [prV,show i<rs.length by omega]
       rw [ht,vl_av]
       exact (Ent.to [0,1,6] false (by simp) (by simp) rfl (by simp only [lP,seval,pa_prV,hl,List.map_append] <;> (try simp) <;> (try omega)) (by simp only [lP,seval,pa_prV,hl,List.map_append] <;> (try simp) <;> (try omega)))
 · have hie:i=rs.length:=by omega
   subst hie
   have hf:ferr rs=0:=ferr_none ha
   have hk:enode r e rs=eN r e.op e.n e.val (rs.map (·.1)):=by rw [enode,if_pos hf]
   rw [hk]
   simp only [List.take_length]
   clear hrec hk hf ha
   have hl0:e.args.length=rs.length:=hlen.symm
   rcases hsh with ⟨h0,hop⟩ | ⟨h0,hop⟩ | ⟨h0,hop⟩
   · obtain rfl:rs=[]:=List.eq_nil_of_length_eq_zero (by omega)
     rcases hop with hop | hop
     · obtain ⟨hc1,hc2⟩:=hcol hop
       repeat' (first | (with_reducible apply St.o;constructor) <;> intro _ | (with_reducible first | refine And.intro (by omega) ?_ | (apply Sq.o;constructor)) | ((with_reducible refine keep0_i ?_);simp only [lP,seval]) | simp (maxSteps:=1000000) (disch:=omega) only [lE,ptrCells,ptrAdd,isNil,seval,IdxR_vls,List.length_map,hop,hl0,ti25,Int.lt_irrefl,List.length_nil,List.length_cons,Int.ofNat_zero,decide_false,decide_true])
       all_goals simp [eN,vl_av]
     · repeat' (first | (with_reducible apply St.o;constructor) <;> intro _ | (with_reducible first | refine And.intro (by omega) ?_ | (apply Sq.o;constructor)) | ((with_reducible refine keep0_i ?_);simp only [lP,seval]) | simp (maxSteps:=1000000) (disch:=omega) only [lE,ptrCells,ptrAdd,isNil,seval,List.length_map,hop,hl0,ti25,Int.lt_irrefl,List.length_nil,List.length_cons,Int.ofNat_zero,decide_false,decide_true])
       all_goals simp [eN,vl_av]
   · obtain ⟨x,rfl⟩:∃ x,rs=[x]:=by
      rcases rs with _ | ⟨x,_ | ⟨z,t⟩⟩
      · rw [h0] at hl0;simp at hl0
      · exact ⟨x,rfl⟩
      · rw [h0] at hl0;simp at hl0
     obtain ⟨x,x2⟩:=x
     have hx:x.Right:=hR (x,x2) (by simp)
     have h149:=c149 hx
     have h146:∀ b:Bool,ACalls E.P 146 [.bool b] [] (fun r H=>r=.agg [.int .i64 3,.int .i64 (if b then 1 else 0),.str ⟨#[]⟩]∧H=[]):=c146
     simp only [vl_av] at h149
     simp only [List.length_cons,List.length_nil,List.map_cons,List.map_nil,prV,vl_av]
     rcases hop with hop | hop
     · repeat' (first | (with_reducible apply St.o;constructor) <;> intro _ | (with_reducible first | refine And.intro (by omega) ?_ | (apply Sq.o;constructor)) | ((with_reducible apply Sc.o true;constructor);simp only [lP,seval,epR_cons,List.length_map,hop,hl0,ti25,Int.lt_irrefl,List.length_nil,List.length_cons,Int.ofNat_zero,decide_false,decide_true];(first | refine ⟨_,h149,?_⟩ | refine ⟨_,h146 _,?_⟩);rintro _ _ ⟨rfl,rfl⟩;simp only [lA,lP,ptrCells,ptrAdd,isNil,seval,epR_cons,List.length_map,hop,hl0,ti25,Int.lt_irrefl,List.length_nil,List.length_cons,Int.ofNat_zero,decide_false,decide_true]) | ((with_reducible refine keep0_i ?_);simp only [lP,seval]) | simp (maxSteps:=1000000) (disch:=omega) only [lE,ptrCells,ptrAdd,isNil,seval,epR_cons,List.length_map,hop,hl0,ti25,Int.lt_irrefl,List.length_nil,List.length_cons,Int.ofNat_zero,decide_false,decide_true])
       all_goals simp [eN]
     · repeat' (first | (with_reducible apply St.o;constructor) <;> intro _ | (with_reducible first | refine And.intro (by omega) ?_ | (apply Sq.o;constructor)) | ((with_reducible apply Sc.o true;constructor);simp only [lP,seval,epR_cons,List.length_map,hop,hl0,ti25,Int.lt_irrefl,List.length_nil,List.length_cons,Int.ofNat_zero,decide_false,decide_true];(first | refine ⟨_,h149,?_⟩ | refine ⟨_,h146 _,?_⟩);rintro _ _ ⟨rfl,rfl⟩;simp only [lA,lP,ptrCells,ptrAdd,isNil,seval,epR_cons,List.length_map,hop,hl0,ti25,Int.lt_irrefl,List.length_nil,List.length_cons,Int.ofNat_zero,decide_false,decide_true]) | ((with_reducible refine keep0_i ?_);simp only [lP,seval]) | simp (maxSteps:=1000000) (disch:=omega) only [lE,ptrCells,ptrAdd,isNil,seval,epR_cons,List.length_map,hop,hl0,ti25,Int.lt_irrefl,List.length_nil,List.length_cons,Int.ofNat_zero,decide_false,decide_true])
       all_goals simp [eN,VL.ofB]
   · obtain ⟨x,y,rfl⟩:∃ x y,rs=[x,y]:=by
      rcases rs with _ | ⟨x,_ | ⟨y,_ | ⟨z,t⟩⟩⟩
      · rw [h0] at hl0;simp at hl0
      · rw [h0] at hl0;simp at hl0
      · exact ⟨x,y,rfl⟩
      · rw [h0] at hl0;simp at hl0
     obtain ⟨x,x2⟩:=x
     obtain ⟨y,y2⟩:=y
     have hx:x.Right:=hR (x,x2) (by simp)
     have hy:y.Right:=hR (y,y2) (by simp)
     have sx:=right_small hx
     have sy:=right_small hy
     have h147:=c147 hx hy
     have h148:=c148 hx hy
     have h150:=c150 e.op
     have h151:=c151 e.op x y
     have h194:=c194 x.n y.n
     have h196:=c196 x.n y.n
     have h197:=c197 x.n y.n sx sy
     simp only [vl_av] at h147 h148 h151
     simp only [List.length_cons,List.length_nil,List.map_cons,List.map_nil,prV,vl_av]
     have hops:e.op=12∨e.op=13∨(cmpB e.op=true∧e.op≠1∧e.op≠2∧e.op≠12∧e.op≠13∧e.op≠14∧e.op≠15)∨e.op=3∨e.op=4∨e.op=5:=by
      simp only [cmpB,decide_eq_true_eq];omega
     rcases hops with hop | hop | ⟨hop,ho1,ho2,ho3,ho4,ho5,ho6⟩ | hop | hop | hop
     · repeat' (first | (with_reducible apply St.o;constructor) <;> intro _ | (with_reducible first | refine And.intro (by omega) ?_ | (apply Sq.o;constructor)) | ((with_reducible apply Sc.o true;constructor);simp only [lP,seval,epR_cons,List.length_map,hop,hl0,ti25,Int.lt_irrefl,List.length_nil,List.length_cons,Int.ofNat_zero,decide_false,decide_true];refine ⟨_,h147,?_⟩;rintro _ _ ⟨rfl,rfl⟩;simp only [lA,lP,ptrCells,ptrAdd,isNil,seval,epR_cons,List.length_map,hop,hl0,ti25,Int.lt_irrefl,List.length_nil,List.length_cons,Int.ofNat_zero,decide_false,decide_true]) | ((with_reducible refine keep0_i ?_);simp only [lP,seval]) | simp (maxSteps:=1000000) (disch:=omega) only [lE,ptrCells,ptrAdd,isNil,seval,epR_cons,List.length_map,hop,hl0,ti25,Int.lt_irrefl,List.length_nil,List.length_cons,Int.ofNat_zero,decide_false,decide_true])
       refine any_i [1] ?_
       repeat' (first | (with_reducible apply St.o;constructor) <;> intro _ | (with_reducible first | refine And.intro (by omega) ?_ | (apply Sq.o;constructor)) | ((with_reducible apply Sc.o true;constructor);simp only [lP,seval,epR_cons,List.length_map,hop,hl0,ti25,Int.lt_irrefl,List.length_nil,List.length_cons,Int.ofNat_zero,decide_false,decide_true];refine ⟨_,h147,?_⟩;rintro _ _ ⟨rfl,rfl⟩;simp only [lA,lP,ptrCells,ptrAdd,isNil,seval,epR_cons,List.length_map,hop,hl0,ti25,Int.lt_irrefl,List.length_nil,List.length_cons,Int.ofNat_zero,decide_false,decide_true]) | ((with_reducible refine keep0_i ?_);simp only [lP,seval]) | simp (maxSteps:=1000000) (disch:=omega) only [lE,ptrCells,ptrAdd,isNil,seval,epR_cons,List.length_map,hop,hl0,ti25,Int.lt_irrefl,List.length_nil,List.length_cons,Int.ofNat_zero,decide_false,decide_true])
       all_goals simp [eN]
     · repeat' (first | (with_reducible apply St.o;constructor) <;> intro _ | (with_reducible first | refine And.intro (by omega) ?_ | (apply Sq.o;constructor)) | ((with_reducible apply Sc.o true;constructor);simp only [lP,seval,epR_cons,List.length_map,hop,hl0,ti25,Int.lt_irrefl,List.length_nil,List.length_cons,Int.ofNat_zero,decide_false,decide_true];refine ⟨_,h148,?_⟩;rintro _ _ ⟨rfl,rfl⟩;simp only [lA,lP,ptrCells,ptrAdd,isNil,seval,epR_cons,List.length_map,hop,hl0,ti25,Int.lt_irrefl,List.length_nil,List.length_cons,Int.ofNat_zero,decide_false,decide_true]) | ((with_reducible refine keep0_i ?_);simp only [lP,seval]) | simp (maxSteps:=1000000) (disch:=omega) only [lE,ptrCells,ptrAdd,isNil,seval,epR_cons,List.length_map,hop,hl0,ti25,Int.lt_irrefl,List.length_nil,List.length_cons,Int.ofNat_zero,decide_false,decide_true])
       refine any_i [1] ?_
       repeat' (first | (with_reducible apply St.o;constructor) <;> intro _ | (with_reducible first | refine And.intro (by omega) ?_ | (apply Sq.o;constructor)) | ((with_reducible apply Sc.o true;constructor);simp only [lP,seval,epR_cons,List.length_map,hop,hl0,ti25,Int.lt_irrefl,List.length_nil,List.length_cons,Int.ofNat_zero,decide_false,decide_true];refine ⟨_,h148,?_⟩;rintro _ _ ⟨rfl,rfl⟩;simp only [lA,lP,ptrCells,ptrAdd,isNil,seval,epR_cons,List.length_map,hop,hl0,ti25,Int.lt_irrefl,List.length_nil,List.length_cons,Int.ofNat_zero,decide_false,decide_true]) | ((with_reducible refine keep0_i ?_);simp only [lP,seval]) | simp (maxSteps:=1000000) (disch:=omega) only [lE,ptrCells,ptrAdd,isNil,seval,epR_cons,List.length_map,hop,hl0,ti25,Int.lt_irrefl,List.length_nil,List.length_cons,Int.ofNat_zero,decide_false,decide_true])
       all_goals simp [eN]
     · repeat' (first | (with_reducible apply St.o;constructor) <;> intro _ | (with_reducible first | refine And.intro (by omega) ?_ | (apply Sq.o;constructor)) | ((with_reducible apply Sc.o true;constructor);simp only [lP,seval,epR_cons,List.length_map,hop,ho1,ho2,ho3,ho4,ho5,ho6,hl0,ti25,Int.lt_irrefl,List.length_nil,List.length_cons,Int.ofNat_zero,decide_false,decide_true];(first | refine ⟨_,h150,?_⟩ | refine ⟨_,h151,?_⟩);rintro _ _ ⟨rfl,rfl⟩;simp only [lA,lP,ptrCells,ptrAdd,isNil,seval,epR_cons,List.length_map,hop,ho1,ho2,ho3,ho4,ho5,ho6,hl0,ti25,Int.lt_irrefl,List.length_nil,List.length_cons,Int.ofNat_zero,decide_false,decide_true]) | ((with_reducible refine keep0_i ?_);simp only [lP,seval]) | simp (maxSteps:=1000000) (disch:=omega) only [lE,ptrCells,ptrAdd,isNil,seval,epR_cons,List.length_map,hop,ho1,ho2,ho3,ho4,ho5,ho6,hl0,ti25,Int.lt_irrefl,List.length_nil,List.length_cons,Int.ofNat_zero,decide_false,decide_true])
       refine any_i [1] ?_
       repeat' (first | (with_reducible apply St.o;constructor) <;> intro _ | (with_reducible first | refine And.intro (by omega) ?_ | (apply Sq.o;constructor)) | ((with_reducible apply Sc.o true;constructor);simp only [lP,seval,epR_cons,List.length_map,hop,ho1,ho2,ho3,ho4,ho5,ho6,hl0,ti25,Int.lt_irrefl,List.length_nil,List.length_cons,Int.ofNat_zero,decide_false,decide_true];(first | refine ⟨_,h150,?_⟩ | refine ⟨_,h151,?_⟩);rintro _ _ ⟨rfl,rfl⟩;simp only [lA,lP,ptrCells,ptrAdd,isNil,seval,epR_cons,List.length_map,hop,ho1,ho2,ho3,ho4,ho5,ho6,hl0,ti25,Int.lt_irrefl,List.length_nil,List.length_cons,Int.ofNat_zero,decide_false,decide_true]) | ((with_reducible refine keep0_i ?_);simp only [lP,seval]) | simp (maxSteps:=1000000) (disch:=omega) only [lE,ptrCells,ptrAdd,isNil,seval,epR_cons,List.length_map,hop,ho1,ho2,ho3,ho4,ho5,ho6,hl0,ti25,Int.lt_irrefl,List.length_nil,List.length_cons,Int.ofNat_zero,decide_false,decide_true])
       all_goals simp [eN,ho1,ho2,ho3,ho4,ho5,ho6,hop,test_eq hx hy]
     · have hc:cmpB e.op=false:=by rw [hop];rfl
       rw [hop] at h150 hc
       have hw:IntKind.i64.wrap (x.n+y.n)=x.n+y.n:=wrap_i64 (by obtain ⟨_,_⟩:=sx;obtain ⟨_,_⟩:=sy;omega) (by obtain ⟨_,_⟩:=sx;obtain ⟨_,_⟩:=sy;omega)
       repeat' (first | (with_reducible apply St.o;constructor) <;> intro _ | (with_reducible first | refine And.intro (by omega) ?_ | (apply Sq.o;constructor)) | ((with_reducible apply Sc.o true;constructor);simp only [lP,seval,glob,Option.map_some,look3,hw,epR_cons,List.length_map,hop,hc,hl0,ti25,Int.lt_irrefl,List.length_nil,List.length_cons,Int.ofNat_zero,decide_false,decide_true];(first | refine ⟨_,h150,?_⟩ | refine ⟨_,h194,?_⟩);rintro _ _ ⟨rfl,rfl⟩;simp only [lA,lP,ptrCells,ptrAdd,isNil,seval,glob,Option.map_some,look3,hw,epR_cons,List.length_map,hop,hc,hl0,ti25,Int.lt_irrefl,List.length_nil,List.length_cons,Int.ofNat_zero,decide_false,decide_true]) | ((with_reducible refine keep0_i ?_);simp only [lP,seval]) | simp (maxSteps:=1000000) (disch:=omega) only [lE,ptrCells,ptrAdd,isNil,seval,glob,Option.map_some,look3,hw,epR_cons,List.length_map,hop,hc,hl0,ti25,Int.lt_irrefl,List.length_nil,List.length_cons,Int.ofNat_zero,decide_false,decide_true])
       all_goals clear h147 h148 h150 h151 h194 h196 h197
       all_goals simp [eN,hc,ariR,ari, *]
       all_goals (try exact ⟨rfl,rfl,rfl⟩)
       all_goals trace_state
     · have hc:cmpB e.op=false:=by rw [hop];rfl
       rw [hop] at h150 hc
       have hw:IntKind.i64.wrap (x.n - y.n)=x.n - y.n:=wrap_i64 (by obtain ⟨_,_⟩:=sx;obtain ⟨_,_⟩:=sy;omega) (by obtain ⟨_,_⟩:=sx;obtain ⟨_,_⟩:=sy;omega)
       repeat' (first | (with_reducible apply St.o;constructor) <;> intro _ | (with_reducible first | refine And.intro (by omega) ?_ | (apply Sq.o;constructor)) | ((with_reducible apply Sc.o true;constructor);simp only [lP,seval,glob,Option.map_some,look4,hw,epR_cons,List.length_map,hop,hc,hl0,ti25,Int.lt_irrefl,List.length_nil,List.length_cons,Int.ofNat_zero,decide_false,decide_true];(first | refine ⟨_,h150,?_⟩ | refine ⟨_,h196,?_⟩);rintro _ _ ⟨rfl,rfl⟩;simp only [lA,lP,ptrCells,ptrAdd,isNil,seval,glob,Option.map_some,look4,hw,epR_cons,List.length_map,hop,hc,hl0,ti25,Int.lt_irrefl,List.length_nil,List.length_cons,Int.ofNat_zero,decide_false,decide_true]) | ((with_reducible refine keep0_i ?_);simp only [lP,seval]) | simp (maxSteps:=1000000) (disch:=omega) only [lE,ptrCells,ptrAdd,isNil,seval,glob,Option.map_some,look4,hw,epR_cons,List.length_map,hop,hc,hl0,ti25,Int.lt_irrefl,List.length_nil,List.length_cons,Int.ofNat_zero,decide_false,decide_true])
       all_goals clear h147 h148 h150 h151 h194 h196 h197
       all_goals simp [eN,hc,ariR,ari, *]
       all_goals (try exact ⟨rfl,rfl,rfl⟩)
       all_goals trace_state
     · have hc:cmpB e.op=false:=by rw [hop];rfl
       rw [hop] at h150 hc
       repeat' (first | (with_reducible apply St.o;constructor) <;> intro _ | (with_reducible first | refine And.intro (by omega) ?_ | (apply Sq.o;constructor)) | ((with_reducible apply Sc.o true;constructor);simp only [lP,seval,glob,Option.map_some,look5,epR_cons,List.length_map,hop,hc,hl0,ti25,Int.lt_irrefl,List.length_nil,List.length_cons,Int.ofNat_zero,decide_false,decide_true];(first | (refine ⟨_,h150,?_⟩;rintro _ _ ⟨rfl,rfl⟩) | (refine ⟨_,h197,?_⟩;rintro _ _ ⟨⟨n,rfl,hn1,hn2⟩,rfl⟩));simp only [lA,lP,ptrCells,ptrAdd,isNil,seval,glob,Option.map_some,look5,epR_cons,List.length_map,hop,hc,hl0,ti25,Int.lt_irrefl,List.length_nil,List.length_cons,Int.ofNat_zero,decide_false,decide_true]) | ((with_reducible refine keep0_i ?_);simp only [lP,seval]) | simp (maxSteps:=1000000) (disch:=omega) only [lE,ptrCells,ptrAdd,isNil,seval,glob,Option.map_some,look5,epR_cons,List.length_map,hop,hc,hl0,ti25,Int.lt_irrefl,List.length_nil,List.length_cons,Int.ofNat_zero,decide_false,decide_true])
       all_goals clear h147 h148 h150 h151 h194 h196 h197
       all_goals first
        | (have h:n=x.n * y.n:=hn1 (by omega)
           subst h
           have h':¬ (x.n * y.n < -549755813888∨549755813887<x.n * y.n):=by omega
           simp [eN,hc,ariR,ari,if_neg h', *];done)
        | (have h:x.n * y.n < -549755813888∨549755813887<x.n * y.n:=by omega
           simp only [eN,ariR,ari,if_pos h]
           simp [hc, *]
           exact ⟨rfl,rfl,rfl⟩)
        | (simp [eN,hc, *];exact ⟨rfl,rfl,rfl⟩)
        | trace_state
end Go.Proofs.Try


namespace Go.Proofs.Try
open Go.Proofs.Tryz
open Go.Al
set_option maxRecDepth 100000
def mc121:MC:=(.seq (.ops [(none,.e (.box 2 (.t 0))),(none,.v (.mov 4 (.c (.bool false)))),(none,.v (.mov 5 (.c (.int .i64 0))))]) (.seq (.ops [(none,.v (.load 9 true 6 (.t 2))),(none,.v (.mov 10 (.t 1))),(none,.e (.call (some 11) 123 [.t 9,.t 10])),(none,.v (.mov 8 (.t 11))),(none,.v (.ext 12 0 (.t 8))),(none,.v (.ext 13 1 (.t 8))),(none,.e (.alloc 6 z2)),(none,.e (.store 3 true (.t 6) (.t 12))),(none,.v (.mov 7 (.t 13)))]) (.seq (.any false (.pure0 none (.v (.mov 14 (.t 7))) (.pure0 none (.v (.bin 15 .eql false (.t 14) (.c (.int .i64 0)))) (.pure0 none (.v (.mov 16 (.t 15))) (.pure0 (some (16,true)) (.v (.load 17 true 3 (.t 6))) (.pure0 none (.v (.mov 21 (.t 7))) (.alt (some (16,true)) (.e (.call (some 18) 146 [.c (.bool true)])) (.base (.pure0 (some (16,true)) (.v (.eq 19 false (.agg [(0,false,1,.int),(1,false,1,.int),(2,false,1,.str)]) (.t 17) (.t 18))) (.pure0 none (.v (.pick 20 (.t 16) (.t 19) (.c (.bool false)))) (.pure0 none (.v (.mov 4 (.t 20))) (.pure0 none (.v (.mov 5 (.t 21))) .done))))) .stop))))))) .ret)))
theorem ok121:FnOk E 121 22 [.tmp 4,.tmp 5] mc121:=ofk func121
end Go.Proofs.Try
namespace Go.Proofs.Try
open Go.Proofs.Tryz
open Go.Al
set_option linter.unusedVariables false
set_option linter.unusedSimpArgs false
set_option maxRecDepth 20000
set_option maxHeartbeats 4000000

def T.eval (r:List VL):T→VL × Int
 | .col n=>(r.getD n.toNat default,0)
 | .val v=>(v,0)
 | .un op a=>if (a.eval r).2=0 then eN r op 0 VL.null [(a.eval r).1] else (VL.null,(a.eval r).2)
 | .bin op a b=>if (a.eval r).2=0 then (if (b.eval r).2=0 then eN r op 0 VL.null [(a.eval r).1,(b.eval r).1] else (VL.null,(b.eval r).2)) else (VL.null,(a.eval r).2)
def T.fits (n:Nat):T→Prop
 | .col k=>0≤k∧k<n
 | .val _=>True
 | .un _ a=>a.fits n
 | .bin _ a b=>a.fits n∧b.fits n
theorem null_right:VL.null.Right:=.inl ⟨rfl,rfl,rfl⟩
theorem ofB_right (b:Bool):(VL.ofB b).Right:=.inr (.inr (.inr ⟨rfl,by cases b <;> simp [VL.ofB],rfl⟩))
theorem dec_right (s:Bool) (a b:VL):(VL.dec s a b).1.Right:=by
 unfold VL.dec
 (repeat' split) <;> first | exact null_right | exact ofB_right _
theorem not_right {a:VL} (h:a.Right):a.not19.1.Right:=by
 unfold VL.not19
 (repeat' split) <;> first | exact null_right | exact ofB_right _ | exact h
theorem test_right (c:VL→VL→Int) (op:Int) (a b:VL):(VL.test c op a b).1.Right:=by
 unfold VL.test
 (repeat' split) <;> first | exact null_right | exact ofB_right _
theorem ariR_range {op a b:Int} (h:(ariR op a b).2=0) : -549755813888≤(ariR op a b).1∧(ariR op a b).1≤549755813887:=by
 unfold ariR at *
 split at h
 · simp at h
 · rename_i h1;rw [if_neg h1];simp only;omega
theorem eN_right {r:List VL} {op n:Int} {v:VL} {l:List VL} (hv:op=2→v.Right) (hr:op=1→(r.getD n.toNat default).Right) (h0:(l.getD 0 default).Right):(eN r op n v l).1.Right:=by
 unfold eN
 split
 · rename_i h;exact hr h
 split
 · rename_i h;exact hv h
 split
 · exact dec_right _ _ _
 split
 · exact dec_right _ _ _
 split
 · exact not_right h0
 split
 · exact ofB_right _
 split
 · exact test_right _ _ _ _
 split
 · exact null_right
 split
 · rename_i h
   have:=ariR_range h
   exact .inr (.inl ⟨rfl,this.1,this.2,rfl⟩)
 · exact null_right
theorem T.eval_right {r:List VL} (hr:∀ v ∈ r,v.Right):∀ t:T,t.wf→t.fits r.length→t.vals VL.Right→(t.eval r).1.Right
 | .col k,_,h,_=>by
   obtain ⟨h1,h2⟩:=h
   have hlt:k.toNat<r.length:=by omega
   simp only [T.eval,List.getD_eq_getElem?_getD,hlt,List.getElem?_eq_getElem,Option.getD_some]
   exact hr _ (List.getElem_mem hlt)
 | .val v,_,_,h=>h
 | .un op a,hw,h,hv=>by
   have ih:=T.eval_right hr a hw.2 h hv
   have:=hw.1
   rw [T.eval]
   split
   · exact eN_right (fun _=>null_right) (fun h=>by omega) ih
   · exact null_right
 | .bin op a b,hw,h,hv=>by
   have ih:=T.eval_right hr a hw.2.1 h.1 hv.1
   have:=hw.1
   rw [T.eval]
   split
   · split
     · exact eN_right (fun _=>null_right) (fun h=>by omega) ih
     · exact null_right
   · exact null_right
theorem enode_un (r:List VL) (op:Int) (a:T):enode r (T.un op a).ex [a.eval r]=(T.un op a).eval r:=by
 simp only [enode,ferr,T.eval,T.ex,EX.op,EX.n,EX.val,List.map_cons,List.map_nil]
 split <;> simp_all <;> rfl
theorem enode_bin (r:List VL) (op:Int) (a b:T):enode r (T.bin op a b).ex [a.eval r,b.eval r]=(T.bin op a b).eval r:=by
 simp only [enode,ferr,T.eval,T.ex,EX.op,EX.n,EX.val,List.map_cons,List.map_nil]
 split <;> rename_i h1 <;> (by_cases h2:(a.eval r).2=0 <;> simp [h2] at h1 ⊢ <;> simp_all <;> rfl)
theorem c123 {r:List VL} (hr:∀ v ∈ r,v.Right):∀ t:T,t.wf→t.fits r.length→t.vals VL.Right→ACalls E.P 123 [t.ex.av,rowV r] [] (fun q H=>q=.tup [(t.eval r).1.av,.int .i64 (t.eval r).2]∧H=[])
 | .col n,_,h,_=>c123n r (T.col n).ex [] rfl (by simp [T.ex,EX.args,EX.op,ar]) (fun _=>h) (by simp) (fun j hj=>by simp [T.ex,EX.args] at hj)
 | .val v,_,_,_=>c123n r (T.val v).ex [] rfl (by simp [T.ex,EX.args,EX.op,ar]) (by simp [T.ex,EX.op]) (by simp) (fun j hj=>by simp [T.ex,EX.args] at hj)
 | .un op a,hw,hf,hv=>by
   have ih:=c123 hr a hw.2 hf hv
   have h:=c123n r (T.un op a).ex [a.eval r] rfl (ar1 hw.1).symm (fun h=>by have:=hw.1;simp only [T.ex,EX.op] at h;omega) (fun x hx=>by rw [List.mem_singleton.1 hx];exact T.eval_right hr a hw.2 hf hv) (fun j hj=>by
    have:j=0:=by simp [T.ex,EX.args] at hj;exact hj
    subst this;exact ih)
   rwa [enode_un] at h
 | .bin op a b,hw,hf,hv=>by
   have ih:=c123 hr a hw.2.1 hf.1 hv.1
   have ih2:=c123 hr b hw.2.2 hf.2 hv.2
   have h:=c123n r (T.bin op a b).ex [a.eval r,b.eval r] rfl (ar2 hw.1).symm (fun h=>by have:=hw.1;simp only [T.ex,EX.op] at h;omega) (fun x hx=>by
    rcases List.mem_cons.1 hx with rfl | hx
    · exact T.eval_right hr a hw.2.1 hf.1 hv.1
    · rw [List.mem_singleton.1 hx];exact T.eval_right hr b hw.2.2 hf.2 hv.2) (fun j hj=>by
    have:j=0∨j=1:=by simp [T.ex,EX.args] at hj;omega
    rcases this with rfl | rfl
    · exact ih
    · exact ih2)
   rwa [enode_bin] at h
def T.holds (r:List VL) (t:T):Bool:=decide ((t.eval r).2=0) && (t.eval r).1.is true
instance:DecidableEq VL:=fun a b=>decidable_of_iff (a.same b=true) VL.same_iff
theorem c121 {r:List VL} (hr:∀ v ∈ r,v.Right) (t:T) (hw:t.wf) (hf:t.fits r.length) (hv:t.vals VL.Right):ACalls E.P 121 [t.ex.av,rowV r] [] (fun q H=>q=.tup [.bool (t.holds r),.int .i64 (t.eval r).2]∧H=[]):=by
 have h:=c123 hr t hw hf hv
 have h146:=c146 true
 have hx:(VL.ofB true).av=.agg [.int .i64 3,.int .i64 1,.str ⟨#[]⟩]:=rfl
 unfold T.holds
 simp only [av_fs,vl_av] at h h146
 rw [show (VL.ofB true).cs=[.int .i64 3,.int .i64 1,.str ⟨#[]⟩] from rfl] at h146
 simp only [VL.is,if_true]
 generalize t.eval r=v at *
 obtain ⟨v,v2⟩:=v
 refine ok121.acalls hE hm (by simp) fun N hN=>?_
 unfold mc121 z2
 simp only [lA,ptrCells,ptrAdd,isNil,seval,av_fs]
 repeat' (first | (with_reducible apply St.o;constructor) <;> intro _ | (with_reducible first | refine And.intro (by omega) ?_ | (apply Sq.o;constructor)) | ((with_reducible apply Sc.o true;constructor);simp only [lP,seval,ti25,flatEq,strA];(first | refine ⟨_,h,?_⟩ | refine ⟨_,h146,?_⟩);rintro _ _ ⟨rfl,rfl⟩;simp only [lA,lP,ptrCells,ptrAdd,isNil,seval,ti25,flatEq,strA]) | ((with_reducible refine keep0_i ?_);simp only [lP,seval]) | simp (maxSteps:=1000000) (disch:=omega) only [lE,ptrCells,ptrAdd,isNil,seval,ti25,flatEq,strA])
 all_goals (rename_i h0;simp [h0,and_assoc])
end Go.Proofs.Try


namespace Go.Proofs.Try
open Go.Proofs.Tryz
open Go.Al
set_option maxRecDepth 100000
def mc111:MC:=(.seq (.ops [(none,.e (.box 3 (.t 1))),(none,.e (.alloc 4 [.int .i64 0])),(none,.e (.alloc 5 [.int .i64 0]))]) (.seq (.seq (.ops [(none,.v (.load 7 true 6 (.t 3))),(none,.e (.call (some 8) 130 [.t 7])),(none,.v (.bin 9 .gtr false (.t 8) (.c (.int .i64 200))))]) (.cond 9 (.seq (.ops [(none,.e (.store 1 false (.t 4) (.c (.int .i64 0)))),(none,.e (.store 1 false (.t 5) (.c (.int .i64 2))))]) .ret) .skip)) (.seq (.seq (.ops [(none,.v (.load 10 true 6 (.t 3))),(none,.e (.call (some 11) 131 [.t 10]))]) (.block 0 (.rngf (.t 11) #[12] (.ops [(none,.e (.alloc 6 z3)),(none,.e (.store 6 true (.t 6) (.t 12)))]) (.block 1 (.seq (.ops [(none,.v (.load 13 true 6 (.t 6))),(none,.e (.call (some 14) 132 [.t 13])),(none,.v (.not 15 (.t 14)))]) (.cond 15 (.seq (.ops [(none,.e (.store 1 false (.t 4) (.c (.int .i64 0)))),(none,.e (.store 1 false (.t 5) (.c (.int .i64 3))))]) .ret) .skip)))))) (.seq (.ops [(none,.v (.mov 16 (.t 0))),(none,.v (.load 17 true 6 (.t 3))),(none,.e (.call (some 18) 133 [.t 16,.t 17])),(none,.v (.ext 19 0 (.t 18))),(none,.v (.ext 20 1 (.t 18))),(none,.e (.store 1 false (.t 4) (.t 19))),(none,.e (.store 1 false (.t 5) (.t 20)))]) .ret))))
theorem ok111:FnOk E 111 21 [.cell 4 3,.cell 5 44] mc111:=ofk func111
end Go.Proofs.Try
namespace Go.Proofs.Try
open Go.Proofs.Tryz
open Go.Al
set_option linter.unusedVariables false
set_option linter.unusedSimpArgs false
set_option maxRecDepth 20000
set_option maxHeartbeats 8000000

theorem wrap_wrap (a b:Int):IntKind.i64.wrap (IntKind.i64.wrap a+IntKind.i64.wrap b)=IntKind.i64.wrap (a+b):=by
 rw [IntKind.wrap_i64,IntKind.wrap_i64,IntKind.wrap_i64,IntKind.wrap_i64];omega
theorem wrap1:IntKind.i64.wrap 1=1:=rfl
theorem wrap1n:IntKind.i64.wrap ((1:Nat):Int)=1:=rfl
theorem ti3:E.TI 3=some ⟨.int .i64,1,8,[.int .i64 0],false,false,false⟩:=rfl
theorem ti44:E.TI 44=some ⟨.int .i64,1,8,[.int .i64 0],false,false,false⟩:=rfl
def chk (ks:List Int) (e:EX):Int × Int:=if 200<IntKind.i64.wrap e.count then (0,2) else if e.formed=true then e.tr.kind ks else (0,3)
section
variable {m:Nat} {N:FN} {id:Nat} {o:LoopState→Option Code→AObj} {Q:AV→List AObj→Prop} {fr:List (Nat × AV)} {H:List AObj}
theorem ent_take (k:Nat) (hm:m≤(H.take k).length) (hs:(H.take k).all (scO (H.take k).length)=true):Ent m N ⟨fr,H⟩ ⟨[],H.take k⟩:=by
 have:=Ent.drop (N:=N) (fr:=fr) (fr':=[]) (L:=H.drop k) hm hs trivial
 rwa [List.take_append_drop] at this
theorem round_take (k:Nat) (hm:m≤(H.take k).length) (hs:(H.take k).all (scO (H.take k).length)=true) (h1:(H.take k)[id]?=some (o .busy none)) (h2:Q (.bool true) ((H.take k).set id (o .ready none))):roundQ m N id o Q .normal ⟨fr,H⟩ :=
 ⟨H.take k,ent_take k hm hs,h1,h2⟩
theorem ret_take (k:Nat) (hm:m≤(H.take k).length) (hs:(H.take k).all (scO (H.take k).length)=true) (h1:(H.take k)[id]?=some (o .busy none)) (h2:Q (.bool false) ((H.take k).set id (o .done (some .ret)))):roundQ m N id o Q .ret ⟨fr,H⟩ :=
 ⟨H.take k,ent_take k hm hs,h1,h2⟩
end
mutual
theorem walk_all (p:EX→Bool) (q:EX→Bool) (ql:List EX→Bool) (h1:∀ e,q e=(p e && ql e.args)) (h2:ql []=true) (h3:∀ e l,ql (e::l)=(q e && ql l)):∀ e:EX,walk (fun _ x=>(p x,!p x)) e false=(q e,!q e)
 | .mk op n k i s args=>by
   rw [walk,h1]
   simp only [EX.args]
   cases hp:p (.mk op n k i s args) with
   | false=>simp
   | true=>simp [walkL_all p q ql h1 h2 h3 args]
theorem walkL_all (p:EX→Bool) (q:EX→Bool) (ql:List EX→Bool) (h1:∀ e,q e=(p e && ql e.args)) (h2:ql []=true) (h3:∀ e l,ql (e::l)=(q e && ql l)):∀ l:List EX,walkL (fun _ x=>(p x,!p x)) l false=(ql l,!ql l)
 | []=>by simp [walkL,h2]
 | e::l=>by
   rw [walkL,h3,walk_all p q ql h1 h2 h3 e]
   cases q e with
   | false=>simp
   | true=>simp [walkL_all p q ql h1 h2 h3 l]
end
theorem walk_formed (e:EX):walk (fun _ x=>(x.fm,!x.fm)) e false=(e.formed,!e.formed) :=
 walk_all EX.fm EX.formed EX.formedL (fun e=>by rw [formed_eq,formedL_all]) rfl (fun _ _=>rfl) e
theorem c111 (ks:List Int) (e:EX) (hI:e.okI):ACalls E.P 111 [ksV ks,e.av] [] (fun r H=>r=.tup [.int .i64 (chk ks e).1,.int .i64 (chk ks e).2]∧H=[]):=by
 have h1:=c130 e
 have h131:=c131 e
 have h3:e.formed=true→ACalls E.P 133 [ksV ks,e.av] [] (fun r H=>r=.tup [.int .i64 (e.tr.kind ks).1,.int .i64 (e.tr.kind ks).2]∧H=[]):=fun h=>by
  obtain ⟨h1,h2,h4⟩:=ex_tr e h
  have:=c133 ks e.tr h2 (h4 hI)
  rwa [h1] at this
 simp only [av_fs,cs_fs] at h1 h3 h131
 generalize hc:IntKind.i64.wrap (e.count:Int)=c at h1
 refine ok111.acalls hE hm (by simp) fun N hN=>?_
 unfold mc111 z3
 simp only [lA,ptrCells,ptrAdd,isNil,seval,av_fs]
 repeat' (first | (with_reducible apply St.o;constructor) <;> intro _ | (with_reducible first | refine And.intro (by omega) ?_ | (apply Sq.o;constructor)) | ((with_reducible apply Sc.o true;constructor);simp only [lP,seval,ti3,ti44];refine ⟨_,h1,?_⟩;rintro _ _ ⟨rfl,rfl⟩;simp only [lA,lP,ptrCells,ptrAdd,isNil,seval,ti3,ti44]) | ((with_reducible apply Sc.o false;constructor);simp only [lP,seval,ti3,ti44];refine ⟨_,h131,?_⟩;rintro _ _ ⟨rfl,rfl⟩;simp only [lA,lP,ptrCells,ptrAdd,isNil,seval,ti3,ti44]) | ((with_reducible refine keep0_i ?_);simp only [lP,seval]) | simp (maxSteps:=1000000) (disch:=omega) only [lE,ptrCells,ptrAdd,isNil,seval,ti3,ti44])
 · rename_i h
   simp only [chk,hc,if_pos h]
 rename_i h
 refine rng_i hN [(4,.op 1 0),(5,.op 2 0)] (by simp [FrSub,Go.Al.get]) fun fn cas bd hy=>?_
 let st:Bool→List AObj:=fun b=>[.box e.fs,.box [.int .i64 0],.box [.int .i64 (if b then 3 else 0)],.loop (if b then .done else .ready) (if b then some .ret else none) [(4,.op 1 0),(5,.op 2 0)] N.n fn #[12] cas bd]
 have hY:∀ (x:EX),AYield E.P 3 [x.av] (st false) (fun r H'=>r=.bool x.fm∧H'=st (!x.fm)):=by
  intro x
  have h132:=c132 x
  simp only [av_fs] at h132
  refine hy 3 [(4,.op 1 0),(5,.op 2 0)] [x.av] (st false) _ rfl rfl fun N2 hN2=>?_
  simp only [lA,ptrCells,ptrAdd,isNil,seval,st,av_fs]
  repeat' (first | (with_reducible apply St.o;constructor) <;> intro _ | (with_reducible first | refine And.intro (by omega) ?_ | (apply Sq.o;constructor)) | ((with_reducible apply Sc.o true;constructor);simp only [lP,seval];refine ⟨_,h132,?_⟩;rintro _ _ ⟨rfl,rfl⟩;simp only [lA,lP,ptrCells,ptrAdd,isNil,seval]) | ((with_reducible refine keep0_i ?_);simp only [lP,seval]) | simp (maxSteps:=1000000) (disch:=omega) only [lE,ptrCells,ptrAdd,isNil,seval])
  · rename_i h
    have hx:x.fm=false:=by simpa using h
    rw [hx]
    exact ret_take (o:=fun st pd=>.loop st pd [(4,.op 1 0),(5,.op 2 0)] N.n fn #[12] cas bd) 4 (by simp) (by simp [scO,scL,sc]) rfl ⟨rfl,rfl⟩
  · rename_i h
    have hx:x.fm=true:=by simpa using h
    rw [hx]
    exact round_take (o:=fun st pd=>.loop st pd [(4,.op 1 0),(5,.op 2 0)] N.n fn #[12] cas bd) 4 (by simp) (by simp [scO,scL,sc]) rfl ⟨rfl,rfl⟩
 have h154:=c154 (st:=st) (K:=4) (id:=3) (f:=fun _ x=>(x.fm,!x.fm)) (live:=fun b=>b=false) (fun _=>rfl) (by omega) (fun b=>by cases b <;> simp [st,scO,sc,scL]) (fun b x hb hx=>by simpa using hx)
  (fun b x hb=>by subst hb;exact hY x) e false rfl
 rw [walk_formed,cs_fs] at h154
 refine ⟨_,h154,?_⟩
 rintro r _ rfl
 cases hf:e.formed with
 | false =>
   refine ⟨.done,some .ret,[(4,.op 1 0),(5,.op 2 0)],rfl,by simp,[(4,.op 1 0),(5,.op 2 0)],(st true).set 3 .lost,Ent.fr (by simp [FrSub,Go.Al.get]),?_⟩
   simp only [lA,ptrCells,ptrAdd,isNil,seval,st,ti3,ti44]
   refine keep0_i ?_
   simp only [lP,seval]
   simp [chk,hc,if_neg h,hf]
 | true =>
   have h4:=h3 hf
   refine ⟨.ready,none,[(4,.op 1 0),(5,.op 2 0)],rfl,by simp,[(0,ksV ks),(3,.op 0 0),(4,.op 1 0),(5,.op 2 0)],(st false).set 3 .lost,Ent.fr (by simp [FrSub,Go.Al.get]),?_⟩
   simp only [lA,ptrCells,ptrAdd,isNil,seval,st,ti3,ti44]
   repeat' (first | (with_reducible apply St.o;constructor) <;> intro _ | (with_reducible first | refine And.intro (by omega) ?_ | (apply Sq.o;constructor)) | ((with_reducible apply Sc.o true;constructor);simp only [lP,seval,ti3,ti44];refine ⟨_,h4,?_⟩;rintro _ _ ⟨rfl,rfl⟩;simp only [lA,lP,ptrCells,ptrAdd,isNil,seval,ti3,ti44]) | ((with_reducible refine keep0_i ?_);simp only [lP,seval]) | simp (maxSteps:=1000000) (disch:=omega) only [lE,ptrCells,ptrAdd,isNil,seval,ti3,ti44])
   simp [chk,hc,if_neg h,hf]
end Go.Proofs.Try


namespace Go.Proofs.Try
open Go.Proofs.Tryz
open Go.Al
set_option maxRecDepth 100000
end Go.Proofs.Try
namespace Go.Proofs.Try
open Go.Proofs.Tryz
open Go.Al
set_option linter.unusedVariables false
set_option linter.unusedSimpArgs false
set_option maxRecDepth 20000
set_option maxHeartbeats 8000000

theorem kind_ok (ks:List Int):∀ t:T,t.wf→(t.kind ks).2=0→t.fits ks.length∧t.vals VL.Right
 | .col n,_,h=>by
   simp only [T.kind,kN,if_pos] at h
   refine ⟨?_,trivial⟩
   split at h
   · simp at h
   · simp only [T.fits];omega
 | .val v,_,h=>by
   refine ⟨trivial,?_⟩
   by_cases hv:v.Right
   · exact hv
   · simp [T.kind,kN,hv] at h
 | .un op a,hw,h=>by
   rw [T.kind] at h
   split at h
   · rename_i h1;exact kind_ok ks a hw.2 h1
   · exact absurd h (by assumption)
 | .bin op a b,hw,h=>by
   rw [T.kind] at h
   split at h
   · split at h
     · rename_i h1 h2
       obtain ⟨a1,a2⟩:=kind_ok ks a hw.2.1 h1
       obtain ⟨b1,b2⟩:=kind_ok ks b hw.2.2 h2
       exact ⟨⟨a1,b1⟩,a2,b2⟩
     · exact absurd h (by assumption)
   · exact absurd h (by assumption)
theorem chk_ok {ks:List Int} {e:EX} (h:(chk ks e).2=0):e.formed=true∧(e.tr.kind ks).2=0∧chk ks e=e.tr.kind ks:=by
 unfold chk at h ⊢
 split at h
 · simp at h
 · rename_i h1
   split at h
   · rename_i h2;exact ⟨h2,h,by rw [if_neg h1,if_pos h2]⟩
   · simp at h

def inCol (ks:List Int) (r:List VL) (i:Nat):Prop:=(r.getD i default).Right∧((r.getD i default).k=0∨(r.getD i default).k=ks.getD i 0)
instance (ks:List Int) (r:List VL) (i:Nat):Decidable (inCol ks r i):=by unfold inCol;infer_instance
def OfR (ks:List Int) (r:List VL):Prop:=ks.length≤20∧r.length=ks.length∧∀ i,i<r.length→inCol ks r i
instance (ks:List Int) (r:List VL):Decidable (OfR ks r):=by unfold OfR;infer_instance
end Go.Proofs.Try


namespace Go.Proofs.Try
open Go.Proofs.Tryz
open Go.Al
set_option maxRecDepth 100000
def mc51:MC:=(.seq (.ops [(none,.e (.box 2 (.t 0))),(none,.e (.box 3 (.t 1))),(none,.v (.mov 4 (.c (.bool false))))]) (.seq (.ops [(none,.v (.fld 5 0 (.t 2))),(none,.v (.load 6 false 1 (.t 5))),(none,.v (.fld 7 0 (.t 3))),(none,.v (.load 8 false 1 (.t 7))),(none,.v (.bin 9 .eql false (.t 6) (.t 8))),(none,.v (.mov 10 (.t 9))),(some (10,true),.v (.fld 11 1 (.t 2))),(some (10,true),.v (.load 12 false 1 (.t 11))),(some (10,true),.v (.fld 13 1 (.t 3))),(some (10,true),.v (.load 14 false 1 (.t 13))),(some (10,true),.v (.bin 15 .eql false (.t 12) (.t 14))),(none,.v (.pick 16 (.t 10) (.t 15) (.c (.bool false)))),(none,.v (.mov 17 (.t 16))),(some (17,true),.v (.fld 18 2 (.t 2))),(some (17,true),.v (.load 19 true 3 (.t 18))),(some (17,true),.v (.fld 20 2 (.t 3))),(some (17,true),.v (.load 21 true 3 (.t 20))),(some (17,true),.v (.eq 22 false (.agg [(0,false,1,.int),(1,false,1,.int),(2,false,1,.str)]) (.t 19) (.t 21))),(none,.v (.pick 23 (.t 17) (.t 22) (.c (.bool false)))),(none,.v (.mov 24 (.t 23))),(some (24,true),.v (.fld 25 5 (.t 2))),(some (24,true),.v (.load 26 false 1 (.t 25))),(some (24,true),.v (.fld 27 5 (.t 3))),(some (24,true),.v (.load 28 false 1 (.t 27))),(some (24,true),.e (.call (some 29) 52 [.t 26,.t 28,.c (.fn (.func 51) [] [])])),(none,.v (.pick 30 (.t 24) (.t 29) (.c (.bool false)))),(none,.v (.mov 4 (.t 30)))]) .ret))
theorem ok51:FnOk E 51 31 [.tmp 4] mc51:=ofk func51
abbrev q52_0:MI:=.v (.mov 6 (.c (.bool false)))
def mc52:MC:=(.seq (.ops [(none,q52_0)]) (.seq (.seq (.ops [(none,.v (.mov 10 (.t 0))),(none,.p (.len 11 (.t 10))),(none,.v (.mov 12 (.t 1))),(none,.p (.len 13 (.t 12))),(none,.v (.bin 14 .neq false (.t 11) (.t 13)))]) (.cond 14 (.seq (.ops [(none,q52_0)]) .ret) .skip)) (.seq (.seq (.ops [(none,.v (.mov 15 (.t 0))),(none,.p (.len 16 (.t 15))),(none,.v (.mov 17 (.c (.int .i64 0))))]) (.block 0 (.loop (.seq (.ops [(none,.v (.bin 18 .lss false (.t 17) (.t 16)))]) (.seq (.cond 18 .skip (.exit 0)) (.seq (.block 1 (.seq (.ops [(none,.v (.mov 19 (.t 17))),(none,.p (.idx 20 6 (.t 15) (.t 17))),(none,.v (.load 21 true 6 (.t 20))),(none,.e (.alloc 8 z3)),(none,.v (.mov 7 (.t 19))),(none,.e (.store 6 true (.t 8) (.t 21)))]) (.seq (.ops [(none,.v (.mov 22 (.t 1))),(none,.v (.mov 23 (.t 7))),(none,.p (.idx 24 6 (.t 22) (.t 23))),(none,.v (.load 25 true 6 (.t 24))),(none,.e (.alloc 9 z3)),(none,.e (.store 6 true (.t 9) (.t 25)))]) (.seq (.ops [(none,.v (.mov 26 (.t 2))),(none,.v (.load 27 true 6 (.t 8))),(none,.v (.load 28 true 6 (.t 9))),(none,.e (.callv (some 29) (.t 26) [.t 27,.t 28])),(none,.v (.not 30 (.t 29)))]) (.cond 30 (.seq (.ops [(none,q52_0)]) .ret) .skip))))) (.ops [(none,.v (.bin 31 .add false (.t 17) (.c (.int .i64 1)))),(none,.v (.mov 17 (.t 31)))]))))))) (.seq (.ops [(none,.v (.mov 6 (.c (.bool true))))]) .ret))))
theorem ok52:FnOk E 52 32 [.tmp 6] mc52:=ofk func52
end Go.Proofs.Try
namespace Go.Proofs.Try
open Go.Proofs.Tryz
open Go.Al
set_option linter.unusedVariables false
set_option linter.unusedSimpArgs false
set_option maxRecDepth 20000
set_option maxHeartbeats 8000000

noncomputable def eqE (a b:EX):Bool:=@decide (a=b) (Classical.propDecidable _)
noncomputable def eqL (l m:List EX):Bool:=@decide (l=m) (Classical.propDecidable _)
theorem eqE_iff {a b:EX}:eqE a b=true↔a=b:=by simp [eqE]
theorem eqL_iff {a b:List EX}:eqL a b=true↔a=b:=by simp [eqL]
theorem eqE_false {a b:EX}:eqE a b=false↔a≠b:=by rw [← Bool.not_eq_true,eqE_iff]
theorem eqL_false {a b:List EX}:eqL a b=false↔a≠b:=by rw [← Bool.not_eq_true,eqL_iff]
theorem ex_eq {a b:EX}:a=b↔a.op=b.op∧a.n=b.n∧(a.val.k=b.val.k∧a.val.n=b.val.n∧a.val.s=b.val.s)∧a.args=b.args:=by
 cases a;cases b
 simp [EX.op,EX.n,EX.val,EX.args,and_assoc]
theorem list_eq {l m:List EX} (h1:l.length=m.length) (h2:∀ j,j<l.length→l.getD j default=m.getD j default):l=m:=by
 apply List.ext_getElem h1
 intro i hi hi2
 have:=h2 i hi
 simpa [hi,hi2] using this
theorem c52n (l m:List EX) (hrec:∀ j,j<l.length→∀ y:EX,ACalls E.P 51 [(l.getD j default).av,y.av] [] (fun r H=>r=.bool (eqE (l.getD j default) y)∧H=[])) :
 ACalls E.P 52 [.view 6 (l.map EX.av),.view 6 (m.map EX.av),.fn (.func 51) [] []] [] (fun r H=>r=.bool (eqL l m)∧H=[]):=by
 have hmax:=maxLen_eq
 refine ok52.acalls hE hm (by simp) fun N hN=>?_
 unfold mc52 q52_0 z3
 simp only [lA,ptrCells,ptrAdd,isNil,seval]
 repeat' (first | (with_reducible apply St.o;constructor) <;> intro _ | (with_reducible first | refine And.intro (by omega) ?_ | (apply Sq.o;constructor)) | ((with_reducible refine keep0_i ?_);simp only [lP,seval]) | simp (maxSteps:=1000000) (disch:=omega) only [lE,ptrCells,ptrAdd,isNil,seval,List.length_map])
 · rename_i h
   have:l≠m:=fun h2=>by subst h2;omega
   simp [eqL_false.2 this]
 · rename_i h
   have hlen:l.length=m.length:=by omega
   refine loop_i (fun i:Nat=>i≤l.length∧∀ j,j<i→l.getD j default=m.getD j default) (fun i=>⟨[(1,.view 6 (m.map EX.av)),(2,.fn (.func 51) [] []),(15,.view 6 (l.map EX.av)),(16,.int .i64 l.length),(17,.int .i64 i)],[]⟩) (fun i=>l.length - i) 0 ⟨by omega,by simp⟩ (Ent.to [] false (by simp) (by simp) rfl (by simp only [lP,seval] <;> (try simp) <;> (try omega)) (by simp only [lP,seval] <;> (try simp) <;> (try omega))) ?_
   rintro i ⟨hi,ha⟩
   by_cases hin:i<l.length
   · have hr:=hrec i hin (m.getD i default)
     have hlt:((i:Int)<(l.length:Int)):=by omega
     simp only [av_fs] at hr
     repeat' (first | (with_reducible apply St.o;constructor) <;> intro _ | (with_reducible first | refine And.intro (by omega) ?_ | (apply Sq.o;constructor)) | ((with_reducible apply Sc.o true;constructor);simp only [lP,seval,IdxR_exs,Int.toNat_natCast,List.length_map,hlt,decide_true];refine ⟨_,hr,?_⟩;rintro _ _ ⟨rfl,rfl⟩;simp only [lA,lP,ptrCells,ptrAdd,isNil,seval,IdxR_exs,Int.toNat_natCast,List.length_map,hlt,decide_true]) | ((with_reducible refine keep0_i ?_);simp only [lP,seval]) | simp (maxSteps:=1000000) (disch:=omega) only [lE,ptrCells,ptrAdd,isNil,seval,IdxR_exs,Int.toNat_natCast,List.length_map,hlt,decide_true])
     · rename_i h2
       have h3:¬ (l.getD i default=m.getD i default):=eqE_false.1 (by simpa using h2)
       have:l≠m:=fun h4=>by subst h4;exact h3 rfl
       simp [eqL_false.2 this]
     · rename_i h2
       have h3:l.getD i default=m.getD i default:=eqE_iff.1 (by simpa using h2)
       refine back_i (i+1) ⟨by omega,fun j hj=>?_⟩ (by omega) (Ent.to [] false (by simp) (by simp) rfl (by simp only [lP,seval] <;> (try simp) <;> (try omega)) (by simp only [lP,seval] <;> (try simp) <;> (try omega)))
       by_cases hji:j<i
       · exact ha j hji
       · obtain rfl:j=i:=by omega
         exact h3
   · obtain rfl:i=l.length:=by omega
     have:l=m:=list_eq hlen ha
     repeat' (first | (with_reducible apply St.o;constructor) <;> intro _ | (with_reducible first | refine And.intro (by omega) ?_ | (apply Sq.o;constructor)) | ((with_reducible refine keep0_i ?_);simp only [lP,seval]) | simp (maxSteps:=1000000) (disch:=omega) only [lE,ptrCells,ptrAdd,isNil,seval,List.length_map,Int.lt_irrefl,decide_false])
     simp [eqL_iff.2 this]
theorem c51 (a b:EX):ACalls E.P 51 [a.av,b.av] [] (fun r H=>r=.bool (eqE a b)∧H=[]):=by
 generalize hsz:SizeOf.sizeOf a=sz
 induction sz using Nat.strongRecOn generalizing a b with
 | _ sz ih =>
 have h52:=c52n a.args b.args fun j hj y=>ih _ (by subst hsz;exact size_args hj) _ y rfl
 refine ok51.acalls hE hm (by simp) fun N hN=>?_
 unfold mc51
 simp only [lA,ptrCells,ptrAdd,isNil,seval,av_fs]
 repeat' (first | (with_reducible apply St.o;constructor) <;> intro _ | (with_reducible first | refine And.intro (by omega) ?_ | (apply Sq.o;constructor)) | ((with_reducible apply Sc.o true;constructor);simp only [lP,seval,strA,flatEq];refine ⟨_,h52,?_⟩;rintro _ _ ⟨rfl,rfl⟩;simp only [lA,lP,ptrCells,ptrAdd,isNil,seval,strA,flatEq]) | ((with_reducible refine keep0_i ?_);simp only [lP,seval]) | simp (maxSteps:=1000000) (disch:=omega) only [lE,ptrCells,ptrAdd,isNil,seval,strA,flatEq])
 all_goals clear h52 ih
 · rename_i h1 h2 h3
   have h3:a.val.k=b.val.k∧a.val.n=b.val.n∧a.val.s=b.val.s:=by simpa using h3
   have:eqE a b=eqL a.args b.args:=by
    rw [Bool.eq_iff_iff,eqE_iff,eqL_iff,ex_eq]
    exact ⟨fun h=>h.2.2.2,fun h=>⟨h1,h2,h3,h⟩⟩
   simp [this]
 all_goals
  have:a≠b:=fun h=>by
   subst h
   simp_all
  simp [eqE_false.2 this]
end Go.Proofs.Try

