/-
 A part of the proof: see the text of the law.
-/
import Derived.Test.YtchlampphcaomaaGreatDoorBase
import Derived.Lib.Bytealg
set_option linter.unusedSimpArgs false
set_option linter.unusedVariables false
namespace Go.Proofs.Try
open Go.Proofs.Tryz
open Go.Al
set_option maxRecDepth 100000
abbrev q155_0:MI:=oZ 4
def mc155:MC:=(.seq (.ops [pK 2 0,(none,q155_0)]) (.seq (.seq (.ops [pM 7 1,pR 8 6 2,(none,.e (.callv (some 9) (.t 7) [.t 8])),pN 10 9]) (.cond 10 (.seq (.ops [(none,q155_0)]) .ret) .skip)) (.seq (.seq (.ops [pF 11 5 2,pL 12 11,pG 13 12,pI 14 0]) (.block 0 (.loop (.seq (.ops [pB 15 14 13]) (.seq (.cond 15 .skip (.exit 0)) (.seq (.block 1 (.seq (.ops [pQ 16 6 12 14,pR 17 6 16,(none,.e (.alloc 6 z3)),pS 6 6 17]) (.seq (.ops [pR 18 6 6,pM 19 1,pW 20 155 18 19,pN 21 20]) (.cond 21 (.seq (.ops [(none,q155_0)]) .ret) .skip)))) (.ops [pA 22 14 1,pM 14 22]))))))) (.seq (.ops [(none,.v (.mov 4 (.c (.bool true))))]) .ret))))
theorem ok155:FnOk E 155 23 [.tmp 4] mc155:=ofk func155
inductive EX where
 | mk (op n k i:Int) (s:ByteArray) (args:List EX)
mutual
def EX.av:EX→AV
 | .mk op n k i s args=>.agg [.int .i64 op,.int .i64 n,.int .i64 k,.int .i64 i,.str s,.view 6 (EX.avL args)]
def EX.avL:List EX→List AV
 | []=>[]
 | e::es=>e.av::EX.avL es
end
theorem avL_map:∀ (l:List EX),EX.avL l=l.map EX.av
 | []=>rfl
 | e::es=>by rw [EX.avL,avL_map es];rfl
mutual
def walk {X:Type} (f:X→EX→Bool × X):EX→X→Bool × X
 | .mk op n k i s args,x=>if (f x (.mk op n k i s args)).1 then walkL f args (f x (.mk op n k i s args)).2 else (false,(f x (.mk op n k i s args)).2)
def walkL {X:Type} (f:X→EX→Bool × X):List EX→X→Bool × X
 | [],x=>(true,x)
 | e::es,x=>if (walk f e x).1 then walkL f es (walk f e x).2 else (false,(walk f e x).2)
end
instance:Inhabited EX:=⟨.mk 0 0 0 0 ByteArray.empty []⟩
theorem walkL_append {X:Type} (f:X→EX→Bool × X):∀ (l m:List EX) (x:X),walkL f (l++m) x=if (walkL f l x).1 then walkL f m (walkL f l x).2 else (false,(walkL f l x).2)
 | [],m,x=>by simp [walkL]
 | e::l,m,x=>by
   simp only [List.cons_append,walkL]
   split
   · exact walkL_append f l m _
   · simp
theorem set_last {α:Type} (l:List α) (a b:α):(l++[a]).set l.length b=l++[b]:=by simp
theorem get_last {α:Type} (l:List α) (a:α):(l++[a])[l.length]?=some a:=by simp
section
variable {X:Type} {st:X→List AObj} {K id:Nat} {f:X→EX→Bool × X} {live:X→Prop}
mutual
theorem walk_live (hl:∀ x e,live x→(f x e).1=true→live (f x e).2):∀ (e:EX) (x:X),live x→(walk f e x).1=true→live (walk f e x).2
 | .mk op n k i s args,x,hx,h=>by
   rw [walk] at h ⊢
   split at h
   · rename_i h1
     rw [if_pos h1]
     exact walkL_live hl args _ (hl _ _ hx h1) h
   · cases h
theorem walkL_live (hl:∀ x e,live x→(f x e).1=true→live (f x e).2):∀ (es:List EX) (x:X),live x→(walkL f es x).1=true→live (walkL f es x).2
 | [],x,hx,_=>hx
 | e::es,x,hx,h=>by
   rw [walkL] at h ⊢
   split at h
   · rename_i h1
     rw [if_pos h1]
     exact walkL_live hl es _ (walk_live hl e x hx h1) h
   · cases h
end
theorem c155 (hK:∀ x,(st x).length=K) (hid:id<K) (hsc:∀ x,(st x).all (scO K)=true) (hl:∀ x e,live x→(f x e).1=true→live (f x e).2) (hy:∀ x e,live x→AYield E.P id [e.av] (st x) (fun r H'=>r=.bool (f x e).1∧H'=st (f x e).2)) (e:EX) (x:X) (hx:live x) :
 ACalls E.P 155 [e.av,.yld id] (st x) (fun r H'=>r=.bool (walk f e x).1∧H'=st (walk f e x).2):=by
 have hg:∀ x a,(st x++[a])[K]?=some a:=fun x a=>by rw [← hK x];simp
 have hs:∀ x a b,(st x++[a]).set K b=st x++[b]:=fun x a b=>by rw [← hK x];simp
 have hy':∀ x e L,live x→AYield E.P id [e.av] (st x++L) (fun r H'=>∃ H1,H'=H1++L∧r=.bool (f x e).1∧H1=st (f x e).2):=fun x e L hx =>
  AYield.suffix (by rw [hK];exact hid) (by rw [hK];exact hsc x) (by cases e;simp [scL,sc,EX.av]) (hy x e hx) (by rintro _ _ ⟨_,rfl⟩;rw [hK,hK])
 generalize hsz:SizeOf.sizeOf e=sz
 induction sz using Nat.strongRecOn generalizing e x with
 | _ sz ih =>
 obtain ⟨op,n,k,i,s,args⟩:=e
 have ihL:∀ (j:Nat) (hj:j<args.length) (x:X),live x→ACalls E.P 155 [(args[j]).av,.yld id] (st x) (fun r H'=>r=.bool (walk f (args[j]) x).1∧H'=st (walk f (args[j]) x).2):=fun j hj x hx =>
  ih _ (by subst hsz;have:=List.sizeOf_lt_of_mem (List.getElem_mem hj);simp only [EX.mk.sizeOf_spec];omega) _ x hx rfl
 have ihS:∀ (j:Nat) (hj:j<args.length) (x:X) (L:List AObj),live x→ACalls E.P 155 [(args[j]).av,.yld id] (st x++L) (fun r H'=>∃ H1,H'=H1++L∧r=.bool (walk f (args[j]) x).1∧H1=st (walk f (args[j]) x).2):=fun j hj x L hx =>
  ACalls.suffix (by rw [hK];exact hsc x) (by generalize args[j]=e;cases e;simp [scL,sc,EX.av,hK,hid]) (ihL j hj x hx) (by rintro _ _ ⟨_,rfl⟩;rw [hK,hK])
 have fin:∀ (b:Bool) (y:X) (L:List AObj),walk f (.mk op n k i s args) x=(b,y)→∃ H1 L',st y++L=H1++L'∧K≤H1.length∧sc H1.length (.bool b)=true∧H1.all (scO H1.length)=true∧AV.bool b=.bool (walk f (.mk op n k i s args) x).1∧H1=st (walk f (.mk op n k i s args) x).2:=fun b y L h =>
  ⟨st y,L,rfl,by rw [hK];exact Nat.le_refl _,rfl,by rw [hK];exact hsc y,by rw [h],by rw [h]⟩
 refine ACalls.drop (ok155.acalls0 hE hm (by simp) fun N hN=>?_)
 unfold mc155 q155_0 z3 pK pM pR pN pF pL pG pI pB pQ pS pW pA oZ
 simp only [lA,seval,EX.av,hK,hg,hs]
 refine yld_i (hy' x (.mk op n k i s args) _ hx) ?_
 rintro _ _ ⟨_,rfl,rfl,rfl⟩
 simp only [lA,seval,hK,hg,hs]
 have hfl:=hl x (.mk op n k i s args) hx
 generalize hfx:f x (.mk op n k i s args)=fx at *
 have hmax:=maxLen_eq
 refine cond_i (fun h=>?_) (fun h=>?_)
 · simp only [lA,seval,hK,hg,hs]
   exact fin false fx.2 _ (by simp only [walk,hfx];simp at h;simp [h])
 · simp only [Bool.not_eq_false'] at h
   simp only [lA,seval,hK,hg,hs]
   refine LenR_i fun hlen=>?_
   rw [avL_map] at hlen ⊢
   rw [List.length_map] at hlen
   simp only [lA,seval,hK,hg,hs,List.length_map]
   refine loop_i (fun p:Nat × X=>p.1≤args.length∧walkL f (args.take p.1) fx.2=(true,p.2)∧live p.2) (fun p=>⟨[(1,.yld id),(12,.view 6 (args.map EX.av)),(13,.int .i64 args.length),(14,.int .i64 p.1)],st p.2⟩) (fun p=>args.length - p.1) (0,fx.2) ⟨by simp,by simp [walkL],hfl h⟩
    (Ent.drop (by rw [hK];exact Nat.le_refl _) (by rw [hK];exact hsc _) (by simp [FrSc,Go.Al.get,sc,hK,hid])) ?_
   rintro ⟨j,y⟩ ⟨hj,hw,hyl⟩
   simp only at hj hw hyl
   simp only [lA,seval,hK,hg,hs]
   refine cond_i (fun h1=>?_) (fun h1=>?_)
   · simp only [decide_eq_true_eq] at h1
     have hjl:j<args.length:=by omega
     simp only [lA,seval,hK,hg,hs]
     have hnext:walkL f (args.take (j+1)) fx.2=if (walk f args[j] y).1 then (true,(walk f args[j] y).2) else (false,(walk f args[j] y).2):=by
      rw [List.take_succ_eq_append_getElem hjl,walkL_append,hw]
      simp [walkL]
     have hcall:=fun L=>ihS j hjl y L hyl
     have hwl:=walk_live hl args[j] y hyl
     have hx:(args.map EX.av)[(j:Int).toNat]?=some (args[j]).av:=by simp [hjl]
     generalize hej:args[j]=ej at *
     obtain ⟨o2,n2,k2,i2,s2,args2⟩:=ej
     refine ⟨_,_,by omega,hx,rfl,?_⟩
     simp only [lA,seval,EX.av,hK,hg,hs]
     refine ACalls.mono (hcall _) ?_
     rintro _ _ ⟨_,rfl,rfl,rfl⟩
     simp only [lA,seval,hK,hg,hs]
     generalize walk f (.mk o2 n2 k2 i2 s2 args2) y=wy at *
     refine cond_i (fun h2=>?_) (fun h2=>?_)
     · simp only [Bool.not_eq_true'] at h2
       simp only [lA,seval,hK,hg,hs]
       refine fin false wy.2 _ ?_
       simp only [walk,hfx,h,if_true]
       have:args=args.take (j+1)++args.drop (j+1):=by simp
       rw [this,walkL_append,hnext,h2]
       simp
     · simp only [Bool.not_eq_false'] at h2
       simp only [lA,seval,hK,hg,hs,wrap_i64 (show -9223372036854775808≤(j:Int)+1 by omega) (show (j:Int)+1≤9223372036854775807 by omega)]
       refine back_i (j+1,wy.2) ⟨by omega,by rw [hnext,h2];rfl,hwl h2⟩ (by simp only;omega) (Ent.drop (by rw [hK];exact Nat.le_refl _) (by rw [hK];exact hsc _) (by simp [FrSc,Go.Al.get,sc,hK,hid]))
   · simp only [decide_eq_false_iff_not] at h1
     have hjl:j=args.length:=by omega
     subst hjl
     rw [List.take_length] at hw
     simp only [lA,seval,hK,hg,hs]
     have:=fin true y [] (by simp only [walk,hfx,h,if_true];exact hw)
     simpa using this
end
def mc130:MC:=(.seq (.ops [pK 1 0,pI 2 0]) (.seq (.ops [(none,.e (.alloc 3 [.int .i64 0])),(none,.e (.store 1 false (.t 3) (.c (.int .i64 0))))]) (.seq (.seq (.ops [pR 4 6 1,pV 5 131 4]) (.block 0 (.rngf (.t 5) #[6] .skip (.block 1 (.ops [pL 7 3,pA 8 7 1,(none,.e (.store 1 false (.t 3) (.t 8)))]))))) (.seq (.ops [pL 9 3,pM 2 9]) .ret))))
theorem ok130:FnOk E 130 10 [.tmp 2] mc130:=ofk func130
def mc131:MC:=(.seq (.ops [pK 1 0,(none,.v (.mov 2 (.c (.raw .nilFunc))))]) (.seq (.ops [(none,.v (.fn 3 (.func 154) [] [.t 1])),pM 2 3]) .ret))
theorem ok131:FnOk E 131 4 [.tmp 2] mc131:=ofk func131
def mc154:MC:=(.ops [pR 3 6 1,pM 4 0,pW 5 155 3 4])
theorem ok154:FnOk E 154 6 [] mc154:=ofk func154
def EX.cs:EX→List AV
 | .mk op n k i s args=>[.int .i64 op,.int .i64 n,.int .i64 k,.int .i64 i,.str s,.view 6 (EX.avL args)]
theorem c131 (e:EX):ACalls E.P 131 [e.av] [] (fun r H=>r=.fn (.func 154) [] [.vp e.cs]∧H=[]):=by
 obtain ⟨op,n,k,i,s,args⟩:=e
 refine ok131.acalls hE hm (by simp) fun N hN=>?_
 unfold mc131 pK pM
 simp only [lA,seval,EX.av]
 refine keep_i [] true (by simp) (by simp) rfl ?_
 simp only [lP,seval]
 rfl
section
variable {X:Type} {st:X→List AObj} {K id:Nat} {f:X→EX→Bool × X} {live:X→Prop}
theorem c154 (hK:∀ x,(st x).length=K) (hid:id<K) (hsc:∀ x,(st x).all (scO K)=true) (hl:∀ x e,live x→(f x e).1=true→live (f x e).2) (hy:∀ x e,live x→AYield E.P id [e.av] (st x) (fun r H'=>r=.bool (f x e).1∧H'=st (f x e).2)) (e:EX) (x:X) (hx:live x) :
 ACalls E.P 154 [.yld id,.vp e.cs] (st x) (fun r H'=>H'=st (walk f e x).2):=by
 have hv:=c155 hK hid hsc hl hy e x hx
 obtain ⟨op,n,k,i,s,args⟩:=e
 refine ok154.acalls0 hE hm (by simp) fun N hN=>?_
 unfold mc154 pR pM pW
 simp only [lA,seval,EX.cs,hK]
 refine ACalls.mono hv ?_
 rintro _ _ ⟨rfl,rfl⟩
 simp only [lA,seval]
end
mutual
def EX.count:EX→Nat
 | .mk _ _ _ _ _ args=>1+EX.countL args
def EX.countL:List EX→Nat
 | []=>0
 | e::es=>e.count+EX.countL es
end
mutual
theorem walk_count:∀ (e:EX) (c:Nat),walk (fun c _=>(true,c+1)) e c=(true,c+e.count)
 | .mk _ _ _ _ _ args,c=>by simp only [walk,if_true,walkL_count args,EX.count];congr 1;omega
theorem walkL_count:∀ (es:List EX) (c:Nat),walkL (fun c _=>(true,c+1)) es c=(true,c+EX.countL es)
 | [],c=>rfl
 | e::es,c=>by simp only [walkL,walk_count e,if_true,walkL_count es,EX.countL];congr 1;omega
end
theorem wrap_add1 (a b:Int):IntKind.i64.wrap (IntKind.i64.wrap a+b)=IntKind.i64.wrap (a+b):=by
 rw [IntKind.wrap_i64,IntKind.wrap_i64,IntKind.wrap_i64];omega
theorem c130 (e:EX):ACalls E.P 130 [e.av] [] (fun r H=>r=.int .i64 (IntKind.i64.wrap e.count)∧H=[]):=by
 have h131:=c131 e
 obtain ⟨op,n,k,i,s,args⟩:=e
 refine ok130.acalls hE hm (by simp) fun N hN=>?_
 unfold mc130 pK pI pR pV pL pA pM
 simp only [lA,seval,EX.av]
 refine callN_i [] false (by simp) (by simp) ?_
 simp only [lP,seval]
 refine ⟨_,h131,?_⟩
 rintro _ _ ⟨rfl,rfl⟩
 simp only [lA,lP,seval]
 refine rng_i hN [(3,.op 1 0)] (by simp [FrSub,Go.Al.get]) fun fn cas bd hy=>?_
 let st:Nat→List AObj:=fun c=>[.box (EX.mk op n k i s args).cs,.box [.int .i64 (IntKind.i64.wrap c)],.loop .ready none [(3,.op 1 0)] N.n fn #[6] cas bd]
 have hY:∀ (c:Nat) (e:EX),AYield E.P 2 [e.av] (st c) (fun r H'=>r=.bool true∧H'=st (c+1)):=by
  intro c e
  refine hy 2 [(3,.op 1 0)] [e.av] (st c) _ rfl rfl fun N2 hN2=>?_
  simp only [lA,seval,st]
  refine round_i (o:=fun st pd=>.loop st pd [(3,.op 1 0)] N.n fn #[6] cas bd) (by rfl) ⟨rfl,?_⟩
  simp only [wrap_add1]
  rfl
 refine ⟨_,c154 (st:=st) (K:=3) (id:=2) (f:=fun c _=>(true,c+1)) (fun _=>rfl) (by omega) (fun _=>by simp [st,scO,sc,scL,EX.cs]) (live:=fun _=>True) (fun _ _ _ _=>trivial) (fun c e _=>hY c e) (.mk op n k i s args) 0 trivial,?_⟩
 rintro r _ rfl
 rw [walk_count]
 refine ⟨.ready,none,[(3,.op 1 0)],rfl,by simp,[(3,.op 1 0)],st (0+(EX.mk op n k i s args).count) |>.set 2 .lost,Ent.fr (by simp [FrSub,Go.Al.get]),?_⟩
 simp only [lA,seval,st]
 refine keep0_i ?_
 simp only [lP,seval]
 try simp
open Go.Al Go.Proofs.Tryz
set_option maxHeartbeats 1000000
theorem call145 (a b:ByteArray) (w:World):Calls Tryz.prog 145 #[.string a,.string b] w fun e w'=>e=.returned (.int .i64 (Lib.compareBytes a.data.toList b.data.toList))∧w'=w:=by
 have hm:=hm
 go_enter func145,(by kernel_rfl:f145.ntmps=8)
 go_wp2
 rw [run_callFunc_extern func166 (by kernel_rfl) (by kernel_rfl) (by kernel_rfl) (e:=Extern.BytealgCompare.compare) (by kernel_rfl),Lib.run_compareString]
 simp only [Result.andThen]
 rw [Oper.upon_value]
 go_wp2
 go_ret
 exact ⟨rfl,rfl⟩
theorem c145 (a b:ByteArray):ACalls E.P 145 [.str a,.str b] [] (fun r H=>r=.int .i64 (Lib.compareBytes a.data.toList b.data.toList)∧H=[]):=by
 refine ⟨⟨f145,func145,by kernel_rfl,by kernel_rfl⟩,fun γ σ w vs hi hv=>?_⟩
 obtain ⟨v1,vs1,rfl,h1,h2⟩:=repVs_cons.1 hv
 obtain ⟨v2,vs2,rfl,h3,h4⟩:=repVs_cons.1 h2
 rw [repVs_nil] at h4
 simp only [RepV] at h1 h3
 subst h1 h3 h4
 refine (call145 a b w).mono ?_
 rintro e w' ⟨rfl,rfl⟩
 exact ⟨_,γ,σ,.int .i64 (Lib.compareBytes a.data.toList b.data.toList),[],rfl,Step.refl _ _ _,hi,by simp [RepV],rfl,rfl⟩
def mc38:MC:=(.seq (.ops [pK 2 0,pK 3 1,pI 4 0]) (.seq (.seq (.ops [pF 5 0 2,pL 6 5,pF 7 0 3,pL 8 7,(none,.v (.bin 9 .neq false (.t 6) (.t 8)))]) (.cond 9 (.seq (.ops [pF 10 0 2,pL 11 10,pF 12 0 3,pL 13 12,pW 14 67 11 13,pM 4 14]) .ret) .skip)) (.seq (.seq (.ops [pF 15 2 2,pL 16 15,pF 17 2 3,pL 18 17,pB 19 16 18]) (.cond 19 (.seq (.ops [(none,.v (.mov 4 (.c (.int .i64 (-1)))))]) .ret) .skip)) (.seq (.seq (.ops [pF 20 2 2,pL 21 20,pF 22 2 3,pL 23 22,(none,.v (.bin 24 .gtr false (.t 21) (.t 23)))]) (.cond 24 (.seq (.ops [pI 4 1]) .ret) .skip)) (.seq (.ops [pF 25 1 2,pL 26 25,pF 27 1 3,pL 28 27,pW 29 67 26 28,pM 4 29]) .ret)))))
theorem ok38:FnOk E 38 30 [.tmp 4] mc38:=ofk func38
def mc67:MC:=(.seq (.ops [pI 4 0]) (.seq (.seq (.ops [pM 5 0,pM 6 1,pB 7 5 6]) (.cond 7 (.seq (.ops [(none,.v (.mov 4 (.c (.int .i64 (-1)))))]) .ret) .skip)) (.seq (.seq (.ops [pM 8 0,pM 9 1,(none,.v (.bin 10 .gtr false (.t 8) (.t 9)))]) (.cond 10 (.seq (.ops [pI 4 1]) .ret) .skip)) (.seq (.ops [pI 4 0]) .ret))))
theorem ok67:FnOk E 67 11 [.tmp 4] mc67:=ofk func67
def mc95:MC:=(.seq (.ops [pK 2 0,pK 3 1,pI 4 0]) (.seq (.any false (.pure0 none (oF 5 0 2) (.pure0 none (oL 6 5) (.pure0 none (oF 7 0 3) (.pure0 none (oL 8 7) (.pure0 none (oF 10 1 2) (.pure0 none (oL 11 10) (.pure0 none (oF 12 1 3) (.pure0 none (oL 13 12) (.pure0 none (oF 15 2 2) (.pure0 none (oL 16 15) (.pure0 none (oF 17 2 3) (.pure0 none (oL 18 17) (.alt none (oW 9 119 6 8) (.base (.alt none (oW 14 119 11 13) (.base (.alt none (oW 19 120 16 18) (.base (.alt none (.e (.mkl 20 3 1 3 (.int .i64 0) [(0,.t 9),(1,.t 14),(2,.t 19)])) (.base (.alt none (oV 21 118 20) (.base (.pure0 none (oM 4 21) .done)) .stop)) .stop)) .stop)) .stop)) .stop)))))))))))))) .ret))
theorem ok95:FnOk E 95 22 [.tmp 4] mc95:=ofk func95
def mc118:MC:=(.seq (.ops [pI 2 0]) (.seq (.ops [pI 3 0]) (.seq (.seq (.ops [pM 6 0,pG 7 6,pI 8 0]) (.block 0 (.loop (.seq (.ops [pB 9 8 7]) (.seq (.cond 9 .skip (.exit 0)) (.seq (.block 1 (.seq (.ops [pQ 10 1 6 8,pL 11 10,pM 5 11]) (.seq (.ops [pM 12 5,pM 13 3,(none,.v (.bin 14 .neq false (.t 12) (.t 13)))]) (.cond 14 (.seq (.ops [pM 15 5,pM 2 15]) .ret) .skip)))) (.ops [pA 16 8 1,pM 8 16]))))))) (.seq (.ops [pM 17 3,pM 2 17]) .ret))))
theorem ok118:FnOk E 118 18 [.tmp 2] mc118:=ofk func118
abbrev q119_0:MI:=oI 4 0
def mc119:MC:=(.seq (.ops [(none,q119_0)]) (.seq (.ops [pM 7 0,pV 8 144 7,pM 5 8]) (.seq (.ops [pM 9 1,pV 10 144 9,pM 6 10]) (.seq (.seq (.ops [pM 11 5]) (.cond 11 (.seq (.seq (.ops [pM 12 6]) (.cond 12 (.seq (.ops [(none,q119_0)]) .ret) .skip)) (.seq (.ops [(none,.v (.mov 4 (.c (.int .i64 (-1)))))]) .ret)) .skip)) (.seq (.seq (.ops [pM 13 6]) (.cond 13 (.seq (.ops [pI 4 1]) .ret) .skip)) (.seq (.seq (.ops [pM 14 0,pM 15 1,pB 16 14 15]) (.cond 16 (.seq (.ops [(none,.v (.mov 4 (.c (.int .i64 (-1)))))]) .ret) .skip)) (.seq (.seq (.ops [pM 17 0,pM 18 1,(none,.v (.bin 19 .gtr false (.t 17) (.t 18)))]) (.cond 19 (.seq (.ops [pI 4 1]) .ret) .skip)) (.seq (.ops [(none,q119_0)]) .ret))))))))
theorem ok119:FnOk E 119 20 [.tmp 4] mc119:=ofk func119
def mc120:MC:=(.seq (.ops [pI 4 0]) (.seq (.ops [pM 5 0,pM 6 1,pW 7 145 5 6,pM 4 7]) .ret))
theorem ok120:FnOk E 120 8 [.tmp 4] mc120:=ofk func120
def mc144:MC:=(.seq (.ops [pZ 2]) (.seq (.ops [pM 3 0,pM 4 0,(none,.v (.bin 5 .neq false (.t 3) (.t 4))),pM 2 5]) .ret))
theorem ok144:FnOk E 144 6 [.tmp 2] mc144:=ofk func144
set_option maxRecDepth 20000
theorem c120 (a b:ByteArray):ACalls E.P 120 [.str a,.str b] [] (fun r H=>r=.int .i64 (Lib.compareBytes a.data.toList b.data.toList)∧H=[]):=by
 refine ok120.acalls hE hm (by simp) fun N hN=>?_
 unfold mc120 pI pM pW
 simp only [lA,seval]
 repeat' (first|(with_reducible first|(apply St.o;constructor)<;>intro _|refine And.intro (by omega) ?_|(apply Sq.o;constructor))|((with_reducible apply Sc.o true;constructor);simp only [lP,seval];refine ⟨_,c145 a b,?_⟩;rintro _ _ ⟨rfl,rfl⟩;simp only [lA,lP,seval])|((with_reducible refine keep0_i ?_);simp only [lP,seval])|simp (disch:=omega) only [lE,seval])
theorem c144 (a:Int):ACalls E.P 144 [.int .i64 a] [] (fun r H=>r=.bool false∧H=[]):=by
 refine ok144.acalls hE hm (by simp) fun N hN=>?_
 unfold mc144 pZ pM
 simp only [lA,seval]
 repeat' (first|(with_reducible first|(apply St.o;constructor)<;>intro _|refine And.intro (by omega) ?_|(apply Sq.o;constructor))|((with_reducible refine keep0_i ?_);simp only [lP,seval])|simp (disch:=omega) only [lE,seval])
 all_goals simp
def sgn (a b:Int):Int:=if a<b then -1 else if a > b then 1 else 0
theorem c67 (a b:Int):ACalls E.P 67 [.int .i64 a,.int .i64 b] [] (fun r H=>r=.int .i64 (sgn a b)∧H=[]):=by
 refine ok67.acalls hE hm (by simp) fun N hN=>?_
 unfold mc67 pI pM pB
 simp only [lA,seval]
 repeat' (first|(with_reducible first|(apply St.o;constructor)<;>intro _|refine And.intro (by omega) ?_|(apply Sq.o;constructor))|((with_reducible refine keep0_i ?_);simp only [lP,seval])|simp (disch:=omega) only [lE,seval])
 all_goals (simp only [sgn,AV.int.injEq,true_and];(repeat' split) <;> omega)
theorem c119 (a b:Int):ACalls E.P 119 [.int .i64 a,.int .i64 b] [] (fun r H=>r=.int .i64 (sgn a b)∧H=[]):=by
 refine ok119.acalls hE hm (by simp) fun N hN=>?_
 unfold mc119 q119_0 pM pV pI pB oI
 simp only [lA,seval]
 repeat' (first|(with_reducible first|(apply St.o;constructor)<;>intro _|refine And.intro (by omega) ?_|(apply Sq.o;constructor))|((with_reducible apply Sc.o true;constructor);simp only [lP,seval];(first|refine ⟨_,c144 a,?_⟩|refine ⟨_,c144 b,?_⟩);rintro _ _ ⟨rfl,rfl⟩;simp only [lA,lP,seval])|((with_reducible refine keep0_i ?_);simp only [lP,seval])|simp (disch:=omega) only [lE,seval])
 all_goals (simp only [sgn,AV.int.injEq,true_and];(repeat' split) <;> omega)
def orI:List Int→Int
 | []=>0
 | x::l=>if x=0 then orI l else x
theorem orI_drop {l:List Int} {i:Nat} (h:i<l.length):orI (l.drop i)=if l.getD i 0=0 then orI (l.drop (i+1)) else l.getD i 0:=by
 rw [List.drop_eq_getElem_cons h]
 simp [orI,h]
theorem c118 (l:List Int):ACalls E.P 118 [.view 1 (l.map (AV.int .i64))] [] (fun r H=>r=.int .i64 (orI l)∧H=[]):=by
 have hmax:=maxLen_eq
 refine ok118.acalls hE hm (by simp) fun N hN=>?_
 unfold mc118 pI pM pG pB pQ pL pA
 simp only [lA,seval]
 refine LenR_i fun hl=>?_
 rw [List.length_map,hmax] at hl
 simp only [lA,seval,List.length_map]
 refine loop_i (fun i:Nat=>i≤l.length∧orI l=orI (l.drop i)) (fun i=>⟨[(3,.int .i64 0),(6,.view 1 (l.map (AV.int .i64))),(7,.int .i64 l.length),(8,.int .i64 i)],[]⟩) (fun i=>l.length - i) 0 ⟨by omega,by simp⟩ (ent [] false (by simp only [lP,seval,List.length_map]<;>(try simp)<;>(try omega)) (by simp only [lP,seval,List.length_map]<;>(try simp)<;>(try omega))) ?_
 rintro i ⟨hi,ho⟩
 repeat' (first|(with_reducible first|(apply St.o;constructor)<;>intro _|refine And.intro (by omega) ?_|(apply Sq.o;constructor))|((with_reducible refine keep0_i ?_);simp only [lP,seval])|simp (disch:=omega) only [lE,seval])
 · rename_i h1 h2
   rw [ho,orI_drop (by omega),if_neg h2]
 · rename_i h1 h2
   exact back_i (i+1) ⟨by omega,by rw [ho,orI_drop (by omega),if_pos h2]⟩ (by omega) (ent [] false)
 · rw [ho,List.drop_eq_nil_of_le (by omega)];rfl
structure VL where
 k:Int
 n:Int
 s:ByteArray
def VL.av (v:VL):AV:=.agg [.int .i64 v.k,.int .i64 v.n,.str v.s]
def VL.cmp (a b:VL):Int:=orI [sgn a.k b.k,sgn a.n b.n,Lib.compareBytes a.s.data.toList b.s.data.toList]
theorem c95 (a b:VL):ACalls E.P 95 [a.av,b.av] [] (fun r H=>r=.int .i64 (a.cmp b)∧H=[]):=by
 obtain ⟨ka,na,sa⟩:=a
 obtain ⟨kb,nb,sb⟩:=b
 have h118:=c118 [sgn ka kb,sgn na nb,Lib.compareBytes sa.data.toList sb.data.toList]
 refine ok95.acalls hE hm (by simp) fun N hN=>?_
 unfold mc95 pK pI oM oL oF oV oW
 simp only [lA,seval,VL.av]
 repeat' (first|(with_reducible first|(apply St.o;constructor)<;>intro _|refine And.intro (by omega) ?_|(apply Sq.o;constructor))|((with_reducible apply Sc.o true;constructor);simp only [lP,seval,VL.cmp];(first|refine ⟨_,c119 ka kb,?_⟩|refine ⟨_,c119 na nb,?_⟩|refine ⟨_,c120 sa sb,?_⟩|refine ⟨_,h118,?_⟩);rintro _ _ ⟨rfl,rfl⟩;simp only [lA,lP,seval,VL.cmp])|((with_reducible refine keep0_i ?_);simp only [lP,seval])|simp (disch:=omega) only [lE,seval,VL.cmp])
def VL.cmp19 (a b:VL):Int :=
 if a.k≠b.k then sgn a.k b.k else if Op.bytesLess a.s.toList b.s.toList=true then -1 else if (!(Op.bytesLess a.s.toList b.s.toList || decide (a.s=b.s)))=true then 1 else sgn a.n b.n
theorem c38 (a b:VL):ACalls E.P 38 [a.av,b.av] [] (fun r H=>r=.int .i64 (a.cmp19 b)∧H=[]):=by
 obtain ⟨ka,na,sa⟩:=a
 obtain ⟨kb,nb,sb⟩:=b
 refine ok38.acalls hE hm (by simp) fun N hN=>?_
 unfold mc38 pK pI pF pL pW pM pB
 simp only [lA,seval,VL.av]
 repeat' (first|(with_reducible first|(apply St.o;constructor)<;>intro _|refine And.intro (by omega) ?_|(apply Sq.o;constructor))|((with_reducible apply Sc.o true;constructor);simp only [lP,seval,strA];(first|refine ⟨_,c67 ka kb,?_⟩|refine ⟨_,c67 na nb,?_⟩);rintro _ _ ⟨rfl,rfl⟩;simp only [lA,lP,seval,strA])|((with_reducible refine keep0_i ?_);simp only [lP,seval])|simp (disch:=omega) only [lE,seval,strA])
 all_goals (simp only [VL.cmp19];simp_all)
set_option maxRecDepth 100000
def mc146:MC:=(.seq (.ops [(none,.e (.alloc 2 z2))]) (.seq (.seq (.ops [pM 3 0]) (.cond 3 (.seq (.ops [(none,.v (.build 4 z2 [(0,1,.c (.int .i64 3)),(1,1,.c (.int .i64 1))])),pS 3 2 4]) .ret) .skip)) (.seq (.ops [(none,.v (.build 5 z2 [(0,1,.c (.int .i64 3))])),pS 3 2 5]) .ret)))
theorem ok146:FnOk E 146 6 [.cell 2 25] mc146:=ofk func146
def mc150:MC:=(.seq (.ops [pZ 2]) (.seq (.ops [pM 3 0,(none,.v (.bin 4 .geq false (.t 3) (.c (.int .i64 6)))),pM 5 4,gT 5 (oM 6 0),(some (5,true),.v (.bin 7 .leq false (.t 6) (.c (.int .i64 11)))),pP 8 5 7,pM 2 8]) .ret))
theorem ok150:FnOk E 150 9 [.tmp 2] mc150:=ofk func150
def mc160:MC:=(.seq (.ops [pZ 2]) (.seq (.ops [pM 3 0,(none,.v (.bin 4 .geq false (.t 3) (.c (.int .i64 3)))),pM 5 4,gT 5 (oM 6 0),(some (5,true),.v (.bin 7 .leq false (.t 6) (.c (.int .i64 5)))),pP 8 5 7,pM 2 8]) .ret))
theorem ok160:FnOk E 160 9 [.tmp 2] mc160:=ofk func160
def mc169:MC:=(.seq (.ops [(none,.e (.alloc 2 z2))]) (.seq (.ops [(none,.v (.build 4 z2 [(0,1,.c (.int .i64 3))])),(none,.e (.alloc 3 z2)),pS 3 3 4]) (.seq (.seq (.ops [pM 5 0]) (.cond 5 (.ops [pF 6 1 3,(none,.e (.store 1 false (.t 6) (.c (.int .i64 1))))]) .skip)) (.seq (.ops [pR 7 3 3,pS 3 2 7]) .ret))))
theorem ok169:FnOk E 169 8 [.cell 2 25] mc169:=ofk func169
set_option maxRecDepth 20000
theorem ti25:E.TI 25=some ⟨.struct [(0,3),(1,3),(2,9)],3,32,[.int .i64 0,.int .i64 0,.string ByteArray.empty],true,true,false⟩:=rfl
def VL.ofB (b:Bool):VL:=⟨3,if b then 1 else 0,⟨#[]⟩⟩
theorem c169 (b:Bool):ACalls E.P 169 [.bool b] [] (fun r H=>r=(VL.ofB b).av∧H=[]):=by
 refine ok169.acalls hE hm (by simp) fun N hN=>?_
 unfold mc169 z2 pS pM pF pR
 simp only [lA,seval,ti25]
 repeat' (first|(with_reducible first|(apply St.o;constructor)<;>intro _|refine And.intro (by omega) ?_|(apply Sq.o;constructor))|((with_reducible refine keep0_i ?_);simp only [lP,seval])|simp (disch:=omega) only [lE,seval,ti25])
 all_goals simp_all [VL.ofB,VL.av]
theorem c146 (b:Bool):ACalls E.P 146 [.bool b] [] (fun r H=>r=(VL.ofB b).av∧H=[]):=by
 refine ok146.acalls hE hm (by simp) fun N hN=>?_
 unfold mc146 z2 pM pS
 simp only [lA,seval,ti25]
 repeat' (first|(with_reducible first|(apply St.o;constructor)<;>intro _|refine And.intro (by omega) ?_|(apply Sq.o;constructor))|((with_reducible refine keep0_i ?_);simp only [lP,seval])|simp (disch:=omega) only [lE,seval,ti25])
 all_goals simp_all [VL.ofB,VL.av]
def cmpB (op:Int):Bool:=decide (6≤op∧op≤11)
def ariB (op:Int):Bool:=decide (3≤op∧op≤5)
theorem c150 (op:Int):ACalls E.P 150 [.int .i64 op] [] (fun r H=>r=.bool (cmpB op)∧H=[]):=by
 refine ok150.acalls hE hm (by simp) fun N hN=>?_
 unfold mc150 pZ pM pP gT oM
 simp only [lA,seval]
 repeat' (first|(with_reducible first|(apply St.o;constructor)<;>intro _|refine And.intro (by omega) ?_|(apply Sq.o;constructor))|((with_reducible refine keep0_i ?_);simp only [lP,seval])|simp (disch:=omega) only [lE,seval])
 all_goals (simp only [cmpB,AV.bool.injEq];simp;try omega)
theorem c160 (op:Int):ACalls E.P 160 [.int .i64 op] [] (fun r H=>r=.bool (ariB op)∧H=[]):=by
 refine ok160.acalls hE hm (by simp) fun N hN=>?_
 unfold mc160 pZ pM pP gT oM
 simp only [lA,seval]
 repeat' (first|(with_reducible first|(apply St.o;constructor)<;>intro _|refine And.intro (by omega) ?_|(apply Sq.o;constructor))|((with_reducible refine keep0_i ?_);simp only [lP,seval])|simp (disch:=omega) only [lE,seval])
 all_goals (simp only [ariB,AV.bool.injEq];simp;try omega)
set_option maxRecDepth 100000
def mc58:MC:=(.seq (.ops [pK 1 0,pZ 2]) (.seq (.seq (.ops [pF 3 0 1,pL 4 3]) (.block 0 (.seq (.ops [pE 6 4 0,pM 5 6]) (.cond 5 (.seq (.ops [pF 7 1 1,pL 8 7,pE 9 8 0,pM 10 9,gT 10 (oF 11 2 1),gT 10 (oL 12 11),(some (10,true),.v (.bin 13 .eql false (.t 12) (.c (.str ⟨#[]⟩)))),pP 14 10 13,pM 2 14]) .ret) (.seq (.ops [pE 16 4 1,pM 15 16]) (.cond 15 (.seq (.ops [pF 17 1 1,pL 18 17,(none,.v (.bin 19 .geq false (.t 18) (.c (.int .i64 (-549755813888))))),pM 20 19,gT 20 (oF 21 1 1),gT 20 (oL 22 21),(some (20,true),.v (.bin 23 .leq false (.t 22) (.c (.int .i64 549755813887)))),pP 24 20 23,pM 25 24,gT 25 (oF 26 2 1),gT 25 (oL 27 26),(some (25,true),.v (.bin 28 .eql false (.t 27) (.c (.str ⟨#[]⟩)))),pP 29 25 28,pM 2 29]) .ret) (.seq (.ops [pE 31 4 2,pM 30 31]) (.cond 30 (.seq (.ops [pF 32 1 1,pL 33 32,pE 34 33 0,pM 35 34,gT 35 (oF 36 2 1),gT 35 (oL 37 36),(some (35,true),.p (.slen 38 (.t 37))),(some (35,true),.v (.bin 39 .leq false (.t 38) (.c (.int .i64 40)))),pP 40 35 39,pM 2 40]) .ret) (.seq (.ops [pE 42 4 3,pM 41 42]) (.cond 41 (.seq (.ops [pF 43 1 1,pL 44 43,pE 45 44 0,pM 46 45,gF 46 (oF 47 1 1),gF 46 (oL 48 47),gF 46 (oE 49 48 1),pO 50 46 49,pM 51 50,gT 51 (oF 52 2 1),gT 51 (oL 53 52),(some (51,true),.v (.bin 54 .eql false (.t 53) (.c (.str ⟨#[]⟩)))),pP 55 51 54,pM 2 55]) .ret) .skip)))))))))) (.seq (.ops [pZ 2]) .ret)))
theorem ok58:FnOk E 58 56 [.tmp 2] mc58:=ofk func58
def mc152:MC:=(.seq (.ops [pK 1 0,pZ 2]) (.seq (.seq (.ops [pF 3 0 1,pL 4 3]) (.block 0 (.seq (.ops [pE 6 4 0,pM 5 6]) (.cond 5 (.seq (.ops [pR 7 3 1,(none,.v (.build 8 z2 [])),(none,.v (.eq 9 false (.agg [(0,false,1,.int),(1,false,1,.int),(2,false,1,.str)]) (.t 7) (.t 8))),pM 2 9]) .ret) (.seq (.ops [pE 11 4 1,pM 10 11]) (.cond 10 (.seq (.ops [pF 12 1 1,pL 13 12,(none,.v (.bin 14 .geq false (.t 13) (.c (.int .i64 (-549755813888))))),pM 15 14,gT 15 (oF 16 1 1),gT 15 (oL 17 16),(some (15,true),.v (.bin 18 .leq false (.t 17) (.c (.int .i64 549755813887)))),pP 19 15 18,pM 20 19,gT 20 (oF 21 2 1),gT 20 (oL 22 21),(some (20,true),.v (.bin 23 .eql false (.t 22) (.c (.str ⟨#[]⟩)))),pP 24 20 23,pM 2 24]) .ret) (.seq (.ops [pE 26 4 2,pM 25 26]) (.cond 25 (.seq (.ops [pF 27 1 1,pL 28 27,pE 29 28 0,pM 30 29,gT 30 (oF 31 2 1),gT 30 (oL 32 31),(some (30,true),.p (.slen 33 (.t 32))),(some (30,true),.v (.bin 34 .leq false (.t 33) (.c (.int .i64 40)))),pP 35 30 34,pM 2 35]) .ret) (.seq (.ops [pE 37 4 3,pM 36 37]) (.cond 36 (.seq (.ops [pF 38 1 1,pL 39 38,(none,.v (.bin 40 .andNot false (.t 39) (.c (.int .i64 1)))),pE 41 40 0,pM 42 41,gT 42 (oF 43 2 1),gT 42 (oL 44 43),(some (42,true),.v (.bin 45 .eql false (.t 44) (.c (.str ⟨#[]⟩)))),pP 46 42 45,pM 2 46]) .ret) .skip)))))))))) (.seq (.ops [pZ 2]) .ret)))
theorem ok152:FnOk E 152 47 [.tmp 2] mc152:=ofk func152
set_option maxRecDepth 20000
def VL.Right (v:VL):Prop:=(v.k=0∧v.n=0∧v.s=⟨#[]⟩)∨(v.k=1∧-549755813888≤v.n∧v.n≤549755813887∧v.s=⟨#[]⟩)∨(v.k=2∧v.n=0∧v.s.size≤40)∨(v.k=3∧(v.n=0∨v.n=1)∧v.s=⟨#[]⟩)
instance (v:VL):Decidable v.Right:=by unfold VL.Right;infer_instance
theorem land_even (m:Nat) (h:m<2 ^ 64):m &&& 18446744073709551614=2 * (m / 2):=by
 apply Nat.eq_of_testBit_eq
 intro i
 rw [Nat.testBit_and]
 cases i with
 | zero=>simp
 | succ i =>
   rw [Nat.testBit_succ,Nat.testBit_succ,Nat.testBit_succ,show (18446744073709551614:Nat) / 2=2 ^ 63 - 1 by decide,Nat.testBit_two_pow_sub_one,show 2 * (m / 2) / 2=m / 2 by omega]
   by_cases hi:i<63
   · simp [hi]
   · simp only [hi,decide_false,Bool.and_false]
     exact (Nat.testBit_lt_two_pow (Nat.lt_of_lt_of_le (show m / 2<2 ^ 63 by omega) (Nat.pow_le_pow_right (by omega) (by omega)))).symm
def inI (n:Int):Prop:=-9223372036854775808≤n∧n≤9223372036854775807
theorem andNot1 {n:Int} (h:inI n):(IntKind.i64.wrap ↑((n % 2 ^ IntKind.i64.bits).toNat &&& 2 ^ IntKind.i64.bits - 1 - 1 % 2 ^ IntKind.i64.bits)=0)↔(n=0∨n=1):=by
 obtain ⟨h1,h2⟩:=h
 rw [show IntKind.i64.bits=64 from rfl,show (2 ^ 64 - 1 - 1 % 2 ^ 64:Nat)=18446744073709551614 by decide,land_even _ (by omega),IntKind.wrap_i64]
 omega
theorem c58 (v:VL):ACalls E.P 58 [v.av] [] (fun r H=>r=.bool (decide v.Right)∧H=[]):=by
 obtain ⟨k,n,s⟩:=v
 refine ok58.acalls hE hm (by simp) fun N hN=>?_
 unfold mc58 pK pZ pF pL pE pM pP pO gT gF oL oF oE
 simp only [lA,seval,VL.av]
 repeat' (first|(with_reducible first|(apply St.o;constructor)<;>intro _|refine And.intro (by omega) ?_|(apply Sq.o;constructor))|((with_reducible refine keep0_i ?_);simp only [lP,seval])|simp (disch:=omega) only [lE,seval,strA])
 all_goals (simp only [AV.bool.injEq,VL.Right];try simp_all)
 all_goals first | omega | (intros;omega)
theorem c152 (v:VL) (hv:inI v.n):ACalls E.P 152 [v.av] [] (fun r H=>r=.bool (decide v.Right)∧H=[]):=by
 obtain ⟨k,n,s⟩:=v
 refine ok152.acalls hE hm (by simp) fun N hN=>?_
 unfold mc152 z2 pK pZ pF pL pE pM pR pP gT oL oF
 simp only [lA,seval,VL.av]
 repeat' (first|(with_reducible first|(apply St.o;constructor)<;>intro _|refine And.intro (by omega) ?_|(apply Sq.o;constructor))|((with_reducible refine keep0_i ?_);simp only [lP,seval])|simp (disch:=omega) only [lE,seval,strA])
 all_goals (simp only [AV.bool.injEq,VL.Right];try simp_all)
 all_goals first | omega | (intros;omega) | (simp only [andNot1 hv] at *;simp_all)
set_option maxRecDepth 100000
def mc175:MC:=(.seq (.ops [pK 1 0,pZ 2]) (.seq (.ops [pF 3 0 1,pL 4 3,pD 5 4 0,pM 6 5,gT 6 (oF 7 0 1),gT 6 (oL 8 7),gT 6 (oD 9 8 3),pP 10 6 9,pM 2 10]) .ret))
theorem ok175:FnOk E 175 11 [.tmp 2] mc175:=ofk func175
set_option maxRecDepth 20000
def VL.logical (v:VL):Bool:=decide (v.k=0∨v.k=3)
theorem c175 (v:VL):ACalls E.P 175 [v.av] [] (fun r H=>r=.bool (!v.logical)∧H=[]):=by
 obtain ⟨k,n,s⟩:=v
 refine ok175.acalls hE hm (by simp) fun N hN=>?_
 unfold mc175 pK pZ pF pL pD pM pP gT oL oF oD
 simp only [lA,seval,VL.av]
 repeat' (first|(with_reducible first|(apply St.o;constructor)<;>intro _|refine And.intro (by omega) ?_|(apply Sq.o;constructor))|((with_reducible refine keep0_i ?_);simp only [lP,seval])|simp (disch:=omega) only [lE,seval])
 all_goals (simp only [AV.bool.injEq,VL.logical];simp_all)
def VL.null:VL:=⟨0,0,⟨#[]⟩⟩
def VL.is (a:VL) (b:Bool):Bool:=decide (a.k=3∧a.n=(if b then 1 else 0)∧a.s=⟨#[]⟩)
def VL.dec (strong:Bool) (a b:VL):VL × Int :=
 if (!a.logical || !b.logical)=true then (VL.null,7) else if (a.is strong || b.is strong)=true then (VL.ofB strong,0) else if a.k=0∨b.k=0 then (VL.null,0) else (VL.ofB (!strong),0)
def VL.not19 (a:VL):VL × Int:=if a.logical=false then (VL.null,7) else if a.k=0 then (a,0) else (VL.ofB (decide (a.n=0)),0)
def tst (op c:Int):Bool:=if op=6 then decide (c=0) else if op=7 then !decide (c=0) else if op=8 then decide (c<0) else if op=9 then decide (c≤0) else if op=10 then decide (0<c) else decide (0≤c)
def VL.test (cmp:VL→VL→Int) (op:Int) (a b:VL):VL × Int:=if op<6∨11<op then (VL.null,1) else if a.k=0∨b.k=0 then (VL.null,0) else if a.k≠b.k then (VL.null,7) else (VL.ofB (tst op (cmp a b)),0)
end Go.Proofs.Try
