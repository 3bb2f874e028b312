/-
 A part of the proof.
-/
import Derived.Test.YtfhoeghdioofmaaGreatKgg
set_option linter.unusedSimpArgs false
set_option linter.unusedVariables false
namespace Go.Proofs.Try
open Go.Al
set_option maxRecDepth 100000
open Classical
def ReadsOk (h:List Acc) (ol:List Nat) (k:Nat):Prop:=∀ x ∈ (at' h (ol.getD k 0)).reads,lastAW h (ol.take k) x=srcV h x (at' h (ol.getD k 0)).snap
def FinOk (h:List Acc) (ol:List Nat):Prop:=∀ x,lastAW h ol x≠none->lastAW h ol x=srcV h x 1073741824
structure EqvO (h:List Acc) (order:List Int) (ol:List Nat):Prop where
 eq:order=natL ol
 nodup:ol.Nodup
 mem:∀ i,i ∈ ol↔(i<h.length/\(at' h i).done=true)
 reads:∀ k,k<ol.length->ReadsOk h ol k
 fin:FinOk h ol
def EqvS (h:List Acc) (order:List Int):Prop:=checkS h=0/\∃ ol,EqvO h order ol
structure PreO (h:List Acc) (order:List Int) (ol:List Nat):Prop where
 le:ol.length<=order.length
 eq:order.take ol.length=natL ol
 nodup:ol.Nodup
 ok:∀ i ∈ ol,i<h.length/\(at' h i).done=true
theorem PreO.nil {h:List Acc} {order:List Int}:PreO h order []:=⟨by simp,by simp [natL],by simp,by simp⟩
theorem natL_inj {a b:List Nat} (h:natL a=natL b):a=b:=by
 simp only [natL] at h
 exact (List.map_inj_right (fun x y e=>Int.ofNat.inj e)).1 h
theorem natL_take {l:List Nat} {n:Nat}:(natL l).take n=natL (l.take n):=by simp [natL]
theorem natL_append {a b:List Nat}:natL (a++b)=natL a++natL b:=by simp [natL]
theorem PreO.snoc {h:List Acc} {order:List Int} {ol:List Nat} {x:Nat} (hp:PreO h order ol) (hl:ol.length<order.length) (hx:order.getD ol.length 0=x) (h1:x<h.length) (h2:(at' h x).done=true) (h3:x ∉ ol):PreO h order (ol++[x]):=by
 refine ⟨by simp;omega,?_,?_,fun i hi=>?_⟩
 . rw [List.length_append,List.length_singleton,List.take_add_one,hp.eq,natL_append]
   rw [getD_get hl] at hx
   simp [List.getElem?_eq_getElem hl,hx,natL]
 . rw [List.nodup_append]
   exact ⟨hp.nodup,by simp,fun a ha b hb=>by simp at hb;subst hb;exact fun e=>h3 (e ▸ ha)⟩
 . rcases List.mem_append.1 hi with hi | hi
   . exact hp.ok i hi
   . simp at hi;subst hi;exact ⟨h1,h2⟩
theorem EqvO.next {h:List Acc} {order:List Int} {ol ol':List Nat} (he:EqvO h order ol') (hp:PreO h order ol) (hl:ol.length<order.length):∃ x:Nat,order.getD ol.length 0=x/\x<h.length/\(at' h x).done=true/\x ∉ ol:=by
 obtain ⟨rfl,hn,hm,_,_⟩:=he
 have hl':ol.length<ol'.length:=by simpa [natL] using hl
 have e:ol'.take ol.length=ol:=by
  apply natL_inj
  rw [<- natL_take,hp.eq]
 refine ⟨ol'[ol.length],by rw [natL_getD hl'];simp [hl'],((hm _).1 (List.getElem_mem _)).1,((hm _).1 (List.getElem_mem _)).2,fun hc=>?_⟩
 have hc:ol'[ol.length] ∈ ol'.take ol.length:=e.symm ▸ hc
 obtain ⟨j,hj,e2⟩:=List.getElem_of_mem hc
 rw [List.getElem_take] at e2
 have:=(List.getElem_inj hn).1 e2
 simp at hj
 omega
theorem EqvO.same {h:List Acc} {ol ol':List Nat} (he:EqvO h (natL ol) ol'):ol'=ol:=natL_inj he.eq.symm
theorem PreO.full {h:List Acc} {order:List Int} {ol:List Nat} (hp:PreO h order ol) (hl:order.length<=ol.length):order=natL ol:=by
 have:=hp.eq
 rwa [List.take_of_length_le hl] at this
theorem nextV_inj {a b:Option Nat}:nextV a=nextV b↔a=b:=by
 cases a <;> cases b <;> simp [nextV] <;> omega
theorem getI_upd {kl kl':List Int} {f:Int->Nat} {x:Int} {v:Nat} (hk:∀ k,k ∈ kl'↔(k ∈ kl\/k=x)) (y:Int):getI kl' (updI f x v) y=if y=x then some v else getI kl f y:=by
 simp only [getI,hk,updI]
 by_cases e:y=x <;> simp [e]
theorem take_snoc' {l:List Nat} {i:Nat} (hi:i<l.length):l.take (i+1)=l.take i++[l.getD i 0]:=by
 rw [List.take_add_one];simp [hi]
theorem take_snocI {l:List Int} {i:Nat} (hi:i<l.length):l.take (i+1)=l.take i++[l.getD i 0]:=by
 rw [List.take_add_one];simp [hi]
def SeenF (h:List Acc) (kl:List Int) (f:Int->Nat) (bs seen:List Nat):Prop:=∀ (i b:Nat) (k:Int),bs[i]?=some b->b ∈ seen->kl[i]?=some k->some (f k)=srcV h k 1073741824
theorem SeenF.snoc {h:List Acc} {kl:List Int} {f:Int->Nat} {bs seen:List Nat} {i b:Nat} {k:Int} (hs:SeenF h kl f bs seen) (hn:bs.Nodup) (hb:bs[i]?=some b) (hk:kl[i]?=some k) (hf:some (f k)=srcV h k 1073741824):SeenF h kl f bs (seen++[b]):=by
 intro i' b' k' h1 h2 h3
 rcases List.mem_append.1 h2 with h2 | h2
 . exact hs i' b' k' h1 h2 h3
 . simp at h2
   subst h2
   obtain ⟨l1,e1⟩:=List.getElem?_eq_some_iff.1 h1
   obtain ⟨l2,e2⟩:=List.getElem?_eq_some_iff.1 hb
   have:i'=i:=(List.getElem_inj hn).1 (e1.trans e2.symm)
   subst this
   rw [hk] at h3
   cases h3
   exact hf
theorem SeenF.all {h:List Acc} {kl:List Int} {f:Int->Nat} {bs seen:List Nat} (hs:SeenF h kl f bs seen) (hl:bs.length=kl.length) (ha:∀ b ∈ bs,b ∈ seen) (k:Int) (hk:k ∈ kl):some (f k)=srcV h k 1073741824:=by
 obtain ⟨i,hi,rfl⟩:=List.getElem_of_mem hk
 exact hs i bs[i] kl[i] (by simp [hl,hi]) (ha _ (List.getElem_mem _)) (by simp [hi])
theorem IdxR_ord {P:Program} {m:Nat} {N:FN} {l:List Int} {i d:Nat} {c:Kn} (hi:i<l.length):IdxR P m N (l.map (AV.int .i64)) (i:Int) d c=rK P m N c d (.vp [.int .i64 (l.getD i 0)]):=by
 rw [IdxR_ints (by omega) (by omega)];simp
open Go.Proofs.Tryz
abbrev q49_0:MI:=oZ 4
def mc49:MC:=(.seq (.ops [pK 2 0,(none,q49_0)]) (.seq (.seq (.ops [pL 20 2,pV 21 15 20,pD 22 21 0]) (.cond 22 (.seq (.ops [(none,q49_0)]) .ret) .skip)) (.seq (.ops [(none,.e (.mkmap 23)),pM 5 23]) (.seq (.seq (.ops [pM 24 1,pG 25 24,pI 26 0]) (.block 0 (.loop (.seq (.ops [pB 27 26 25]) (.seq (.cond 27 .skip (.exit 0)) (.seq (.block 1 (.seq (.ops [pQ 28 1 24 26,pL 29 28,pM 7 29]) (.seq (.seq (.ops [pM 30 7,(none,.v (.bin 31 .lss false (.t 30) (.c (.int .i64 0)))),pM 32 31,gF 32 (oM 33 7),gF 32 (oL 34 2),gF 32 (oG 35 34),(some (32,false),.v (.bin 36 .geq false (.t 33) (.t 35))),pO 37 32 36,pM 38 37,gF 38 (oL 39 2),gF 38 (oM 40 7),gF 38 (oQ 41 6 39 40),gF 38 (oF 42 2 41),gF 38 (oL 43 42),gF 38 (oN 44 43),pO 45 38 44,pM 46 45,gF 46 (oM 47 5),gF 46 (oM 48 7),(some (46,false),.p (.look 49 false (.int .i64) (.bool false) (.t 47) (.t 48))),pO 50 46 49]) (.cond 50 (.seq (.ops [(none,q49_0)]) .ret) .skip)) (.ops [pM 51 5,pM 52 7,(none,.e (.mput (.int .i64) (.t 51) (.t 52) (.c (.bool true))))])))) (.ops [pA 53 26 1,pM 26 53]))))))) (.seq (.seq (.ops [pL 54 2,pG 55 54,pI 56 0]) (.block 2 (.loop (.seq (.ops [pB 57 56 55]) (.seq (.cond 57 .skip (.exit 2)) (.seq (.block 3 (.seq (.ops [pM 58 56,pQ 59 6 54 56,pR 60 6 59,(none,.e (.alloc 9 z0)),pM 8 58,pS 6 9 60]) (.seq (.ops [pF 61 2 9,pL 62 61,pM 63 62,gT 63 (oM 64 5),gT 63 (oM 65 8),(some (63,true),.p (.look 66 false (.int .i64) (.bool false) (.t 64) (.t 65))),gT 63 (oN 67 66),pP 68 63 67]) (.cond 68 (.seq (.ops [(none,q49_0)]) .ret) .skip)))) (.ops [pA 69 56 1,pM 56 69]))))))) (.seq (.ops [(none,.v (.fn 70 (.func 96) [] [.t 2])),pM 10 70]) (.seq (.ops [(none,.e (.mkmap 71)),(none,.e (.alloc 11 [.raw (.map none)])),(none,.e (.store 1 false (.t 11) (.t 71)))]) (.seq (.ops [(none,.v (.fn 72 (.func 98) [] [.t 11])),pM 12 72]) (.seq (.seq (.ops [pM 73 1,pG 74 73,pI 75 0]) (.block 4 (.loop (.seq (.ops [pB 76 75 74]) (.seq (.cond 76 .skip (.exit 4)) (.seq (.block 5 (.seq (.ops [pQ 77 1 73 75,pL 78 77,pM 14 78]) (.seq (.seq (.ops [pL 79 2,pM 80 14,pQ 81 6 79 80,pF 82 4 81,pL 83 82,pG 84 83,pI 85 0]) (.block 6 (.loop (.seq (.ops [pB 86 85 84]) (.seq (.cond 86 .skip (.exit 6)) (.seq (.block 7 (.seq (.ops [pQ 87 1 83 85,pL 88 87,pM 16 88]) (.seq (.any false (.pure0 none (oM 89 12) (.pure0 none (oM 90 16) (.pure0 none (oM 92 10) (.pure0 none (oM 93 16) (.pure0 none (oL 94 2) (.pure0 none (oM 95 14) (.pure0 none (oQ 96 6 94 95) (.pure0 none (oF 97 1 96) (.pure0 none (oL 98 97) (.alt none (.e (.callv (some 91) (.t 89) [.t 90])) (.base (.alt none (.e (.callv (some 99) (.t 92) [.t 93,.t 98])) (.base (.pure0 none (.v (.bin 100 .neq false (.t 91) (.t 99))) .done)) .stop)) .stop))))))))))) (.cond 100 (.seq (.ops [(none,q49_0)]) .ret) .skip)))) (.ops [pA 101 85 1,pM 85 101]))))))) (.seq (.ops [pL 102 2,pM 103 14,pQ 104 6 102 103,pF 105 5 104,pL 106 105,pG 107 106,pI 108 0]) (.block 8 (.loop (.seq (.ops [pB 109 108 107]) (.seq (.cond 109 .skip (.exit 8)) (.seq (.block 9 (.seq (.ops [pQ 110 1 106 108,pL 111 110,pM 18 111]) (.ops [pL 112 11,pM 113 18,pM 114 14,(none,.e (.mput (.int .i64) (.t 112) (.t 113) (.t 114)))]))) (.ops [pA 115 108 1,pM 108 115])))))))))) (.ops [pA 116 75 1,pM 75 116]))))))) (.seq (.seq (.ops [pL 117 11,(none,.e (.rng 118 (.t 117)))]) (.block 10 (.loop (.seq (.ops [(none,.e (.nxt 119 (.t 118))),pX 120 0 119]) (.seq (.cond 120 .skip (.exit 10)) (.block 11 (.seq (.ops [(none,.p (.ent 121 (.t 118))),pX 122 0 121,pM 19 122]) (.seq (.ops [pM 123 12,pM 124 19,(none,.e (.callv (some 125) (.t 123) [.t 124])),pM 126 10,pM 127 19,(none,.e (.callv (some 128) (.t 126) [.t 127,.c (.int .i64 1073741824)])),(none,.v (.bin 129 .neq false (.t 125) (.t 128)))]) (.cond 129 (.seq (.ops [(none,q49_0)]) .ret) .skip))))))))) (.seq (.ops [(none,.v (.mov 4 (.c (.bool true))))]) .ret)))))))))))
theorem ok49:FnOk E 49 130 [.tmp 4] mc49:=ofk func49
open Classical
set_option maxHeartbeats 20000000
theorem c49 (h:List Acc) (order:List Int):ACalls E.P 49 [.view 6 (h.map accA),.view 1 (order.map (AV.int .i64))] [] (fun r H=>r=.bool (decide (EqvS h order))/\H=[]):=by
 have hmax:=maxLen_eq
 refine ok49.acalls hE hm (by simp) fun N hN=>?_
 unfold mc49 q49_0 z0 pK pL pV pD pM pG pI pB pQ pO pA pR pS pF pP pX gF gT oM oL oF oZ oN oG oQ
 have h18:=c15 h
 repeat' (first|(with_reducible first|(apply St.o;constructor)<;>intro _|refine ai ?_|(apply Sq.o;constructor))|((with_reducible apply Sc.o true;constructor);simp only [lP,seval,vw_accs];refine ⟨_,h18,?_⟩;rintro _ _ ⟨rfl,rfl⟩;simp only [lA,lP,seval,vw_accs])|simp (disch:=omega) only [lE,seval,vw_accs])
 . rename_i hc
   have:¬ EqvS h order:=fun he=>hc he.1
   repeat' (first|(with_reducible first|(apply St.o;constructor)<;>intro _|refine ai ?_|(apply Sq.o;constructor))|((with_reducible refine keep0_i ?_);simp only [lP,seval])|simp (disch:=omega) only [lE,seval])
   simp [this]
 rename_i hc
 have hc:checkS h=0:=by omega
 have hform:=check_formed hc
 have hc0:=hc
 clear h18
 refine loop_i (X:=List Nat × List Int × List Nat × Nat) (fun x=>PreO h order x.1/\∀ y,y ∈ x.2.1↔y ∈ natL x.1)
  (fun x=>⟨[(1,.view 1 (order.map (AV.int .i64))),(2,.op 0 0),(5,.mp 1),(24,.view 1 (order.map (AV.int .i64))),(25,.int .i64 order.length),(26,.int .i64 x.1.length)],[.box [.view 6 (h.map accA)],.map (x.2.1.map (AV.int .i64)) (x.2.1.map fun _=>AV.bool true) x.2.2.1 x.2.2.2]⟩) (fun x=>order.length - x.1.length) ([],[],[],0) ⟨PreO.nil,by simp [natL]⟩ (ent [0,1] false (by simp only [lP,seval,pa_accs,natL]<;>(try simp)<;>(try omega)) (by simp only [lP,seval,pa_accs,natL]<;>(try simp)<;>(try omega))) ?_
 rintro ⟨ol,ks,bs,c⟩ ⟨hp,hks⟩
 simp only at hp hks
 have hple:=hp.le
 by_cases hl:ol.length<order.length
 . have e1:∀ {m N d k},IdxR E.P m N (order.map (AV.int .i64)) (ol.length:Int) d k=rK E.P m N k d (.vp [.int .i64 (order.getD ol.length 0)]):=IdxR_ord hl
   have hnext:∀ he:EqvS h order,_:=fun he=>he.2.choose_spec.next hp hl
   have hsn:=fun x=>PreO.snoc (x:=x) hp hl
   generalize order.getD ol.length 0=y at *
   by_cases hy:0<=y/\y<h.length
   . obtain ⟨n,rfl⟩:=Int.eq_ofNat_of_zero_le hy.1
     have hn:n<h.length:=by omega
     have e2:∀ {m N d k},IdxR E.P m N (h.map accA) (n:Int) d k=rK E.P m N k d (.vp (accC (at' h n))):=IdxR_at hn
     obtain ⟨ks',bs',c',h8,h9⟩:=putK_set ks n bs c
     repeat' (first|(with_reducible first|(apply St.o;constructor)<;>intro _|refine ai ?_|(apply Sq.o;constructor))|((with_reducible refine keep0_i ?_);simp only [lP,seval])|simp (disch:=omega) only [lE,seval,e1,e2,accC,look_set,h8])
     all_goals try (exfalso;omega)
     all_goals try (exfalso;omega)
     all_goals clear e1 e2
     all_goals first
      | (rename_i hd hk
         refine back_i (ol++[n],ks',bs',c') ⟨hsn n rfl hn (by simpa using hd) (fun hc=>hk ((hks _).2 (mem_natL.2 hc))),fun z=>by simp only [h9,hks,natL_append,List.mem_append];simp [natL]⟩ (by simp only [List.length_append,List.length_singleton];omega) (ent [0,1] false (by simp only [lP,seval,pa_accs,pa_trues]<;>(try simp)<;>(try omega)) (by simp only [lP,seval,pa_accs,pa_trues]<;>(try simp)<;>(try omega))))
      | (have:¬ EqvS h order:=fun he=>by
          obtain ⟨x,x1,x2,x3,x4⟩:=hnext he
          have x1:=Int.ofNat.inj x1
          subst x1
          rename_i hk
          first
           | exact x4 (mem_natL.1 ((hks _).1 hk))
           | simp_all
         simp [this])
   . have:¬ EqvS h order:=fun he=>by
      obtain ⟨x,x1,x2,x3,x4⟩:=hnext he
      omega
     repeat' (first|(with_reducible first|(apply St.o;constructor)<;>intro _|refine ai ?_|(apply Sq.o;constructor))|((with_reducible refine keep0_i ?_);simp only [lP,seval])|simp (disch:=omega) only [lE,seval,e1,accC])
     all_goals try (exfalso;omega)
     all_goals try (exfalso;omega)
     all_goals simp [this]
 have hol:=hp.full (by omega)
 subst hol
 have hml:(natL ol).length<=maxLen:=by assumption
 rw [natL_length] at *
 repeat' (first|(with_reducible first|(apply St.o;constructor)<;>intro _|refine ai ?_|(apply Sq.o;constructor))|simp (disch:=omega) only [lE,seval])
 all_goals try (exfalso;omega)
 all_goals try (exfalso;omega)
 refine loop_i (fun i:Nat=>i<=h.length/\∀ j,j<i->(at' h j).done=true->j ∈ ol) (fun i=>⟨[(1,.view 1 ((natL ol).map (AV.int .i64))),(2,.op 0 0),(5,.mp 1),(54,.view 6 (h.map accA)),(55,.int .i64 h.length),(56,.int .i64 i)],[.box [.view 6 (h.map accA)],.map (ks.map (AV.int .i64)) (ks.map fun _=>AV.bool true) bs c]⟩) (fun i=>h.length - i) 0 ⟨by omega,by omega⟩ (ent [0,1] false (by simp only [lP,seval,pa_accs,pa_trues,pa_natL]<;>(try simp)<;>(try omega)) (by simp only [lP,seval,pa_accs,pa_trues,pa_natL]<;>(try simp)<;>(try omega))) ?_
 rintro i ⟨hi,hdn⟩
 by_cases hin:i<h.length
 . have e1:∀ {m N d k},IdxR E.P m N (h.map accA) (i:Int) d k=rK E.P m N k d (.vp (accC (at' h i))):=IdxR_at hin
   repeat' (first|(with_reducible first|(apply St.o;constructor)<;>intro _|refine ai ?_|(apply Sq.o;constructor))|((with_reducible refine keep0_i ?_);simp only [lP,seval])|simp (disch:=omega) only [lE,seval,e1,accC,look_set])
   all_goals try (exfalso;omega)
   all_goals try (exfalso;omega)
   all_goals clear e1
   . rename_i hd hk
     have:¬ EqvS h (natL ol):=fun he=>by
      obtain ⟨_,ol',he⟩:=he
      have e:=he.same
      subst e
      have hk:(i:Int) ∉ ks:=by simpa using hk
      exact hk ((hks _).2 (mem_natL.2 ((he.mem i).2 ⟨hin,hd⟩)))
     simp [this]
   . rename_i hd hk
     refine back_i (i+1) ⟨by omega,fun j hj hjd=>?_⟩ (by omega) (ent [0,1] false (by simp only [lP,seval,pa_accs,pa_trues,pa_natL]<;>(try simp)<;>(try omega)) (by simp only [lP,seval,pa_accs,pa_trues,pa_natL]<;>(try simp)<;>(try omega)))
     by_cases e:j=i
     . subst e
       exact mem_natL.1 ((hks _).1 (by simpa using hk))
     . exact hdn j (by omega) hjd
   . rename_i hd
     refine back_i (i+1) ⟨by omega,fun j hj hjd=>?_⟩ (by omega) (ent [0,1] false (by simp only [lP,seval,pa_accs,pa_trues,pa_natL]<;>(try simp)<;>(try omega)) (by simp only [lP,seval,pa_accs,pa_trues,pa_natL]<;>(try simp)<;>(try omega)))
     by_cases e:j=i
     . subst e
       rw [hjd] at hd
       cases hd
     . exact hdn j (by omega) hjd
 have e:i=h.length:=by omega
 subst e
 have hmem:∀ j,j ∈ ol↔(j<h.length/\(at' h j).done=true):=fun j=>⟨hp.ok j,fun ⟨h1,h2⟩=>hdn j h1 h2⟩
 have heqv:EqvS h (natL ol)↔((∀ k,k<ol.length->ReadsOk h ol k)/\FinOk h ol):=by
  constructor
  . rintro ⟨_,ol',he⟩
    have e:=he.same
    subst e
    exact ⟨he.reads,he.fin⟩
  . rintro ⟨h1,h2⟩
    exact ⟨hc0,ol,rfl,hp.nodup,hmem,h1,h2⟩
 clear hdn hks hi hin hl hple
 have hnd:=hp.nodup
 repeat' (first|(with_reducible first|(apply St.o;constructor)<;>intro _|refine ai ?_|(apply Sq.o;constructor))|simp (disch:=omega) only [lE,seval])
 all_goals try (exfalso;omega)
 all_goals try (exfalso;omega)
 refine loop_i (X:=Nat × List Int × (Int->Nat) × List Nat × Nat) (fun x=>x.1<=ol.length/\WfI x.2.1 x.2.2.2.1 x.2.2.2.2/\(∀ y,getI x.2.1 x.2.2.1 y=lastAW h (ol.take x.1) y)/\∀ k,k<x.1->ReadsOk h ol k)
  (fun x=>⟨[(2,.op 0 0),(10,.fn (.func 96) [] [.op 0 0]),(11,.op 2 0),(12,.fn (.func 98) [] [.op 2 0]),(73,.view 1 ((natL ol).map (AV.int .i64))),(74,.int .i64 ol.length),(75,.int .i64 x.1)],[.box [.view 6 (h.map accA)],mapI x.2.1 x.2.2.1 x.2.2.2.1 x.2.2.2.2,.box [.mp 1]]⟩)
  (fun x=>ol.length - x.1) (0,[],fun _=>0,[],0) ⟨by simp,by simp [WfI],by simp [getI,lastAW],by simp⟩ (ent [0,2,3] false (by simp only [lP,seval,pa_accs,pa_natL,mapI,natL]<;>(try simp)<;>(try omega)) (by simp only [lP,seval,pa_accs,pa_natL,mapI,natL]<;>(try simp)<;>(try omega))) ?_
 rintro ⟨i,kl,f,bs,c⟩ ⟨hi,hw,hg,hrd⟩
 simp only at hi hw hg hrd
 simp only [mapI]
 by_cases hin:i<ol.length
 . have hb:ol.getD i 0<h.length:=by
    rw [getD_get hin]
    exact ((hmem _).1 (List.getElem_mem hin)).1
   have hts:=take_snoc' hin
   have hRO:ReadsOk h ol i↔∀ x ∈ (at' h (ol.getD i 0)).reads,lastAW h (ol.take i) x=srcV h x (at' h (ol.getD i 0)).snap:=Iff.rfl
   have e1:∀ {m N d k},IdxR E.P m N ((natL ol).map (AV.int .i64)) (i:Int) d k=rK E.P m N k d (.vp [.int .i64 ((ol.getD i 0:Nat):Int)]):=by
    intros;exact IdxR_nats hin
   generalize ol.getD i 0=b at *
   have e2:∀ {m N d k},IdxR E.P m N (h.map accA) (b:Int) d k=rK E.P m N k d (.vp (accC (at' h b))):=IdxR_at hb
   repeat' (first|(with_reducible first|(apply St.o;constructor)<;>intro _|refine ai ?_|(apply Sq.o;constructor))|simp (disch:=omega) only [lE,seval,e1,e2,accC])
   all_goals try (exfalso;omega)
   all_goals try (exfalso;omega)
   refine loop_i (fun j:Nat=>j<=(at' h b).reads.length/\∀ x ∈ (at' h b).reads.take j,lastAW h (ol.take i) x=srcV h x (at' h b).snap)
    (fun j=>⟨[(2,.op 0 0),(10,.fn (.func 96) [] [.op 0 0]),(11,.op 2 0),(12,.fn (.func 98) [] [.op 2 0]),(14,.int .i64 b),(73,.view 1 ((natL ol).map (AV.int .i64))),(74,.int .i64 ol.length),(75,.int .i64 i),(83,.view 1 ((at' h b).reads.map (AV.int .i64))),(84,.int .i64 (at' h b).reads.length),(85,.int .i64 j)],[.box [.view 6 (h.map accA)],.map (kl.map (AV.int .i64)) ((natL (kl.map f)).map (AV.int .i64)) bs c,.box [.mp 1]]⟩)
    (fun j=>(at' h b).reads.length - j) 0 ⟨by simp,by simp⟩ (ent [0,1,2] false (by simp only [lP,seval,pa_accs,pa_natL]<;>(try simp)<;>(try omega)) (by simp only [lP,seval,pa_accs,pa_natL]<;>(try simp)<;>(try omega))) ?_
   rintro j ⟨hj,hrj⟩
   by_cases hjn:j<(at' h b).reads.length
   . have hrs:=take_snocI hjn
     have hmx:(at' h b).reads.getD j 0 ∈ (at' h b).reads:=by rw [getD_get hjn];exact List.getElem_mem hjn
     have e3:∀ {m N d k},IdxR E.P m N ((at' h b).reads.map (AV.int .i64)) (j:Int) d k=rK E.P m N k d (.vp [.int .i64 ((at' h b).reads.getD j 0)]):=IdxR_ord hjn
     generalize (at' h b).reads.getD j 0=x at *
     have k1:=c98 kl f x
     have k2:=c96 h hform x (at' h b).snap
     repeat' (first|(with_reducible apply St.o;constructor) <;> intro _|(with_reducible first|refine ai ?_|(apply Sp.o;constructor)|refine mkl_own ?_|refine ap_own ?_|refine base0_i ?_|refine any00_i ?_|refine frz0_i ?_|refine any_i [] ?_)|((with_reducible apply Sc.o true;constructor);simp only [lP,seval,e2,e3,accC,vw_accs];(first|refine ⟨_,k1,?_⟩|refine ⟨_,k2,?_⟩);rintro _ _ ⟨rfl,rfl⟩;simp only [lA,lP,seval,e2,e3,accC,vw_accs])|((with_reducible refine keep0_i ?_);simp only [lP,seval])|simp (disch:=omega) only [lE,seval,e2,e3,accC,vw_accs])
     all_goals try (exfalso;omega)
     all_goals try (exfalso;omega)
     all_goals clear e1 e2 e3 k1 k2
     . rename_i hne
       have:¬ EqvS h (natL ol):=fun he=>hne (nextV_inj.2 ((hg x).trans ((hRO.1 ((heqv.1 he).1 i hin)) x hmx)))
       simp [this]
     . rename_i he
       refine back_i (j+1) ⟨by omega,fun y hy=>?_⟩ (by omega) (ent [0,1,2] false (by simp only [lP,seval,pa_accs,pa_natL]<;>(try simp)<;>(try omega)) (by simp only [lP,seval,pa_accs,pa_natL]<;>(try simp)<;>(try omega)))
       rw [hrs] at hy
       rcases List.mem_append.1 hy with hy | hy
       . exact hrj y hy
       . simp at hy
         subst hy
         rw [<- hg]
         exact nextV_inj.1 he
   have e:j=(at' h b).reads.length:=by omega
   subst e
   have hrok:ReadsOk h ol i:=by rw [hRO];simpa using hrj
   repeat' (first|(with_reducible first|(apply St.o;constructor)<;>intro _|refine ai ?_|(apply Sq.o;constructor))|simp (disch:=omega) only [lE,seval,e2,accC])
   all_goals try (exfalso;omega)
   all_goals try (exfalso;omega)
   refine loop_i (X:=Nat × List Int × (Int->Nat) × List Nat × Nat) (fun x=>x.1<=(at' h b).writes.length/\WfI x.2.1 x.2.2.2.1 x.2.2.2.2/\∀ y,getI x.2.1 x.2.2.1 y=if y ∈ (at' h b).writes.take x.1 then some b else lastAW h (ol.take i) y)
    (fun x=>⟨[(2,.op 0 0),(10,.fn (.func 96) [] [.op 0 0]),(11,.op 2 0),(12,.fn (.func 98) [] [.op 2 0]),(14,.int .i64 b),(73,.view 1 ((natL ol).map (AV.int .i64))),(74,.int .i64 ol.length),(75,.int .i64 i),(106,.view 1 ((at' h b).writes.map (AV.int .i64))),(107,.int .i64 (at' h b).writes.length),(108,.int .i64 x.1)],[.box [.view 6 (h.map accA)],mapI x.2.1 x.2.2.1 x.2.2.2.1 x.2.2.2.2,.box [.mp 1]]⟩)
    (fun x=>(at' h b).writes.length - x.1) (0,kl,f,bs,c) ⟨by simp,hw,by simpa using hg⟩ (ent [0,1,2] false (by simp only [lP,seval,pa_accs,pa_natL,mapI]<;>(try simp)<;>(try omega)) (by simp only [lP,seval,pa_accs,pa_natL,mapI]<;>(try simp)<;>(try omega))) ?_
   rintro ⟨j,kl,f,bs,c⟩ ⟨hj,hw,hgj⟩
   simp only at hj hw hgj
   simp only [mapI]
   by_cases hjn:j<(at' h b).writes.length
   . have hrs:=take_snocI hjn
     have e3:∀ {m N d k},IdxR E.P m N ((at' h b).writes.map (AV.int .i64)) (j:Int) d k=rK E.P m N k d (.vp [.int .i64 ((at' h b).writes.getD j 0)]):=IdxR_ord hjn
     generalize (at' h b).writes.getD j 0=x at *
     obtain ⟨kl',bs',c',hpt,hw',hkl'⟩:=puti (f:=f) (v:=b) (x:=x) hw
     repeat' (first|(with_reducible first|(apply St.o;constructor)<;>intro _|refine ai ?_|(apply Sq.o;constructor))|simp (disch:=omega) only [lE,seval,e3,hpt,mapI_eq])
     all_goals try (exfalso;omega)
     all_goals try (exfalso;omega)
     refine back_i (j+1,kl',updI f x b,bs',c') ⟨by simp only;omega,hw',fun y=>?_⟩ (by simp only;omega) (ent [0,1,2] false (by simp only [lP,seval,pa_accs,pa_natL,mapI]<;>(try simp)<;>(try omega)) (by simp only [lP,seval,pa_accs,pa_natL,mapI]<;>(try simp)<;>(try omega)))
     simp only [getI_upd hkl',hgj,hrs,List.mem_append,List.mem_singleton]
     by_cases e:y=x <;> simp [e]
   have e:j=(at' h b).writes.length:=by omega
   subst e
   rw [List.take_length] at hgj
   repeat' (first|(with_reducible first|(apply St.o;constructor)<;>intro _|refine ai ?_|(apply Sq.o;constructor))|simp (disch:=omega) only [lE,seval])
   all_goals try (exfalso;omega)
   all_goals try (exfalso;omega)
   refine back_i (i+1,kl,f,bs,c) ⟨by simp only;omega,hw,fun y=>?_,fun k hk=>?_⟩ (by simp only;omega) (ent [0,1,2] false (by simp only [lP,seval,pa_accs,pa_natL,mapI]<;>(try simp)<;>(try omega)) (by simp only [lP,seval,pa_accs,pa_natL,mapI]<;>(try simp)<;>(try omega)))
   . simp only [hgj,hts,lastAW_snoc]
   . by_cases e:k=i
     . subst e;exact hrok
     . exact hrd k (by simp only at hk;omega)
 have e:i=ol.length:=by omega
 subst e
 rw [List.take_length] at hg
 have hfin:FinOk h ol↔∀ k ∈ kl,some (f k)=srcV h k 1073741824:=by
  constructor
  . intro hf k hk
    have:=hf k
    rw [<- hg k,getI,if_pos hk] at this
    exact this (by simp)
  . intro hf k hk
    rw [<- hg k] at hk ⊢
    by_cases hkk:k ∈ kl
    . rw [getI,if_pos hkk];exact hf k hkk
    . rw [getI,if_neg hkk] at hk;exact absurd rfl hk
 repeat' (first|(with_reducible first|(apply St.o;constructor)<;>intro _|refine ai ?_|(apply Sq.o;constructor))|simp (disch:=omega) only [lE,seval])
 all_goals try (exfalso;omega)
 all_goals try (exfalso;omega)
 refine loop_i (X:=List Nat) (fun seen=>SeenOk bs seen/\SeenF h kl f bs seen)
  (fun seen=>⟨[(10,.fn (.func 96) [] [.op 0 0]),(12,.fn (.func 98) [] [.op 2 0]),(118,.itr 3)],[.box [.view 6 (h.map accA)],.map (kl.map (AV.int .i64)) ((natL (kl.map f)).map (AV.int .i64)) bs c,.box [.mp 1],.mit (some 1) c seen c]⟩)
  (fun seen=>bs.length - seen.length) [] ⟨.nil,fun i b k h1 h2=>by simp at h2⟩ (ent [0,1,2,3] false (by simp only [lP,seval,pa_accs,pa_natL,po_mit,pa_itr]<;>(try simp)<;>(try omega)) (by simp only [lP,seval,pa_accs,pa_natL,po_mit,pa_itr]<;>(try simp)<;>(try omega))) ?_
 rintro seen ⟨hso,hsf⟩
 repeat' (first|(with_reducible first|(apply St.o;constructor)<;>intro _|refine ai ?_|(apply Sq.o;constructor))|simp (disch:=omega) only [lE,seval])
 refine nxt_i hw.2.2.1 (Nat.le_refl _) (fun hall=>?_) (fun i b kx vx hb hns hk hv=>?_)
 . simp only [lA,seval]
   have:EqvS h (natL ol):=heqv.2 ⟨hrd,hfin.2 fun k hk=>hsf.all hw.2.1 hall k hk⟩
   repeat' (first|(with_reducible first|(apply St.o;constructor)<;>intro _|refine ai ?_|(apply Sq.o;constructor))|((with_reducible refine keep0_i ?_);simp only [lP,seval])|simp (disch:=omega) only [lE,seval])
   all_goals try (exfalso;omega)
   all_goals simp [this]
 . simp only [lA,seval]
   have hk':=hk
   rw [List.getElem?_map] at hk'
   obtain ⟨k,hk1,rfl⟩:=Option.map_eq_some_iff.1 hk'
   refine ent_i i b rfl hb hk hv ?_
   simp only [lA,seval]
   have hkm:k ∈ kl:=List.mem_of_getElem? hk1
   have hsn:=hso.snoc hb hns
   have k1:=c98 kl f k
   have k2:=c96 h hform k 1073741824
   have hgi:getI kl f k=some (f k):=by rw [getI,if_pos hkm]
   repeat' (first|(with_reducible first|(apply St.o;constructor)<;>intro _|refine ai ?_|(apply Sq.o;constructor))|((with_reducible apply Sc.o true;constructor);simp only [lP,seval,vw_accs];(first|refine ⟨_,k1,?_⟩|refine ⟨_,k2,?_⟩);rintro _ _ ⟨rfl,rfl⟩;simp only [lA,lP,seval,vw_accs])|((with_reducible refine keep0_i ?_);simp only [lP,seval])|simp (disch:=omega) only [lE,seval,vw_accs])
   all_goals try (exfalso;omega)
   all_goals try (exfalso;omega)
   all_goals clear k1 k2
   . rename_i hne
     have:¬ EqvS h (natL ol):=fun he=>hne (nextV_inj.2 (hgi.trans (hfin.1 (heqv.1 he).2 k hkm)))
     simp [this]
   . rename_i he
     exact back_i (seen++[b]) ⟨hsn.1,hsf.snoc hw.2.2.2 hb hk1 (hgi.symm.trans (nextV_inj.1 he))⟩ (by simp only [List.length_append,List.length_singleton];have:=hsn.2;omega) (ent [0,1,2,3] false (by simp only [lP,seval,pa_accs,pa_natL,po_mit,pa_itr]<;>(try simp)<;>(try omega)) (by simp only [lP,seval,pa_accs,pa_natL,po_mit,pa_itr]<;>(try simp)<;>(try omega)))
end Go.Proofs.Try
