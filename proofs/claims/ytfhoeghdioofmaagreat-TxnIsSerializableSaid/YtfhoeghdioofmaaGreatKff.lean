/-
 A part of the proof.
-/
import Derived.Test.YtfhoeghdioofmaaGreatKee
set_option linter.unusedSimpArgs false
set_option linter.unusedVariables false
namespace Go.Proofs.Try
open Go.Proofs.Tryz
open Go.Al
set_option maxRecDepth 100000
def mc95:MC:=(.seq (.ops [pY 2,pZ 3]) (.seq (.ops [(none,.e (.mkmap 13)),pM 4 13]) (.seq (.seq (.ops [pM 14 0,(none,.v (.nil 15 (.t 14))),pF 16 0 15,pL 17 16,pG 18 17,pI 19 0]) (.block 0 (.loop (.seq (.ops [pB 20 19 18]) (.seq (.cond 20 .skip (.exit 0)) (.seq (.block 1 (.seq (.ops [pM 21 19,pQ 22 6 17 19,pR 23 6 22,(none,.e (.alloc 6 z0)),pM 5 21,pS 6 6 23]) (.seq (.seq (.ops [pF 24 2 6,pL 25 24,pN 26 25]) (.cond 26 (.exit 1) .skip)) (.seq (.ops [pM 27 4,pM 28 5,(none,.e (.mput (.int .i64) (.t 27) (.t 28) (.c (.int .i64 0))))]) (.seq (.ops [pM 29 0,(none,.v (.nil 30 (.t 29))),pF 31 0 30,pL 32 31,pG 33 32,pI 34 0]) (.block 2 (.loop (.seq (.ops [pB 35 34 33]) (.seq (.cond 35 .skip (.exit 2)) (.seq (.block 3 (.seq (.ops [pM 36 34,pM 7 36]) (.seq (.ops [pM 37 0,(none,.v (.nil 38 (.t 37))),pF 39 1 38,pL 40 39,pM 41 7,pQ 42 1 40 41,pL 43 42,pM 44 5,pQ 45 1 43 44,pL 46 45,pD 47 46 0]) (.cond 47 (.ops [pM 48 4,pM 49 5,(none,.p (.look 50 false (.int .i64) (.int .i64 0) (.t 48) (.t 49))),pA 51 50 1,(none,.e (.mput (.int .i64) (.t 48) (.t 49) (.t 51)))]) .skip)))) (.ops [pA 52 34 1,pM 34 52]))))))))))) (.ops [pA 53 19 1,pM 19 53]))))))) (.seq (.ops [pY 8]) (.seq (.block 4 (.loop (.seq (.seq (.ops [pM 54 4,(none,.p (.mlen 55 (.t 54))),(none,.v (.bin 56 .gtr false (.t 55) (.c (.int .i64 0))))]) (.cond 56 .skip (.exit 4))) (.block 5 (.seq (.ops [(none,.v (.mov 9 (.c (.int .i64 (-1)))))]) (.seq (.seq (.ops [pM 57 4,(none,.e (.rng 58 (.t 57)))]) (.block 6 (.loop (.seq (.ops [(none,.e (.nxt 59 (.t 58))),pX 60 0 59]) (.seq (.cond 60 .skip (.exit 6)) (.block 7 (.seq (.ops [(none,.p (.ent 61 (.t 58))),pX 62 0 61,pX 63 1 61,pM 10 62,pM 11 63]) (.seq (.ops [pM 64 11,pE 65 64 0,pM 66 65,gT 66 (oM 67 9),(some (66,true),.v (.bin 68 .lss false (.t 67) (.c (.int .i64 0)))),gT 66 (oM 69 68),gF 69 (oM 70 10),gF 69 (oM 71 9),gF 69 (oB 72 70 71),gT 66 (oO 73 69 72),pP 74 66 73]) (.cond 74 (.ops [pM 75 10,pM 9 75]) .skip))))))))) (.seq (.seq (.ops [pM 76 9,(none,.v (.bin 77 .lss false (.t 76) (.c (.int .i64 0))))]) (.cond 77 (.seq (.ops [pY 2,pZ 3]) .ret) .skip)) (.seq (.ops [pM 78 4,pM 79 9,(none,.e (.mdel none (.int .i64) (.t 78) (.t 79)))]) (.seq (.seq (.ops [pM 80 4,(none,.e (.rng 81 (.t 80)))]) (.block 8 (.loop (.seq (.ops [(none,.e (.nxt 82 (.t 81))),pX 83 0 82]) (.seq (.cond 83 .skip (.exit 8)) (.block 9 (.seq (.ops [(none,.p (.ent 84 (.t 81))),pX 85 0 84,pM 12 85]) (.seq (.ops [pM 86 0,(none,.v (.nil 87 (.t 86))),pF 88 1 87,pL 89 88,pM 90 9,pQ 91 1 89 90,pL 92 91,pM 93 12,pQ 94 1 92 93,pL 95 94,pD 96 95 0]) (.cond 96 (.ops [pM 97 4,pM 98 12,(none,.p (.look 99 false (.int .i64) (.int .i64 0) (.t 97) (.t 98))),(none,.v (.bin 100 .sub false (.t 99) (.c (.int .i64 1)))),(none,.e (.mput (.int .i64) (.t 97) (.t 98) (.t 100)))]) .skip))))))))) (.ops [pM 101 8,pM 102 9,(none,.e (.mkl 103 3 1 1 (.int .i64 0) [(0,.t 102)])),(none,.e (.app 104 3 1 8 (.t 101) (.t 103))),pM 8 104])))))))))) (.seq (.ops [pM 105 8,pM 2 105,(none,.v (.mov 3 (.c (.bool true))))]) .ret))))))
theorem ok95:FnOk E 95 106 [.tmp 2,.tmp 3] mc95:=ofk func95
open Classical
def mapO (kl:List Nat) (f:Nat->Nat) (bs:List Nat) (c:Nat):AObj:=.map ((natL kl).map (AV.int .i64)) ((natL (kl.map f)).map (AV.int .i64)) bs c
theorem mapO_eq (kl:List Nat) (f:Nat->Nat) (bs:List Nat) (c:Nat):mapO kl f bs c=.map ((natL kl).map (AV.int .i64)) ((natL (kl.map f)).map (AV.int .i64)) bs c:=rfl
def WfO (kl bs:List Nat) (c:Nat):Prop:=kl.Nodup/\bs.length=kl.length/\(∀ b ∈ bs,b<c)/\bs.Nodup
def upd (f:Nat->Nat) (x v:Nat):Nat->Nat:=fun k=>if k=x then v else f k
theorem mem_natL {l:List Nat} {x:Nat}:(x:Int) ∈ natL l↔x ∈ l:=by
 simp only [natL,List.mem_map]
 exact ⟨fun ⟨a,h1,h2⟩=>by rwa [Int.ofNat.inj h2] at h1,fun h=>⟨x,h,rfl⟩⟩
theorem natL_getD {l:List Nat} {j:Nat} (h:j<l.length):(natL l).getD j 0=(l.getD j 0:Nat):=by
 simp [natL,h]
theorem natL_length {l:List Nat}:(natL l).length=l.length:=by simp [natL]
theorem find_wO {kl:List Nat} {x:Nat} (hx:x ∈ kl):∃ j,j<kl.length/\kl.getD j 0=x/\findK (.int .i64) (.int .i64 (x:Int)) ((natL kl).map (AV.int .i64)) 0=some (some j):=by
 obtain ⟨j,h1,h2,h3⟩:=(findK_ints (x:Int) (natL kl) 0).2 (mem_natL.2 hx)
 rw [natL_length] at h1
 rw [natL_getD h1] at h2
 exact ⟨j,h1,by omega,by simpa using h3⟩
theorem find_wn {kl:List Nat} {x:Nat} (hx:x ∉ kl):findK (.int .i64) (.int .i64 (x:Int)) ((natL kl).map (AV.int .i64)) 0=some none :=
 (findK_ints (x:Int) (natL kl) 0).1 fun h=>hx (mem_natL.1 h)
theorem look_wO {kl:List Nat} {f:Nat->Nat} {x:Nat} (hx:x ∈ kl):Al.look (.int .i64) (.int .i64 0) ((natL kl).map (AV.int .i64)) ((natL (kl.map f)).map (AV.int .i64)) (.int .i64 (x:Int))=some (.int .i64 (f x:Nat),true):=by
 obtain ⟨j,h1,h2,h3⟩:=find_wO hx
 have:((natL (kl.map f)).map (AV.int .i64))[j]?=some (.int .i64 (f x:Nat)):=by
  rw [getD_get h1] at h2
  simp [natL,h1,h2]
 simp [Al.look,keyIs,keysOk,h3,this]
theorem put_oldO {kl:List Nat} {f:Nat->Nat} {bs:List Nat} {c x v:Nat} (hn:kl.Nodup) (hx:x ∈ kl):putK (.int .i64) ((natL kl).map (AV.int .i64)) ((natL (kl.map f)).map (AV.int .i64)) bs c (.int .i64 (x:Int)) (.int .i64 (v:Int))=some (mapO kl (upd f x v) bs c):=by
 obtain ⟨j,h1,h2,h3⟩:=find_wO hx
 simp only [putK,keyIs,keysOk,Bool.and_self,beq_self_eq_true,if_true,h3,mapO,Option.some.injEq,AObj.map.injEq,true_and,and_true]
 apply List.ext_getElem
 . simp [natL]
 . intro k k1 k2
   rw [List.getElem_set]
   have hk:k<kl.length:=by simpa [natL] using k2
   rw [getD_get h1] at h2
   split
   . rename_i e;subst e
     simp [natL,upd,h2]
   . rename_i e
     have:kl[k]≠x:=by
      intro e2
      rw [<- h2] at e2
      exact e ((List.getElem_inj hn).1 e2).symm
     simp [natL,upd,this]
theorem put_newO {kl:List Nat} {f:Nat->Nat} {bs:List Nat} {c x v:Nat} (hx:x ∉ kl):putK (.int .i64) ((natL kl).map (AV.int .i64)) ((natL (kl.map f)).map (AV.int .i64)) bs c (.int .i64 (x:Int)) (.int .i64 (v:Int))=some (mapO (kl++[x]) (upd f x v) (bs++[c]) (c+1)):=by
 simp only [putK,keyIs,keysOk,Bool.and_self,beq_self_eq_true,if_true,find_wn hx,mapO,Option.some.injEq,AObj.map.injEq,and_true]
 refine ⟨by simp [natL],?_⟩
 have:kl.map (upd f x v)=kl.map f:=List.map_congr_left fun k hk=>by
  have:k≠x:=fun e=>hx (e ▸ hk)
  simp [upd,this]
 simp [natL,upd,this]
theorem WfO.snoc {kl bs:List Nat} {c x:Nat} (h:WfO kl bs c) (hx:x ∉ kl):WfO (kl++[x]) (bs++[c]) (c+1):=by
 obtain ⟨h1,h2,h3,h4⟩:=h
 refine ⟨?_,by simp [h2],?_,?_⟩
 . rw [List.nodup_append]
   exact ⟨h1,by simp,fun a ha b hb=>by simp at hb;subst hb;exact fun e=>hx (e ▸ ha)⟩
 . intro b hb
   rcases List.mem_append.1 hb with hb | hb
   . have:=h3 b hb;omega
   . simp at hb;omega
 . rw [List.nodup_append]
   exact ⟨h4,by simp,fun a ha b hb=>by simp at hb;subst hb;have:=h3 a ha;omega⟩
theorem map_eraseO {α β:Type} (f:α->β):∀ (l:List α) (j:Nat),(l.map f).eraseIdx j=(l.eraseIdx j).map f
 | [],j=>by simp
 | x::l,0=>by simp
 | x::l,j+1=>by simp [map_eraseO f l j]
theorem del_wO {kl:List Nat} {f:Nat->Nat} {bs:List Nat} {c x:Nat} (hw:WfO kl bs c) (hx:x ∈ kl):∃ kl' bs',delK (.int .i64) ((natL kl).map (AV.int .i64)) ((natL (kl.map f)).map (AV.int .i64)) bs c (.int .i64 (x:Int))=some (mapO kl' f bs' c)/\WfO kl' bs' c/\(∀ k,k ∈ kl'↔(k ∈ kl/\k≠x))/\kl'.length+1=kl.length:=by
 obtain ⟨j,h1,h2,h3⟩:=find_wO hx
 obtain ⟨w1,w2,w3,w4⟩:=hw
 rw [getD_get h1] at h2
 refine ⟨kl.eraseIdx j,bs.eraseIdx j,?_,⟨w1.sublist (List.eraseIdx_sublist _ _),?_,fun b hb=>w3 b (List.mem_of_mem_eraseIdx hb),w4.sublist (List.eraseIdx_sublist _ _)⟩,fun k=>?_,?_⟩
 . simp only [delK,keyIs,keysOk,Bool.and_self,beq_self_eq_true,if_true,h3,mapO]
   simp only [natL,map_eraseO]
 . rw [List.length_eraseIdx_of_lt (by omega),List.length_eraseIdx_of_lt h1,w2]
 . rw [List.mem_eraseIdx_iff_getElem]
   constructor
   . rintro ⟨i,hi,hij,rfl⟩
     refine ⟨List.getElem_mem hi,fun e=>hij ?_⟩
     rw [<- h2] at e
     exact (List.getElem_inj w1).1 e
   . rintro ⟨hk,hne⟩
     obtain ⟨i,hi,rfl⟩:=List.getElem_of_mem hk
     exact ⟨i,hi,fun e=>hne (by subst e;exact h2),rfl⟩
 . rw [List.length_eraseIdx_of_lt h1];omega
noncomputable def cnt (h:List Acc) (out:List Nat) (k m:Nat):Nat:=((List.range m).filter fun i=>decide (Edge h i k/\i ∉ out)).length
theorem cnt_le {h:List Acc} {out:List Nat} {k m:Nat}:cnt h out k m<=m:=Nat.le_trans (List.length_filter_le _ _) (by simp)
theorem cnt_zero {h:List Acc} {out:List Nat} {k m:Nat}:cnt h out k m=0↔∀ i,i<m->Edge h i k->i ∈ out:=by
 simp only [cnt,List.length_eq_zero_iff,List.filter_eq_nil_iff,List.mem_range,decide_eq_true_eq,not_and,Decidable.not_not]
theorem cnt_succ {h:List Acc} {out:List Nat} {k m:Nat}:cnt h out k (m+1)=cnt h out k m+if Edge h m k/\m ∉ out then 1 else 0:=by
 unfold cnt
 rw [List.range_succ,List.filter_append,List.length_append]
 congr 1
 by_cases e:Edge h m k/\m ∉ out <;> simp [List.filter_cons,e]
theorem cnt_snoc {h:List Acc} {out:List Nat} {k x:Nat} (hx:x ∉ out):∀ m,cnt h (out++[x]) k m+(if x<m/\Edge h x k then 1 else 0)=cnt h out k m
 | 0=>by simp [cnt]
 | m+1=>by
   have ih:=cnt_snoc (h:=h) (k:=k) hx m
   rw [cnt_succ,cnt_succ]
   by_cases e:m=x
   . subst e
     simp only [List.mem_append,List.mem_singleton,or_true,not_true_eq_false,and_false,if_false,Nat.lt_irrefl,false_and] at ih ⊢
     simp only [Nat.lt_succ_self,true_and,hx,not_false_eq_true,and_true]
     omega
   . have e1:(x<m+1)=(x<m):=by apply propext;omega
     have e2:m ∉ out++[x]↔m ∉ out:=by simp [e]
     simp only [e1,e2]
     omega
theorem ebit_ne (h:List Acc) (i j:Nat):(ebit h i j=0)=¬ Edge h i j:=by
 rw [edge_iff]
 apply propext
 rcases ebit_cases h i j with ⟨h1,h2,h3⟩ | ⟨h1,h2,h3⟩ | ⟨h1,h2,h3⟩ | ⟨h1,h2,h3⟩ <;> rw [h3] <;> simp [h1,h2]
theorem pa_natL {H:List AObj} {l:List Nat} {bor:Bool} {n:Nat} {xs:List Nat}:((natL xs).map (AV.int .i64)).map (pa H l bor n)=(natL xs).map (AV.int .i64):=pa_ints
def SeenK (kl bs seen:List Nat) (k:Nat):Prop:=∃ (i b:Nat),bs[i]?=some b/\b ∈ seen/\kl[i]?=some k
def SeenOk (bs seen:List Nat):Prop:=(∀ b ∈ seen,b ∈ bs)/\seen.Nodup
theorem SeenOk.nil {bs:List Nat}:SeenOk bs []:=⟨by simp,by simp⟩
theorem SeenOk.snoc {bs seen:List Nat} {i b:Nat} (h:SeenOk bs seen) (hb:bs[i]?=some b) (hn:b ∉ seen):SeenOk bs (seen++[b])/\seen.length+1<=bs.length:=by
 have h1:SeenOk bs (seen++[b]):=by
  refine ⟨fun x hx=>?_,?_⟩
  . rcases List.mem_append.1 hx with hx | hx
    . exact h.1 x hx
    . simp at hx;subst hx;exact List.mem_of_getElem? hb
  . rw [List.nodup_append]
    exact ⟨h.2,by simp,fun a ha b' hb'=>by simp at hb';subst hb';exact fun e=>hn (e ▸ ha)⟩
 refine ⟨h1,?_⟩
 have:=nodup_length_le h1.2 h1.1
 simpa using this
theorem SeenK.nil {kl bs:List Nat} {k:Nat}:¬ SeenK kl bs [] k:=fun ⟨_,_,_,h,_⟩=>by simp at h
theorem seenK_snoc {kl bs seen:List Nat} {i b k k':Nat} (hn:bs.Nodup) (hb:bs[i]?=some b) (hk:kl[i]?=some k):SeenK kl bs (seen++[b]) k'↔(SeenK kl bs seen k'\/k'=k):=by
 constructor
 . rintro ⟨i',b',h1,h2,h3⟩
   rcases List.mem_append.1 h2 with h2 | h2
   . exact .inl ⟨i',b',h1,h2,h3⟩
   . simp at h2
     subst h2
     obtain ⟨l1,e1⟩:=List.getElem?_eq_some_iff.1 h1
     obtain ⟨l2,e2⟩:=List.getElem?_eq_some_iff.1 hb
     have:i'=i:=(List.getElem_inj hn).1 (e1.trans e2.symm)
     subst this
     rw [hk] at h3
     exact .inr (Option.some.inj h3).symm
 . rintro (⟨i',b',h1,h2,h3⟩ | rfl)
   . exact ⟨i',b',h1,by simp [h2],h3⟩
   . exact ⟨i,b,hb,by simp,hk⟩
theorem seenK_not {kl bs seen:List Nat} {i b k:Nat} (hn:kl.Nodup) (hb:bs[i]?=some b) (hk:kl[i]?=some k) (hs:b ∉ seen):¬ SeenK kl bs seen k:=by
 rintro ⟨i',b',h1,h2,h3⟩
 obtain ⟨l1,e1⟩:=List.getElem?_eq_some_iff.1 h3
 obtain ⟨l2,e2⟩:=List.getElem?_eq_some_iff.1 hk
 have:i'=i:=(List.getElem_inj hn).1 (e1.trans e2.symm)
 subst this
 rw [hb] at h1
 cases h1
 exact hs h2
theorem seenK_all {kl bs seen:List Nat} {k:Nat} (hl:bs.length=kl.length) (h:∀ b ∈ bs,b ∈ seen):SeenK kl bs seen k↔k ∈ kl:=by
 constructor
 . rintro ⟨i,b,_,_,h3⟩
   exact List.mem_of_getElem? h3
 . intro hk
   obtain ⟨i,hi,rfl⟩:=List.getElem_of_mem hk
   exact ⟨i,bs[i]'(by omega),by simp,h _ (List.getElem_mem _),by simp [hi]⟩
theorem natL_get {l:List Nat} {i:Nat} {x:AV} (h:((natL l).map (AV.int .i64))[i]?=some x):∃ k,l[i]?=some k/\x=.int .i64 (k:Int):=by
 simp only [natL,List.map_map,List.getElem?_map,Option.map_eq_some_iff,Function.comp] at h
 obtain ⟨k,h1,h2⟩:=h
 exact ⟨k,h1,h2.symm⟩
theorem po_mit {H:List AObj} {l:List Nat} {bor:Bool} {n id b d:Nat} {c:List Nat}:po H l bor n (.mit (some id) b c d)=match pos l id 0 with | some j=>.mit (some j) b c d | none=>.lost:=rfl
theorem pa_itr {H:List AObj} {l:List Nat} {bor:Bool} {n id:Nat}:pa H l bor (n+1) (.itr id)=match pos l id 0 with | some j=>.itr j | none=>.junk:=rfl
def MinZ (kl bs:List Nat) (f:Nat->Nat) (seen:List Nat):Option Nat->Prop
 | none=>∀ k,SeenK kl bs seen k->f k≠0
 | some m=>SeenK kl bs seen m/\f m=0/\∀ k,SeenK kl bs seen k->f k=0->m<=k
set_option maxHeartbeats 16000000
theorem c95 (h:List Acc) (hck:checkS h=0):ACalls E.P 95 [graphA h] [] (fun r H=>(∃ t,SerialS h t/\r=serA t)/\H=[]):=by
 have hmax:=maxLen_eq
 have hn:=checkS_len hck
 refine ok95.acalls hE hm (by simp) fun N hN=>?_
 unfold mc95 z0 pY pZ pM pF pL pG pI pB pQ pR pS pN pD pA pX pE pP gT gF oM oB oO
 simp only [graphA]
 repeat' (first|(with_reducible first|(apply St.o;constructor)<;>intro _|refine ai ?_|(apply Sq.o;constructor))|simp (disch:=omega) only [lE,seval])
 refine loop_i (X:=Nat × (Nat->Nat) × List Nat × Nat) (fun x=>x.1<=h.length/\WfO ((List.range x.1).filter fun j=>(at' h j).done) x.2.2.1 x.2.2.2/\∀ k ∈ (List.range x.1).filter (fun j=>(at' h j).done),x.2.1 k=cnt h [] k h.length)
  (fun x=>⟨[(0,graphA h),(4,.mp 0),(17,.view 6 (h.map accA)),(18,.int .i64 h.length),(19,.int .i64 x.1)],[mapO ((List.range x.1).filter fun j=>(at' h j).done) x.2.1 x.2.2.1 x.2.2.2]⟩) (fun x=>h.length - x.1) (0,fun _=>0,[],0) ⟨by simp,by simp [WfO],by simp⟩ (ent [0] false (by simp only [lP,seval,graphA,mapO,natL]<;>(try simp)<;>(try omega)) (by simp only [lP,seval,graphA,mapO,natL]<;>(try simp)<;>(try omega))) ?_
 rintro ⟨j,f,bs,c⟩ ⟨hj,hw,hf⟩
 simp only at hj hw hf
 by_cases hjn:j<h.length
 . have e1:∀ {m N d k},IdxR E.P m N (h.map accA) (j:Int) d k=rK E.P m N k d (.vp (accC (at' h j))):=IdxR_at hjn
   simp only [graphA,mapO]
   repeat' (first|(with_reducible first|(apply St.o;constructor)<;>intro _|refine ai ?_|(apply Sq.o;constructor))|simp (disch:=omega) only [lE,seval,e1,accC])
   all_goals try (exfalso;omega)
   all_goals try (exfalso;omega)
   . rename_i h1 h2
     have hd:(at' h j).done=false:=by simpa using h2
     have hr:(List.range (j+1)).filter (fun j=>(at' h j).done)=(List.range j).filter fun j=>(at' h j).done:=by rw [List.range_succ,List.filter_append];simp only [List.filter_cons,hd,List.filter_nil];simp
     refine back_i (j+1,f,bs,c) ⟨by simp only;omega,by simpa only [hr] using hw,by simpa only [hr] using hf⟩ (by simp only;omega) (ent [0] false (by simp only [lP,seval,graphA,mapO,pa_natL,hr]<;>(try simp)<;>(try omega)) (by simp only [lP,seval,graphA,mapO,pa_natL,hr]<;>(try simp)<;>(try omega)))
   . rename_i h1 h2
     have hd:(at' h j).done=true:=by simpa using h2
     have hr:(List.range (j+1)).filter (fun j=>(at' h j).done)=((List.range j).filter fun j=>(at' h j).done)++[j]:=by rw [List.range_succ,List.filter_append];simp only [List.filter_cons,hd,List.filter_nil];simp
     have hnj:j ∉ (List.range j).filter (fun j=>(at' h j).done):=by simp
     have hnj':j ∈ ((List.range j).filter (fun j=>(at' h j).done))++[j]:=by simp
     have hw':=hw.snoc hnj
     generalize (List.range j).filter (fun j=>(at' h j).done)=kl at *
     have pn:putK (.int .i64) ((natL kl).map (AV.int .i64)) ((natL (kl.map f)).map (AV.int .i64)) bs c (.int .i64 (j:Int)) (.int .i64 0)=some (mapO (kl++[j]) (upd f j 0) (bs++[c]) (c+1)):=put_newO (v:=0) hnj
     repeat' (first|(with_reducible first|(apply St.o;constructor)<;>intro _|refine ai ?_|(apply Sq.o;constructor))|simp (disch:=omega) only [lE,seval,pn,mapO_eq])
     refine loop_i (X:=Nat × (Nat->Nat)) (fun x=>x.1<=h.length/\x.2 j=cnt h [] j x.1/\∀ k ∈ kl,x.2 k=f k)
      (fun x=>⟨[(0,graphA h),(4,.mp 0),(5,.int .i64 j),(17,.view 6 (h.map accA)),(18,.int .i64 h.length),(19,.int .i64 j),(33,.int .i64 h.length),(34,.int .i64 x.1)],[mapO (kl++[j]) x.2 (bs++[c]) (c+1)]⟩) (fun x=>h.length - x.1) (0,upd f j 0)
      ⟨by simp,by simp [upd,cnt],fun k hk=>by have:k≠j:=fun e=>hnj (e ▸ hk)
                                              simp [upd,this]⟩ (ent [0] false (by simp only [lP,seval,graphA,mapO,pa_natL]<;>(try simp)<;>(try omega)) (by simp only [lP,seval,graphA,mapO,pa_natL]<;>(try simp)<;>(try omega))) ?_
     rintro ⟨i,f1⟩ ⟨hi,hf1,hf2⟩
     simp only at hi hf1 hf2
     by_cases hin:i<h.length
     . have er:∀ {m N d k},IdxR E.P m N ((List.range h.length).map (rowA h)) (i:Int) d k=rK E.P m N k d (.vp [rowA h i]):=IdxR_rows hin
       have eg:∀ {m N d k},IdxR E.P m N ((erow h i).map (AV.int .i64)) (j:Int) d k=rK E.P m N k d (.vp [.int .i64 (ebit h i j)]):=IdxR_erow hjn
       have lk:=look_wO (f:=f1) hnj'
       have hle:=cnt_le (h:=h) (out:=[]) (k:=j) (m:=i)
       have pt:putK (.int .i64) ((natL (kl++[j])).map (AV.int .i64)) ((natL ((kl++[j]).map f1)).map (AV.int .i64)) (bs++[c]) (c+1) (.int .i64 (j:Int)) (.int .i64 ((f1 j:Int)+1))=some (mapO (kl++[j]) (upd f1 j (f1 j+1)) (bs++[c]) (c+1)):=put_oldO hw'.1 hnj'
       have wr:IntKind.i64.wrap ((f1 j:Int)+1)=(f1 j:Int)+1:=wrap_i64 (by omega) (by omega)
       simp only [graphA,mapO]
       repeat' (first|(with_reducible first|(apply St.o;constructor)<;>intro _|refine ai ?_|(apply Sq.o;constructor))|simp (disch:=omega) only [lE,seval,er,eg,rowA,ebit_ne,lk,pt,wr,mapO_eq])
       all_goals try (exfalso;omega)
       all_goals try (exfalso;omega)
       . rename_i h3 h4
         simp only [Decidable.not_not] at h4
         refine back_i (i+1,upd f1 j (f1 j+1)) ⟨by simp only;omega,?_,fun k hk=>?_⟩ (by simp only;omega) (ent [0] false (by simp only [lP,seval,graphA,mapO,pa_natL]<;>(try simp)<;>(try omega)) (by simp only [lP,seval,graphA,mapO,pa_natL]<;>(try simp)<;>(try omega)))
         . simp only [upd,if_true];rw [cnt_succ,hf1];simp [h4]
         . have:k≠j:=fun e=>hnj (e ▸ hk)
           simp only [upd,this,if_false];exact hf2 k hk
       . rename_i h3 h4
         refine back_i (i+1,f1) ⟨by simp only;omega,?_,hf2⟩ (by simp only;omega) (ent [0] false (by simp only [lP,seval,graphA,mapO,pa_natL]<;>(try simp)<;>(try omega)) (by simp only [lP,seval,graphA,mapO,pa_natL]<;>(try simp)<;>(try omega)))
         simp only;rw [cnt_succ,hf1];simp [h4]
     . have:i=h.length:=by omega
       subst this
       simp only [graphA,mapO]
       repeat' (first|(with_reducible first|(apply St.o;constructor)<;>intro _|refine ai ?_|(apply Sq.o;constructor))|simp (disch:=omega) only [lE,seval])
       all_goals try (exfalso;omega)
       all_goals try (exfalso;omega)
       refine back_i (j+1,f1,bs++[c],c+1) ⟨by simp only;omega,by simpa only [hr] using hw',?_⟩ (by simp only;omega) (ent [0] false (by simp only [lP,seval,graphA,mapO,pa_natL,hr]<;>(try simp)<;>(try omega)) (by simp only [lP,seval,graphA,mapO,pa_natL,hr]<;>(try simp)<;>(try omega)))
       simp only [hr]
       intro k hk
       rcases List.mem_append.1 hk with hk | hk
       . rw [hf2 k hk];exact hf k hk
       . simp at hk;subst hk;exact hf1
 . have:j=h.length:=by omega
   subst this
   have hkl:∀ k,k ∈ (List.range h.length).filter (fun j=>(at' h j).done)↔(k<h.length/\(at' h k).done=true/\k ∉ ([]:List Nat)):=by intro k;simp
   generalize (List.range h.length).filter (fun j=>(at' h j).done)=kl at *
   simp only [graphA,mapO]
   repeat' (first|(with_reducible first|(apply St.o;constructor)<;>intro _|refine ai ?_|(apply Sq.o;constructor))|simp (disch:=omega) only [lE,seval])
   all_goals try (exfalso;omega)
   all_goals try (exfalso;omega)
   refine loop_i (X:=List Nat × List Nat × (Nat->Nat) × List Nat × Nat) (fun x=>Seq h x.1/\WfO x.2.1 x.2.2.2.1 x.2.2.2.2/\(∀ k,k ∈ x.2.1↔(k<h.length/\(at' h k).done=true/\k ∉ x.1))/\∀ k ∈ x.2.1,x.2.2.1 k=cnt h x.1 k h.length)
    (fun x=>⟨[(0,graphA h),(4,.mp 0),(8,.slc 1 1 x.1.length)],[mapO x.2.1 x.2.2.1 x.2.2.2.1 x.2.2.2.2,.arr 3 1 ((natL x.1).map (AV.int .i64))]⟩) (fun x=>x.2.1.length) ([],kl,f,bs,c) ⟨Seq.nil,hw,hkl,hf⟩
    (Ent.ghost' 8 3 1 (by omega) rfl (ent [0,1] false (by simp only [lP,seval,graphA,mapO,pa_natL,natL]<;>(try simp)<;>(try omega)) (by simp only [lP,seval,graphA,mapO,pa_natL,natL]<;>(try simp)<;>(try omega)))) ?_
   rintro ⟨out,kl,f,bs,c⟩ ⟨hs,hw,hkl,hf⟩
   simp only at hs hw hkl hf
   have hle:=hs.le
   have hdl:=doneL_len h
   simp only [graphA,mapO]
   repeat' (first|(with_reducible first|(apply St.o;constructor)<;>intro _|refine ai ?_|(apply Sq.o;constructor))|simp (disch:=omega) only [lE,seval,natL_length])
   . rename_i h1
     refine loop_i (X:=List Nat × Option Nat) (fun x=>SeenOk bs x.1/\MinZ kl bs f x.1 x.2)
      (fun x=>⟨[(0,graphA h),(4,.mp 0),(8,.slc 1 1 out.length),(9,.int .i64 (nextV x.2)),(58,.itr 2)],[mapO kl f bs c,.arr 3 1 ((natL out).map (AV.int .i64)),.mit (some 0) c x.1 c]⟩) (fun x=>bs.length - x.1.length) ([],none) ⟨.nil,fun k hk=>(SeenK.nil hk).elim⟩
      (ent [0,1,2] false (by simp only [lP,seval,graphA,mapO,pa_natL,po_mit,pa_itr,nextV]<;>(try simp)<;>(try omega)) (by simp only [lP,seval,graphA,mapO,pa_natL,po_mit,pa_itr,nextV]<;>(try simp)<;>(try omega))) ?_
     rintro ⟨seen,nx⟩ ⟨hso,hmz⟩
     simp only at hso hmz
     simp only [graphA,mapO]
     repeat' (first|(with_reducible first|(apply St.o;constructor)<;>intro _|refine ai ?_|(apply Sq.o;constructor))|simp (disch:=omega) only [lE,seval])
     refine nxt_i hw.2.2.1 (Nat.le_refl _) (fun hall=>?_) (fun i b kx vx hb hns hk hv=>?_)
     . simp only [lA,seval]
       have hsk:∀ k,SeenK kl bs seen k↔k ∈ kl:=fun k=>seenK_all hw.2.1 hall
       rcases nx with _ | m
       . simp only [nextV]
         repeat' (first|(with_reducible first|(apply St.o;constructor)<;>intro _|refine ai ?_|(apply Sq.o;constructor))|simp (disch:=omega) only [lE,seval])
         refine keepnt_i 1 ⟨⟨none,⟨out,hs,?_,?_⟩,rfl⟩,rfl⟩
         . obtain ⟨k,hk⟩:=List.exists_mem_of_length_pos (l:=kl) (by omega)
           exact ⟨k,(hkl k).1 hk⟩
         . rintro k ⟨r1,r2,r3,r4⟩
           have hk:k ∈ kl:=(hkl k).2 ⟨r1,r2,r3⟩
           refine hmz k ((hsk k).2 hk) ?_
           rw [hf k hk,cnt_zero]
           exact r4
         . rename_i hd
           exact absurd hd (by decide)
       . have hm:m ∈ kl:=(hsk m).1 hmz.1
         obtain ⟨m1,m2,m3⟩:=(hkl m).1 hm
         have hnext:NextS h (· ∈ out) (some m):=by
          refine ⟨⟨m1,m2,m3,?_⟩,?_⟩
          . have:=hmz.2.1
            rw [hf m hm,cnt_zero] at this
            exact this
          . rintro k ⟨r1,r2,r3,r4⟩
            have hk:k ∈ kl:=(hkl k).2 ⟨r1,r2,r3⟩
            refine hmz.2.2 k ((hsk k).2 hk) ?_
            rw [hf k hk,cnt_zero]
            exact r4
         obtain ⟨kl',bs',hd,hw',hkl',hlen'⟩:=del_wO (f:=f) hw hm
         simp only [nextV]
         repeat' (first|(with_reducible first|(apply St.o;constructor)<;>intro _|refine ai ?_|(apply Sq.o;constructor))|simp (disch:=omega) only [lE,seval,hd,mapO_eq])
         . rename_i hneg
           exfalso
           first | omega | (have:=of_decide_eq_true hneg;omega)
         refine loop_i (X:=List Nat × (Nat->Nat)) (fun x=>SeenOk bs' x.1/\∀ k ∈ kl',x.2 k=if SeenK kl' bs' x.1 k/\Edge h m k then f k - 1 else f k)
          (fun x=>⟨[(0,graphA h),(4,.mp 0),(8,.slc 1 1 out.length),(9,.int .i64 m),(81,.itr 2)],[mapO kl' x.2 bs' c,.arr 3 1 ((natL out).map (AV.int .i64)),.mit (some 0) c x.1 c]⟩) (fun x=>bs'.length - x.1.length) ([],f) ⟨.nil,fun k hk=>by simp [SeenK.nil]⟩
          (ent [0,1,3] false (by simp only [lP,seval,graphA,mapO,pa_natL,po_mit,pa_itr]<;>(try simp)<;>(try omega)) (by simp only [lP,seval,graphA,mapO,pa_natL,po_mit,pa_itr]<;>(try simp)<;>(try omega))) ?_
         rintro ⟨seen,g⟩ ⟨hso,hg⟩
         simp only at hso hg
         simp only [graphA,mapO]
         repeat' (first|(with_reducible first|(apply St.o;constructor)<;>intro _|refine ai ?_|(apply Sq.o;constructor))|simp (disch:=omega) only [lE,seval])
         refine nxt_i hw'.2.2.1 (Nat.le_refl _) (fun hall=>?_) (fun i b kx vx hb hns hk hv=>?_)
         . simp only [lA,seval]
           have hsk:∀ k,SeenK kl' bs' seen k↔k ∈ kl':=fun k=>seenK_all hw'.2.1 hall
           repeat' (first|(with_reducible first|(apply St.o;constructor)<;>intro _|refine ai ?_|(apply Sq.o;constructor))|simp (disch:=omega) only [lE,seval,natL_length])
           refine back_i (out++[m],kl',g,bs',c) ⟨hs.snoc hnext,hw',fun k=>?_,fun k hk=>?_⟩ (by simp only;omega) (ent [0,4] false (by simp only [lP,seval] <;> simp [graphA]) ?_)
           . simp only [hkl',hkl,List.mem_append,List.mem_singleton]
             grind
           . simp only at hk ⊢
             have h1:=hg k hk
             simp only [hsk,hk,true_and] at h1
             have h2:=cnt_snoc (h:=h) (k:=k) m3 h.length
             rw [hf k ((hkl' k).1 hk).1] at h1
             rw [h1]
             by_cases e:Edge h m k
             . simp only [e,m1,and_self,if_true] at h2 ⊢;omega
             . simp only [e,and_false,if_false] at h2 ⊢;omega
           . simp only [lP,seval,List.map_append,pa_natL,mapO,natL]
             try simp [pa_int]
         . obtain ⟨k,hk1,rfl⟩:=natL_get hk
           obtain ⟨v,hv1,rfl⟩:=natL_get hv
           have hvf:v=g k:=by
            rw [List.getElem?_map,hk1] at hv1
            exact (Option.some.inj hv1).symm
           subst hvf
           have hsn:=hso.snoc hb hns
           have hse:=fun k'=>seenK_snoc (k':=k') (seen:=seen) hw'.2.2.2 hb hk1
           simp only [lA,seval]
           refine ent_i i b rfl hb hk hv ?_
           simp only [lA,seval]
           have hkk:k ∈ kl':=List.mem_of_getElem? hk1
           obtain ⟨k1,k2,k3⟩:=(hkl k).1 ((hkl' k).1 hkk).1
           have er:∀ {m' N d k},IdxR E.P m' N ((List.range h.length).map (rowA h)) (m:Int) d k=rK E.P m' N k d (.vp [rowA h m]):=IdxR_rows m1
           have eg:∀ {m' N d k'},IdxR E.P m' N ((erow h m).map (AV.int .i64)) (k:Int) d k'=rK E.P m' N k' d (.vp [.int .i64 (ebit h m k)]):=IdxR_erow k1
           have lk:=look_wO (f:=g) hkk
           have hgk:g k=f k:=by rw [hg k hkk,if_neg fun hh=>seenK_not hw'.1 hb hk1 hns hh.1]
           have hfk:=hf k ((hkl' k).1 hkk).1
           have hcl:=cnt_le (h:=h) (out:=out) (k:=k) (m:=h.length)
           by_cases he:Edge h m k
           . have h1:1<=g k:=by
              rw [hgk,hfk]
              refine Nat.one_le_iff_ne_zero.2 fun h0=>m3 (cnt_zero.1 h0 m m1 he)
             have wr:IntKind.i64.wrap ((g k:Int) - 1)=((g k - 1:Nat):Int):=by rw [wrap_i64 (by omega) (by omega)];omega
             have pt:putK (.int .i64) ((natL kl').map (AV.int .i64)) ((natL (kl'.map g)).map (AV.int .i64)) bs' c (.int .i64 (k:Int)) (.int .i64 ((g k - 1:Nat):Int))=some (mapO kl' (upd g k (g k - 1)) bs' c):=put_oldO hw'.1 hkk
             repeat' (first|(with_reducible first|(apply St.o;constructor)<;>intro _|refine ai ?_|(apply Sq.o;constructor))|simp (disch:=omega) only [lE,seval,er,eg,rowA,ebit_ne,lk,wr,pt,mapO_eq])
             all_goals try (exfalso;omega)
             all_goals try (exfalso;omega)
             all_goals try (exfalso;simp_all;done)
             refine back_i (seen++[b],upd g k (g k - 1)) ⟨hsn.1,fun k' hk'=>?_⟩ (by simp only [List.length_append,List.length_singleton];have:=hsn.2;omega) (ent [0,1,2] false (by simp only [lP,seval,graphA,mapO,pa_natL,po_mit,pa_itr]<;>(try simp)<;>(try omega)) (by simp only [lP,seval,graphA,mapO,pa_natL,po_mit,pa_itr]<;>(try simp)<;>(try omega)))
             simp only [upd,hse]
             by_cases e:k'=k
             . subst e;simp [he,hgk]
             . simp only [e,if_false,or_false];exact hg k' hk'
           . repeat' (first|(with_reducible first|(apply St.o;constructor)<;>intro _|refine ai ?_|(apply Sq.o;constructor))|simp (disch:=omega) only [lE,seval,er,eg,rowA,ebit_ne,lk])
             all_goals try (exfalso;omega)
             all_goals try contradiction
             refine back_i (seen++[b],g) ⟨hsn.1,fun k' hk'=>?_⟩ (by simp only [List.length_append,List.length_singleton];have:=hsn.2;omega) (ent [0,1,2] false (by simp only [lP,seval,graphA,mapO,pa_natL,po_mit,pa_itr]<;>(try simp)<;>(try omega)) (by simp only [lP,seval,graphA,mapO,pa_natL,po_mit,pa_itr]<;>(try simp)<;>(try omega)))
             simp only [hse]
             by_cases e:k'=k
             . subst e;simp [he,hgk]
             . simp only [e,or_false];exact hg k' hk'
     . obtain ⟨k,hk1,rfl⟩:=natL_get hk
       obtain ⟨v,hv1,rfl⟩:=natL_get hv
       have hvf:v=f k:=by
        rw [List.getElem?_map,hk1] at hv1
        exact (Option.some.inj hv1).symm
       subst hvf
       have hsn:=hso.snoc hb hns
       have hse:=fun k'=>seenK_snoc (k':=k') (seen:=seen) hw.2.2.2 hb hk1
       simp only [lA,seval]
       refine ent_i i b rfl hb hk hv ?_
       simp only [lA,seval]
       cases nx with
       | none =>
         simp only [nextV]
         repeat' (first|(with_reducible first|(apply St.o;constructor)<;>intro _|refine ai ?_|(apply Sq.o;constructor))|simp (disch:=omega) only [lE,seval])
         all_goals try (exfalso;omega)
         all_goals first
          | (refine back_i (seen++[b],some k) ⟨hsn.1,(hse k).2 (.inr rfl),by omega,fun k' hk' hz=>?_⟩ (by simp only [List.length_append,List.length_singleton];have:=hsn.2;omega) (ent [0,1,2] false (by simp only [lP,seval,graphA,mapO,pa_natL,po_mit,pa_itr,nextV]<;>(try simp)<;>(try omega)) (by simp only [lP,seval,graphA,mapO,pa_natL,po_mit,pa_itr,nextV]<;>(try simp)<;>(try omega)))
             rcases (hse k').1 hk' with hh | rfl
             . exact absurd hz (hmz k' hh)
             . omega)
          | (refine back_i (seen++[b],none) ⟨hsn.1,fun k' hk'=>?_⟩ (by simp only [List.length_append,List.length_singleton];have:=hsn.2;omega) (ent [0,1,2] false (by simp only [lP,seval,graphA,mapO,pa_natL,po_mit,pa_itr,nextV]<;>(try simp)<;>(try omega)) (by simp only [lP,seval,graphA,mapO,pa_natL,po_mit,pa_itr,nextV]<;>(try simp)<;>(try omega)))
             rcases (hse k').1 hk' with hh | rfl
             . exact hmz k' hh
             . omega)
       | some m =>
         simp only [nextV]
         repeat' (first|(with_reducible first|(apply St.o;constructor)<;>intro _|refine ai ?_|(apply Sq.o;constructor))|simp (disch:=omega) only [lE,seval])
         all_goals try (exfalso;omega)
         all_goals try (exfalso;omega)
         all_goals first
          | (refine back_i (seen++[b],some k) ⟨hsn.1,(hse k).2 (.inr rfl),by omega,fun k' hk' hz=>?_⟩ (by simp only [List.length_append,List.length_singleton];have:=hsn.2;omega) (ent [0,1,2] false (by simp only [lP,seval,graphA,mapO,pa_natL,po_mit,pa_itr,nextV]<;>(try simp)<;>(try omega)) (by simp only [lP,seval,graphA,mapO,pa_natL,po_mit,pa_itr,nextV]<;>(try simp)<;>(try omega)))
             rcases (hse k').1 hk' with hh | rfl
             . have:=hmz.2.2 k' hh hz
               omega
             . omega)
          | (refine back_i (seen++[b],some m) ⟨hsn.1,(hse m).2 (.inl hmz.1),hmz.2.1,fun k' hk' hz=>?_⟩ (by simp only [List.length_append,List.length_singleton];have:=hsn.2;omega) (ent [0,1,2] false (by simp only [lP,seval,graphA,mapO,pa_natL,po_mit,pa_itr,nextV]<;>(try simp)<;>(try omega)) (by simp only [lP,seval,graphA,mapO,pa_natL,po_mit,pa_itr,nextV]<;>(try simp)<;>(try omega)))
             rcases (hse k').1 hk' with hh | rfl
             . exact hmz.2.2 k' hh hz
             . omega)
   . rename_i h1
     have hv2:∀ {H l n},vwS none (some (.arr 3 1 ((natL out).map (AV.int .i64)))) H l n 1 out.length=.view 1 ((natL out).map (AV.int .i64)):=by
      intro H l n
      rw [vwS_arr (by simp [natL]),vw_ints]
     refine keep_i [] true (by simp) (by simp) rfl ?_
     simp only [lP,seval,paR_lent,hv2]
     refine ⟨some out,⟨hs,fun j h1' h2'=>?_⟩,rfl⟩
     refine Classical.byContradiction fun hc=>?_
     have:=List.length_pos_of_mem ((hkl j).2 ⟨h1',h2',hc⟩)
     omega
def mc48:MC:=(.seq (.ops [pY 2,pZ 3]) (.seq (.ops [pM 5 0,pV 6 68 5,pM 4 6]) (.seq (.seq (.ops [pM 7 4,(none,.v (.eq 8 false .ptr (.t 7) (.c (.raw (.pointer none)))))]) (.cond 8 (.seq (.ops [pY 2,pZ 3]) .ret) .skip)) (.seq (.ops [pM 9 4,pV 10 95 9,pX 11 0 10,pX 12 1 10,pM 2 11,pM 3 12]) .ret))))
theorem ok48:FnOk E 48 13 [.tmp 2,.tmp 3] mc48:=ofk func48
open Classical
theorem c48 (h:List Acc):ACalls E.P 48 [.view 6 (h.map accA)] [] (fun r H=>(∃ t,SerialF h t/\r=serA t)/\H=[]):=by
 refine ok48.acalls hE hm (by simp) fun N hN=>?_
 unfold mc48 pY pZ pM pV pX
 have h50:=c68 h
 by_cases hck:checkS h=0
 . have h57:=c95 h hck
   simp only [graphA,hck,if_true] at h50 h57
   repeat' (first|(with_reducible first|(apply St.o;constructor)<;>intro _|refine ai ?_|(apply Sq.o;constructor))|((with_reducible apply Sc.o false;constructor);simp only [lP,seval];refine ⟨_,h50,?_⟩;rintro _ _ ⟨rfl,rfl⟩;simp only [lA,lP,seval])|simp (disch:=omega) only [lE,seval])
   refine callN_i [] false (by simp) (by simp) ?_
   simp only [lP,seval]
   refine ⟨_,h57,?_⟩
   rintro _ _ ⟨⟨t,ht,rfl⟩,rfl⟩
   rcases t with _ | out
   . simp only [lP,seval,lA,seval,serA]
     repeat' (first|(with_reducible first|(apply St.o;constructor)<;>intro _|refine ai ?_|(apply Sq.o;constructor))|((with_reducible refine keep0_i ?_);simp only [lP,seval])|simp (disch:=omega) only [lE,seval])
     exact ⟨none,by simp only [SerialF,hck,if_true];exact ht,rfl⟩
   . simp only [lP,seval,lA,seval,serA]
     repeat' (first|(with_reducible first|(apply St.o;constructor)<;>intro _|refine ai ?_|(apply Sq.o;constructor))|((with_reducible refine keep0_i ?_);simp only [lP,seval])|simp (disch:=omega) only [lE,seval])
     exact ⟨some out,by simp only [SerialF,hck,if_true];exact ht,rfl⟩
 . simp only [hck,if_false] at h50
   repeat' (first|(with_reducible first|(apply St.o;constructor)<;>intro _|refine ai ?_|(apply Sq.o;constructor))|((with_reducible apply Sc.o false;constructor);simp only [lP,seval];refine ⟨_,h50,?_⟩;rintro _ _ ⟨rfl,rfl⟩;simp only [lA,lP,seval])|simp (disch:=omega) only [lE,seval])
   refine keepnt_i 1 ⟨⟨none,by simp [SerialF,hck],rfl⟩,rfl⟩
def Walk (h:List Acc) (s:Nat):Nat->Nat->Prop
 | 0,_=>False
 | 1,i=>s<=i/\i<h.length/\Edge h i s
 | n+2,i=>s<=i/\i<h.length/\∃ j,s<j/\j<h.length/\Edge h i j/\Walk h s (n+1) j
theorem exists_least {p:Nat->Prop}:(∃ n,p n)->∃ n,p n/\∀ m,m<n->¬ p m:=by
 rintro ⟨n,hn⟩
 induction n using Nat.strongRecOn with
 | _ n ih =>
   by_cases h:∃ m,m<n/\p m
   . obtain ⟨m,h1,h2⟩:=h
     exact ih m h1 h2
   . exact ⟨n,hn,fun m h1 h2=>h ⟨m,h1,h2⟩⟩
open Classical
def lv (q es:List Nat) (k:Nat):Nat:=if k=0 then 0 else es.getD (q.getD k 0) 0
structure Bfs (h:List Acc) (s a:Nat) (q es:List Nat):Prop where
 len:es.length=h.length
 q0:q.getD 0 0=s
 qpos:0<q.length
 nd:q.Nodup
 rg:∀ x ∈ q,s<=x/\x<h.length
 ats:a<=q.length
 nz:∀ k,1<=k->k<q.length->lv q es k≠0
 lvk:∀ k,k<q.length->lv q es k<=k
 mono:∀ k k',k<=k'->k'<q.length->lv q es k<=lv q es k'
 top:∀ i,i<h.length->a<q.length->es.getD i 0<=lv q es a+1
 walk:∀ i,i<h.length->es.getD i 0≠0->Walk h s (es.getD i 0) i/\(i≠s->i ∈ q)
 edge:∀ k,k<a->∀ i,s<=i->i<h.length->Edge h i (q.getD k 0)->es.getD i 0≠0/\es.getD i 0<=lv q es k+1
structure BfsI (h:List Acc) (s a i:Nat) (q es:List Nat):Prop extends Bfs h s a q es where
 lt:a<q.length
 row:∀ i',i'<i->s<=i'->i'<h.length->Edge h i' (q.getD a 0)->es.getD i' 0≠0/\es.getD i' 0<=lv q es a+1
section
variable {h:List Acc} {s a i:Nat} {q es:List Nat}
end
end Go.Proofs.Try
