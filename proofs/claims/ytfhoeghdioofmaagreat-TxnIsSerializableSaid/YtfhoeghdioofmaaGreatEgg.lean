/-
 A part of the proof.
-/
import Derived.Test.YtfhoeghdioofmaaGreatEff
set_option linter.unusedSimpArgs false
set_option linter.unusedVariables false
namespace Go.Proofs.Try
open Go.Proofs.Tryz
open Go.Al
set_option maxRecDepth 100000
set_option maxHeartbeats 16000000
def mc112:MC:=(.seq (.ops [pL 4 1,(none,.e (.rng 5 (.t 4)))]) (.block 0 (.loop (.seq (.ops [(none,.e (.nxt 6 (.t 5))),pX 7 0 6]) (.seq (.cond 7 .skip (.exit 0)) (.block 1 (.seq (.ops [(none,.p (.ent 8 (.t 5))),pX 9 0 8,pM 3 9]) (.seq (.ops [pM 10 0,pM 11 3,(none,.e (.callv (some 12) (.t 10) [.t 11])),pN 13 12]) (.cond 13 .ret .skip)))))))))
theorem ok112:FnOk E 112 14 [] mc112:=ofk func112
def mc117:MC:=(.seq (.ops [pL 4 1,(none,.e (.rng 5 (.t 4)))]) (.block 0 (.loop (.seq (.ops [(none,.e (.nxt 6 (.t 5))),pX 7 0 6]) (.seq (.cond 7 .skip (.exit 0)) (.block 1 (.seq (.ops [(none,.p (.ent 8 (.t 5))),pX 9 0 8,pM 3 9]) (.seq (.ops [pM 10 0,pM 11 3,(none,.e (.callv (some 12) (.t 10) [.t 11])),pN 13 12]) (.cond 13 .ret .skip)))))))))
theorem ok117:FnOk E 117 14 [] mc117:=ofk func117
def KeysG (g:FuncId):Prop:=∀ {X α:Type} [Inhabited α] {S:X->(Nat->Prop)->List AObj->Prop} {id:Nat} (hG:Grows S) (hP:∀ x G H i o,S x G H->G i->S x G (H.set i o)) (f:X->Int->X) (av:α->AV) (m:List (Int × α)) (bs:List Nat) (c:Nat) (hw:WfM m.length bs c) (b mid:Nat)
    (hb:∀ x G H,S x G H->H[b]?=some (.box [.mp mid])/\H[mid]?=some (.map (kM m) (vM av m) bs c))
    (live:X->Nat->Prop) (hl:∀ x v k,live x (k+1)->live (f x v) k)
    (hy:∀ x v k G H,v ∈ m.map (·.1)->live x (k+1)->S x G H->AYield E.P id [.int .i64 v] H (fun r H'=>r=.bool true/\Bhd S (f x v) G H H')) (x:X) (hx:live x m.length) (G:Nat->Prop) (H:List AObj) (hs:S x G H),
    ACalls E.P g [.yld id,.op b 0] H (fun r H'=>∃ l:List Int,l.Perm (m.map (·.1))/\Bhd S (l.foldl f x) G H H')
theorem c117g:KeysG 117:=by
 intro X α _ S id hG hP f av m bs c hw b mid hb live hl hy x hx G H hs
 have hmax:=maxLen_eq
 refine ok117.acalls0 hE hm (by simp) fun N hN=>?_
 unfold mc117 pL pX pM pN
 obtain ⟨f1,f2⟩:=hb _ _ _ hs
 simp only [lA,seval,f1,f2]
 refine loop_i (fun p:List Nat × List AObj=>p.1.Nodup/\(∀ i ∈ p.1,i<m.length)/\live ((p.1.map fun i=>(m.getD i default).1).foldl f x) (m.length - p.1.length)/\Bhd S ((p.1.map fun i=>(m.getD i default).1).foldl f x) G H p.2 /\
  S ((p.1.map fun i=>(m.getD i default).1).foldl f x) (fun i=>G i\/i=H.length) p.2/\p.2[H.length]?=some (.mit (some mid) c (p.1.map fun i=>bs.getD i 0) c))
  (fun p=>⟨[(0,.yld id),(5,.itr H.length)],p.2⟩) (fun p=>m.length - p.1.length) ([],H++[.mit (some mid) c [] c])
  ⟨.nil,by simp,by simpa using hx,hG.skip hs,hG.push _ _ _ _ hs,by simp⟩ (Ent.fr (by simp [FrSub,Go.Al.get])) ?_
 rintro ⟨is,H2⟩ ⟨hn,hlt,hlv,hbd,hS,hit⟩
 simp only at hn hlt hlv hbd hS hit ⊢
 obtain ⟨f3,f4⟩:=hb _ _ _ hS
 repeat' (first|(with_reducible first|(apply St.o;constructor)<;>intro _|refine ai ?_|(apply Sq.o;constructor))|simp (disch:=omega) only [lE,seval,hit,f4])
 have hin:∀ i j,i<m.length->j<m.length->bs.getD i 0=bs.getD j 0->i=j:=fun i j hi hj e=>by
  rw [<- hw.len] at hi hj
  rw [List.getD_eq_getElem?_getD,List.getD_eq_getElem?_getD,List.getElem?_eq_getElem hi,List.getElem?_eq_getElem hj] at e
  exact nodup_inj hw.nodup e
 refine nxt_i hw.lt (Nat.le_refl _) (fun hall=>?_) (fun i b' kx vx hb' hns hkx hvx=>?_)
 . simp only [lA,seval]
   repeat' (first|(with_reducible first|(apply St.o;constructor)<;>intro _|refine ai ?_|(apply Sq.o;constructor))|simp (disch:=omega) only [lE,seval])
   refine ⟨_,perm_all hn hlt (fun i hi=>?_),hbd⟩
   have hib:bs.getD i 0 ∈ bs:=by
    rw [List.getD_eq_getElem?_getD,List.getElem?_eq_getElem (by rw [hw.len];exact hi),Option.getD_some]
    exact List.getElem_mem _
   obtain ⟨j,hj,e⟩:=List.mem_map.1 (hall _ hib)
   rw [hin j i (hlt j hj) hi e] at hj
   exact hj
 . obtain ⟨hi,e0⟩:=List.getElem?_eq_some_iff.1 hb'
   rw [hw.len] at hi
   have hbi:bs.getD i 0=b':=by rw [List.getD_eq_getElem?_getD,hb'];rfl
   have hni:i ∉ is:=fun h=>hns (by rw [<- hbi];exact List.mem_map.2 ⟨i,h,rfl⟩)
   have hmi:m[i]?=some (m.getD i default):=by rw [List.getElem?_eq_getElem hi,List.getD_eq_getElem?_getD,List.getElem?_eq_getElem hi,Option.getD_some]
   have hvm:(m.getD i default).1 ∈ m.map (·.1):=List.mem_map.2 ⟨_,List.mem_of_getElem? hmi,rfl⟩
   have hkx2:kx=.int .i64 (m.getD i default).1:=by
    rw [kM,List.getElem?_map,hmi] at hkx
    cases hkx;rfl
   subst hkx2
   have hHl:H.length<H2.length:=(List.getElem?_eq_some_iff.1 hit).1
   have hS3:=hP _ _ _ H.length (.mit (some mid) c (is.map (fun i=>bs.getD i 0)++[b']) c) hS (.inr rfl)
   have hit3:(H2.set H.length (.mit (some mid) c (is.map (fun i=>bs.getD i 0)++[b']) c))[H.length]?=some (.mit (some mid) c (is.map (fun i=>bs.getD i 0)++[b']) c):=at_same _ _ _ hHl
   have hbd3:∀ i,G i->(H2.set H.length (.mit (some mid) c (is.map (fun i=>bs.getD i 0)++[b']) c))[i]?=H[i]?:=fun i hi=>by
    have:=hG.lt _ _ _ _ hs hi
    rw [at_set _ _ H.length i (by omega)]
    exact hbd.2.2 i hi
   have hlen3:(H2.set H.length (.mit (some mid) c (is.map (fun i=>bs.getD i 0)++[b']) c)).length=H2.length:=by simp
   generalize H2.set H.length (.mit (some mid) c (is.map (fun i=>bs.getD i 0)++[b']) c)=H3 at *
   obtain ⟨f5,f6⟩:=hb _ _ _ hS3
   have hn2:(is++[i]).Nodup:=List.nodup_append.2 ⟨hn,by simp,fun a ha b hb e=>by
    rw [List.mem_singleton.1 hb] at e
    exact hni (e ▸ ha)⟩
   have hlt2:∀ j ∈ is++[i],j<m.length:=fun j hj=>by
    rcases List.mem_append.1 hj with hj | hj
    . exact hlt j hj
    . rw [List.mem_singleton.1 hj];exact hi
   have hle:(is++[i]).length<=m.length:=by
    have:=nodup_len (B:=List.range m.length) hn2 fun j hj=>List.mem_range.2 (hlt2 j hj)
    rwa [List.length_range] at this
   simp only [List.length_append,List.length_cons,List.length_nil] at hle
   have hfold:((is++[i]).map fun i=>(m.getD i default).1).foldl f x=f ((is.map fun i=>(m.getD i default).1).foldl f x) (m.getD i default).1:=by
    rw [List.map_append,List.foldl_append];rfl
   have hlv2:live ((is.map fun i=>(m.getD i default).1).foldl f x) ((m.length - (is.length+1))+1):=by rwa [show m.length - (is.length+1)+1=m.length - is.length by omega]
   generalize hv:(m.getD i default).1=v at *
   have hyl:=hy _ v _ _ _ hvm hlv2 hS3
   simp only [lA,seval,hit3]
   rw [f6]
   refine ent_i i b' rfl hb' hkx hvx ?_
   simp only [lA,seval]
   refine yld_i hyl ?_
   rintro _ H4 ⟨rfl,hb5⟩
   simp only [lA,seval]
   refine back_i (is++[i],H4) ⟨hn2,hlt2,?_,?_,?_,?_⟩ (by simp only [List.length_append,List.length_cons,List.length_nil];omega) (Ent.fr (by simp [FrSub,Go.Al.get]))
   . rw [hfold]
     simp only [List.length_append,List.length_cons,List.length_nil]
     exact hl _ _ _ hlv2
   . rw [hfold]
     refine ⟨hG.weak _ _ _ _ hb5.1 fun i hi=>.inl hi,?_,fun i hi=>?_⟩
     . have:=hb5.2.1
       have:=hbd.2.1
       simp only
       omega
     . rw [hb5.2.2 i (.inl hi)]
       exact hbd3 i hi
   . rw [hfold]
     exact hb5.1
   . rw [hb5.2.2 _ (.inr rfl),hit3,List.map_append]
     simp only [List.map_cons,List.map_nil,hbi]
theorem c112g:KeysG 112:=by
 intro X α _ S id hG hP f av m bs c hw b mid hb live hl hy x hx G H hs
 have hmax:=maxLen_eq
 refine ok112.acalls0 hE hm (by simp) fun N hN=>?_
 unfold mc112 pL pX pM pN
 obtain ⟨f1,f2⟩:=hb _ _ _ hs
 simp only [lA,seval,f1,f2]
 refine loop_i (fun p:List Nat × List AObj=>p.1.Nodup/\(∀ i ∈ p.1,i<m.length)/\live ((p.1.map fun i=>(m.getD i default).1).foldl f x) (m.length - p.1.length)/\Bhd S ((p.1.map fun i=>(m.getD i default).1).foldl f x) G H p.2 /\
  S ((p.1.map fun i=>(m.getD i default).1).foldl f x) (fun i=>G i\/i=H.length) p.2/\p.2[H.length]?=some (.mit (some mid) c (p.1.map fun i=>bs.getD i 0) c))
  (fun p=>⟨[(0,.yld id),(5,.itr H.length)],p.2⟩) (fun p=>m.length - p.1.length) ([],H++[.mit (some mid) c [] c])
  ⟨.nil,by simp,by simpa using hx,hG.skip hs,hG.push _ _ _ _ hs,by simp⟩ (Ent.fr (by simp [FrSub,Go.Al.get])) ?_
 rintro ⟨is,H2⟩ ⟨hn,hlt,hlv,hbd,hS,hit⟩
 simp only at hn hlt hlv hbd hS hit ⊢
 obtain ⟨f3,f4⟩:=hb _ _ _ hS
 repeat' (first|(with_reducible first|(apply St.o;constructor)<;>intro _|refine ai ?_|(apply Sq.o;constructor))|simp (disch:=omega) only [lE,seval,hit,f4])
 have hin:∀ i j,i<m.length->j<m.length->bs.getD i 0=bs.getD j 0->i=j:=fun i j hi hj e=>by
  rw [<- hw.len] at hi hj
  rw [List.getD_eq_getElem?_getD,List.getD_eq_getElem?_getD,List.getElem?_eq_getElem hi,List.getElem?_eq_getElem hj] at e
  exact nodup_inj hw.nodup e
 refine nxt_i hw.lt (Nat.le_refl _) (fun hall=>?_) (fun i b' kx vx hb' hns hkx hvx=>?_)
 . simp only [lA,seval]
   repeat' (first|(with_reducible first|(apply St.o;constructor)<;>intro _|refine ai ?_|(apply Sq.o;constructor))|simp (disch:=omega) only [lE,seval])
   refine ⟨_,perm_all hn hlt (fun i hi=>?_),hbd⟩
   have hib:bs.getD i 0 ∈ bs:=by
    rw [List.getD_eq_getElem?_getD,List.getElem?_eq_getElem (by rw [hw.len];exact hi),Option.getD_some]
    exact List.getElem_mem _
   obtain ⟨j,hj,e⟩:=List.mem_map.1 (hall _ hib)
   rw [hin j i (hlt j hj) hi e] at hj
   exact hj
 . obtain ⟨hi,e0⟩:=List.getElem?_eq_some_iff.1 hb'
   rw [hw.len] at hi
   have hbi:bs.getD i 0=b':=by rw [List.getD_eq_getElem?_getD,hb'];rfl
   have hni:i ∉ is:=fun h=>hns (by rw [<- hbi];exact List.mem_map.2 ⟨i,h,rfl⟩)
   have hmi:m[i]?=some (m.getD i default):=by rw [List.getElem?_eq_getElem hi,List.getD_eq_getElem?_getD,List.getElem?_eq_getElem hi,Option.getD_some]
   have hvm:(m.getD i default).1 ∈ m.map (·.1):=List.mem_map.2 ⟨_,List.mem_of_getElem? hmi,rfl⟩
   have hkx2:kx=.int .i64 (m.getD i default).1:=by
    rw [kM,List.getElem?_map,hmi] at hkx
    cases hkx;rfl
   subst hkx2
   have hHl:H.length<H2.length:=(List.getElem?_eq_some_iff.1 hit).1
   have hS3:=hP _ _ _ H.length (.mit (some mid) c (is.map (fun i=>bs.getD i 0)++[b']) c) hS (.inr rfl)
   have hit3:(H2.set H.length (.mit (some mid) c (is.map (fun i=>bs.getD i 0)++[b']) c))[H.length]?=some (.mit (some mid) c (is.map (fun i=>bs.getD i 0)++[b']) c):=at_same _ _ _ hHl
   have hbd3:∀ i,G i->(H2.set H.length (.mit (some mid) c (is.map (fun i=>bs.getD i 0)++[b']) c))[i]?=H[i]?:=fun i hi=>by
    have:=hG.lt _ _ _ _ hs hi
    rw [at_set _ _ H.length i (by omega)]
    exact hbd.2.2 i hi
   have hlen3:(H2.set H.length (.mit (some mid) c (is.map (fun i=>bs.getD i 0)++[b']) c)).length=H2.length:=by simp
   generalize H2.set H.length (.mit (some mid) c (is.map (fun i=>bs.getD i 0)++[b']) c)=H3 at *
   obtain ⟨f5,f6⟩:=hb _ _ _ hS3
   have hn2:(is++[i]).Nodup:=List.nodup_append.2 ⟨hn,by simp,fun a ha b hb e=>by
    rw [List.mem_singleton.1 hb] at e
    exact hni (e ▸ ha)⟩
   have hlt2:∀ j ∈ is++[i],j<m.length:=fun j hj=>by
    rcases List.mem_append.1 hj with hj | hj
    . exact hlt j hj
    . rw [List.mem_singleton.1 hj];exact hi
   have hle:(is++[i]).length<=m.length:=by
    have:=nodup_len (B:=List.range m.length) hn2 fun j hj=>List.mem_range.2 (hlt2 j hj)
    rwa [List.length_range] at this
   simp only [List.length_append,List.length_cons,List.length_nil] at hle
   have hfold:((is++[i]).map fun i=>(m.getD i default).1).foldl f x=f ((is.map fun i=>(m.getD i default).1).foldl f x) (m.getD i default).1:=by
    rw [List.map_append,List.foldl_append];rfl
   have hlv2:live ((is.map fun i=>(m.getD i default).1).foldl f x) ((m.length - (is.length+1))+1):=by rwa [show m.length - (is.length+1)+1=m.length - is.length by omega]
   generalize hv:(m.getD i default).1=v at *
   have hyl:=hy _ v _ _ _ hvm hlv2 hS3
   simp only [lA,seval,hit3]
   rw [f6]
   refine ent_i i b' rfl hb' hkx hvx ?_
   simp only [lA,seval]
   refine yld_i hyl ?_
   rintro _ H4 ⟨rfl,hb5⟩
   simp only [lA,seval]
   refine back_i (is++[i],H4) ⟨hn2,hlt2,?_,?_,?_,?_⟩ (by simp only [List.length_append,List.length_cons,List.length_nil];omega) (Ent.fr (by simp [FrSub,Go.Al.get]))
   . rw [hfold]
     simp only [List.length_append,List.length_cons,List.length_nil]
     exact hl _ _ _ hlv2
   . rw [hfold]
     refine ⟨hG.weak _ _ _ _ hb5.1 fun i hi=>.inl hi,?_,fun i hi=>?_⟩
     . have:=hb5.2.1
       have:=hbd.2.1
       simp only
       omega
     . rw [hb5.2.2 i (.inl hi)]
       exact hbd3 i hi
   . rw [hfold]
     exact hb5.1
   . rw [hb5.2.2 _ (.inr rfl),hit3,List.map_append]
     simp only [List.map_cons,List.map_nil,hbi]
def mc60:MC:=(.seq (.ops [pY 2]) (.seq (.ops [pM 4 0,pV 5 110 4,pM 3 5]) (.seq (.ops [pM 6 3,pV 7 111 6]) (.seq (.ops [pM 8 3,pM 2 8]) .ret))))
theorem ok60:FnOk E 60 9 [.tmp 2] mc60:=ofk func60
def mc110:MC:=(.seq (.ops [pY 2]) (.seq (.ops [pM 3 0,(none,.e (.call (some 4) 133 [.c (.raw (.slice none 0 0)),.t 3])),pM 2 4]) .ret))
theorem ok110:FnOk E 110 5 [.tmp 2] mc110:=ofk func110
def mc133:MC:=(.seq (.ops [pK 2 0,pY 4]) (.seq (.seq (.ops [pM 6 1]) (.block 0 (.rngf (.t 6) #[7] (.ops [pM 5 7]) (.block 1 (.ops [pL 8 2,pM 9 5,(none,.e (.mkl 10 3 1 1 (.int .i64 0) [(0,.t 9)])),(none,.e (.app 11 3 1 8 (.t 8) (.t 10))),(none,.e (.store 1 false (.t 2) (.t 11)))]))))) (.seq (.ops [pL 12 2,pM 4 12]) .ret)))
theorem ok133:FnOk E 133 13 [.tmp 4] mc133:=ofk func133
theorem pa_ints {H:List AObj} {l:List Nat} {bor:Bool} {n:Nat} {xs:List Int}:(xs.map (AV.int .i64)).map (pa H l bor n)=xs.map (AV.int .i64):=map_same (fun _=>by simp [pa_int]) xs
def NewL (H0:List AObj) (l:List Int) (r:AV) (H:List AObj):Prop:=Ext H0 H/\((l=[]/\r=.raw (.slice none 0 0))\/∃ a,r=.slc a 1 l.length/\H0.length<=a/\H[a]?=some (.arr 3 1 (l.map (AV.int .i64))))
theorem c133w {α:Type} [Inhabited α] (av:α->AV) (m:List (Int × α)) (bs:List Nat) (c:Nat) (hw:WfM m.length bs c) (hc:m.length<=1048576) {g:FuncId} (hg:KeysG g) {H0:List AObj} {b mid:Nat} (hb:H0[b]?=some (.box [.mp mid])) (hM:H0[mid]?=some (.map (kM m) (vM av m) bs c)) :
 ACalls E.P 133 [.raw (.slice none 0 0),.fn (.func g) [] [.op b 0]] H0 (fun r H=>∃ l:List Int,l.Perm (m.map (·.1))/\NewL H0 l r H):=by
 have hmax:=maxLen_eq
 generalize hn:H0.length=n at *
 have hbl:=at_lt hb
 have hml:=at_lt hM
 refine ok133.acalls0 hE hm (by simp) fun N hN=>?_
 unfold mc133 pK pY pM pL
 simp only [lA,seval]
 rw [hn]
 refine rng_i hN [(2,.op n 0)] (by simp [FrSub,Go.Al.get]) fun fn cas bd hy=>?_
 simp only [List.length_append,List.length_cons,List.length_nil,hn]
 let lo:LoopState->AObj:=fun st=>.loop st none [(2,.op n 0)] N.n fn #[7] cas bd
 let F:List AObj:=H0++[.dead]++[lo .ready]
 have hFl:F.length=n+2:=by simp [F,hn]
 have hF1:F[n+1]?=some (lo .ready):=by simp [F,<- hn]
 have hF0:∀ i,i<n->F[i]?=H0[i]?:=fun i hi=>by simp only [F];rw [at_app _ _ _ (by simp;omega),at_app _ _ _ (by omega)]
 have hG:Grows (colW (AV.int .i64) 3 1 F n):=colW_grows F n
 have hY:∀ (x:List Int) (v:Int) (k:Nat) (G:Nat->Prop) (H:List AObj),v ∈ m.map (·.1)->x.length+(k+1)<=1048576->colW (AV.int .i64) 3 1 F n x G H->AYield E.P (n+1) [.int .i64 v] H (fun r H'=>r=.bool true/\Bhd (colW (AV.int .i64) 3 1 F n) (x++[v]) G H H'):=by
  rintro x v k G H _ hk hS
  have h3:H[n+1]?=some (lo .ready):=(hS.1 (n+1) (by omega) (by omega)).trans hF1
  have hlen:=hS.2.2.2.1
  refine hy (n+1) [(2,.op n 0)] [.int .i64 v] H _ h3 rfl fun N2 hN2=>?_
  have hlen4:n+2<=H.length:=by omega
  simp only [lA,seval,get_last,set_last]
  refine ⟨h3,?_⟩
  obtain ⟨H1,hH1⟩:∃ H1,H1=H.set (n+1) (.loop .busy none [(2,.op n 0)] N.n fn #[7] cas bd):=⟨_,rfl⟩
  have hf31:H1[n+1]?=some (lo .busy):=by rw [hH1];exact at_same _ _ _ (by omega)
  have hlen1:H1.length=H.length:=by rw [hH1];simp
  have hSb:colW (AV.int .i64) 3 1 (F.set (n+1) (lo .busy)) n x G H1:=by rw [hH1];exact colW_put (lo .busy) hS (n:=n+1) (by omega) (by omega)
  have hback:∀ x' H',Bhd (colW (AV.int .i64) 3 1 (F.set (n+1) (lo .busy)) n) x' G H1 H'->Bhd (colW (AV.int .i64) 3 1 F n) x' G H (H'.set (n+1) (lo .ready)):=fun x' H' h =>
   colW_back (lo .ready) (lo .busy) ⟨x,hS⟩ (by rw [hH1] at h;exact h) (by omega) (by omega) hF1
  rw [<- hH1]
  clear hH1
  have hq:=hSb.2.2.2.2
  rcases hq with ⟨rfl,h1⟩ | ⟨a,a1,a2,a3,a4,a5⟩
  . have g1:∀ o o',(H1++[o]++[o'])[n]?=some (.box [.raw (.slice none 0 0)]):=fun o o'=>by rw [at_app _ _ n (by simp <;> omega),at_app _ _ n (by omega)];exact h1
    repeat' (first|(with_reducible first|(apply St.o;constructor)<;>intro _|refine ai ?_|(apply Sq.o;constructor))|((with_reducible refine keep0_i ?_);simp only [lP,seval])|simp (disch:=omega) only [lE,seval,h1,g1,get_last,fillE,setAll,List.length_cons,List.length_nil,List.length_append])
    refine round_i (o:=fun st pd=>.loop st pd [(2,.op n 0)] N.n fn #[7] cas bd) (by rw [at_set _ _ n (n+1) (by omega),at_app _ _ (n+1) (by simp <;> omega),at_app _ _ (n+1) (by omega)];exact hf31) ⟨rfl,?_⟩
    exact hback _ _ (colW_one v _ hSb)
  . have ha2:n+2<=a:=by rw [List.length_set] at a1;omega
    have g1:∀ o o',((H1++[o]).set a .dead++[o'])[n]?=some (.box [.slc a 1 x.length]):=fun o o'=>by rw [at_app _ _ n (by simp <;> omega),at_set _ _ a n (by omega),at_app _ _ n (by omega)];exact a4
    have g2:∀ o,(H1++[o])[a]?=some (.arr 3 1 (x.map (AV.int .i64))):=fun o=>by rw [at_app _ _ a (by omega)];exact a5
    repeat' (first|(with_reducible first|(apply St.o;constructor)<;>intro _|refine ai ?_|(apply Sq.o;constructor))|((with_reducible refine keep0_i ?_);simp only [lP,seval])|simp (disch:=omega) only [lE,seval,a4,g1,g2,get_last,fillE,setAll,List.length_map,List.length_cons,List.length_nil,List.length_append,List.length_set])
    refine round_i (o:=fun st pd=>.loop st pd [(2,.op n 0)] N.n fn #[7] cas bd) (by rw [at_set _ _ n (n+1) (by omega),at_app _ _ (n+1) (by simp <;> omega),at_set _ _ a (n+1) (by omega),at_app _ _ (n+1) (by omega)];exact hf31) ⟨rfl,?_⟩
    have:=colW_snoc v (.arr 3 1 [.int .i64 v]) hSb a1 a2 a3
    exact hback _ _ this
 have hg0:=hg (S:=colW (AV.int .i64) 3 1 F n) (id:=n+1) hG (fun x G H i o h hi=>colW_at i o h hi) (fun x v=>x++[v]) av m bs c hw b mid (fun x G H h=>⟨((h.1 b (by omega) (by omega)).trans (hF0 b (by omega))).trans hb,((h.1 mid (by omega) (by omega)).trans (hF0 mid (by omega))).trans hM⟩)
  (fun x k=>x.length+k<=1048576) (fun x v k h=>by simp only [List.length_append,List.length_cons,List.length_nil];omega) hY [] (by simpa using hc) (fun _=>False)
  (H0++[.box [.raw (.slice none 0 0)]]++[lo .ready]) ⟨fun i h1 h2=>by
    by_cases hi:i<n
    . rw [hF0 i hi,at_app _ _ _ (by simp;omega),at_app _ _ _ (by omega)]
    . obtain rfl:i=n+1:=by omega
      rw [hF1];simp [<- hn],fun i h=>h.elim,by omega,by simp [F],.inl ⟨rfl,by simp [<- hn]⟩⟩
 refine ⟨_,hg0,?_⟩
 rintro r H' ⟨l,hp,⟨h0,_,_,h3,hx⟩,_,_⟩
 rw [fold_snocH,List.nil_append] at hx
 have e3:H'[n+1]?=some (lo .ready):=(h0 (n+1) (by omega) (by omega)).trans hF1
 have hpre:∀ K:List AObj,(∀ i,i<n->K[i]?=H'[i]?)->n<=K.length->Ext H0 K:=fun K hk hl=>⟨by omega,fun i hi _=>(hk i (by omega)).trans ((h0 i (by omega) (by omega)).trans (hF0 i (by omega)))⟩
 have hl2:(H'.set (n+1) .lost).length=H'.length:=by simp
 have hxx:=hpre (H'.set (n+1) .lost) (fun i hi=>at_set _ _ _ _ (by omega)) (by omega)
 refine ⟨.ready,none,[(2,.op n 0)],e3,by simp,[(2,.op n 0)],H'.set (n+1) .lost,Ent.fr (by simp [FrSub,Go.Al.get]),?_⟩
 rcases hx with ⟨rfl,h1⟩ | ⟨a,a1,a2,_,a4,a5⟩
 . have g2:(H'.set (n+1) .lost)[n]?=some (.box [.raw (.slice none 0 0)]):=by rw [at_set _ _ (n+1) n (by omega)];exact h1
   generalize H'.set (n+1) .lost=H2 at *
   repeat' (first|(with_reducible first|(apply St.o;constructor)<;>intro _|refine ai ?_|(apply Sq.o;constructor))|simp (disch:=omega) only [lE,seval,g2])
   exact ⟨[],hp,hxx,.inl ⟨rfl,rfl⟩⟩
 . have g2:(H'.set (n+1) .lost)[n]?=some (.box [.slc a 1 l.length]):=by rw [at_set _ _ (n+1) n (by omega)];exact a4
   have ga:(H'.set (n+1) .lost)[a]?=some (.arr 3 1 (l.map (AV.int .i64))):=by rw [at_set _ _ (n+1) a (by omega)];exact a5
   generalize H'.set (n+1) .lost=H2 at *
   repeat' (first|(with_reducible first|(apply St.o;constructor)<;>intro _|refine ai ?_|(apply Sq.o;constructor))|simp (disch:=omega) only [lE,seval,g2])
   exact ⟨l,hp,hxx,.inr ⟨a,rfl,by omega,ga⟩⟩
theorem c110w {α:Type} [Inhabited α] (av:α->AV) (m:List (Int × α)) (bs:List Nat) (c:Nat) (hw:WfM m.length bs c) (hc:m.length<=1048576) {g:FuncId} (hg:KeysG g) {H0:List AObj} {b mid:Nat} (hb:H0[b]?=some (.box [.mp mid])) (hM:H0[mid]?=some (.map (kM m) (vM av m) bs c)) :
 ACalls E.P 110 [.fn (.func g) [] [.op b 0]] H0 (fun r H=>∃ l:List Int,l.Perm (m.map (·.1))/\NewL H0 l r H):=by
 have h133:=c133w av m bs c hw hc hg hb hM
 refine ok110.acalls0 hE hm (by simp) fun N hN=>?_
 unfold mc110 pY pM
 simp only [lA,seval]
 repeat' (first|(with_reducible first|(apply St.o;constructor)<;>intro _|refine ai ?_|(apply Sq.o;constructor))|simp (disch:=omega) only [lE,seval])
 refine callW_i h133 ?_
 rintro r H ⟨l,hp,hl⟩
 repeat' (first|(with_reducible first|(apply St.o;constructor)<;>intro _|refine ai ?_|(apply Sq.o;constructor))|simp (disch:=omega) only [lE,seval])
 exact ⟨l,hp,hl⟩
def srt (zs:List Int):List Int:=zs.mergeSort fun x y=>decide (x<=y)
theorem srt_len (zs:List Int):(srt zs).length=zs.length:=by simp [srt]
theorem srt_perm (zs:List Int):(srt zs).Perm zs:=List.mergeSort_perm _ _
theorem srt_asc (zs:List Int):(srt zs).Pairwise fun x y=>x<=y:=by
 have:=List.pairwise_mergeSort (le:=fun x y:Int=>decide (x<=y)) (by intro a b c h1 h2;simp only [decide_eq_true_eq] at *;omega) (by intro a b;simp only [Bool.or_eq_true,decide_eq_true_eq];omega) zs
 exact this.imp fun {a b} h=>by simpa using h
theorem srt_congr {l l':List Int} (h:l.Perm l'):srt l=srt l' :=
 (((srt_perm l).trans h).trans (srt_perm l').symm).eq_of_pairwise (fun a b _ _ h1 h2=>by omega) (srt_asc l) (srt_asc l')
theorem bodied111:Bodied E.P 111:=⟨_,Tryz.func111,by kernel_rfl,by kernel_rfl⟩
theorem c111 (zs:List Int) (h:zs.length<4611686018427387904):ACalls E.P 111 [.slc 0 1 zs.length] [.arr 3 1 (zs.map (AV.int .i64))] (fun r H=>r=.tup []/\H=[.arr 3 1 ((srt zs).map (AV.int .i64))]) :=
 bridge_ints (R:=none) bodied111 (srt_len zs) (fun m hm=>by cases hm) (fun _ p cap w=>Tryz.slices_Sort_int_none p cap w)
  (fun blk cap w _ hH hb _ _=>Tryz.slices_Sort_int blk 0 cap zs w hH hb h)
theorem nil_call {P:Program} {f:FuncId} {r:AV} {v:Value} (hb:Bodied P f) (hr:∀ γ σ,RepV γ σ r v) (h:∀ w,Calls P f #[.slice none 0 0] w fun e w'=>e=.returned v/\w'=w):ACalls P f [.raw (.slice none 0 0)] [] (fun q H=>q=r/\H=[]) :=
 ⟨hb,fun γ σ w vs hi hv=>by
   obtain ⟨u,_,rfl,hu,rfl⟩:=hv
   have hu:u=.slice none 0 0:=hu
   subst hu
   refine (h w).mono ?_
   rintro e w' ⟨rfl,rfl⟩
   exact ⟨_,γ,σ,_,_,rfl,.refl _ _ _,hi,hr γ σ,rfl,rfl⟩⟩
theorem c111nil:ACalls E.P 111 [.raw (.slice none 0 0)] [] (fun q H=>q=.tup []/\H=[]):=nil_call (v:=.tuple #[]) bodied111 (fun _ _=>⟨[],rfl,rfl⟩) (fun w=>Tryz.slices_Sort_int_none none 0 w)
theorem c60w {α:Type} [Inhabited α] (av:α->AV) (m:List (Int × α)) (bs:List Nat) (c:Nat) (hw:WfM m.length bs c) (hc:m.length<=1048576) {g:FuncId} (hg:KeysG g) {H0:List AObj} {b mid:Nat} (hb:H0[b]?=some (.box [.mp mid])) (hM:H0[mid]?=some (.map (kM m) (vM av m) bs c)) :
 ACalls E.P 60 [.fn (.func g) [] [.op b 0]] H0 (fun r H=>NewL H0 (srt (keysM m)) r H):=by
 have h110:=c110w av m bs c hw hc hg hb hM
 have h111n:=c111nil
 refine ok60.acalls0 hE hm (by simp) fun N hN=>?_
 unfold mc60 pY pM pV
 simp only [lA,seval]
 repeat' (first|(with_reducible first|(apply St.o;constructor)<;>intro _|refine ai ?_|(apply Sq.o;constructor))|simp (disch:=omega) only [lE,seval])
 refine callW_i h110 ?_
 rintro r H ⟨l,hp,hx,⟨rfl,rfl⟩ | ⟨a,rfl,ha,hal⟩⟩
 . have he:srt (keysM m)=[]:=by rw [keysM,<- srt_congr hp];simp [srt]
   repeat' (first|(with_reducible first|(apply St.o;constructor)<;>intro _|refine ai ?_|(apply Sq.o;constructor))|((with_reducible apply Sc.o true;constructor);simp only [lP,seval];refine ⟨_,h111n,?_⟩;rintro _ _ ⟨rfl,rfl⟩;simp only [lA,lP,seval])|simp (disch:=omega) only [lE,seval])
   exact ⟨hx,.inl ⟨he,rfl⟩⟩
 . have h111:=c111 l (by rw [hp.length_eq,List.length_map];omega)
   have hsl:=srt_len l
   have hall:=at_lt hal
   have hp1:pos [a] a 0=some 0:=by simp [pos]
   repeat' (first|(with_reducible first|(apply St.o;constructor)<;>intro _|refine ai ?_|(apply Sq.o;constructor))|simp (disch:=omega) only [lE,seval])
   refine callN_i [a] false (by simpa using hall) (by simp) ?_
   simp only [lP,seval,hp1,hal,pa_ints]
   refine ⟨_,h111,?_⟩
   rintro _ _ ⟨rfl,rfl⟩
   simp only [lA,lP,seval]
   have he:srt (keysM m)=srt l:=by rw [keysM,srt_congr hp]
   refine ⟨hx.trans (O':=fun i=>i=a) (Stay.set rfl) fun i hi h=>by omega,.inr ⟨a,?_,ha,?_⟩⟩
   . rw [he,hsl]
   . rw [he];exact at_same _ _ _ hall
end Go.Proofs.Try
