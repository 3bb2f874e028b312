/-
 A part of the proof.
-/
import Derived.Test.YtfhoeghdioofmaaGreatAlphaJ
set_option linter.unusedSimpArgs false
set_option linter.unusedVariables false
namespace Go.Al
theorem get_last {L:List AObj} {o:AObj}:(L++[o])[L.length]?=some o:=by simp
theorem set_last {L:List AObj} {o o':AObj}:(L++[o]).set L.length o'=L++[o']:=by simp
theorem at_app (L:List AObj) (o:AObj) (i:Nat) (hi:i<L.length):(L++[o])[i]?=L[i]?:=List.getElem?_append_left hi
theorem at_set (L:List AObj) (o:AObj) (i j:Nat) (hi:i≠j):(L.set i o)[j]?=L[j]?:=List.getElem?_set_ne hi
theorem at_same (L:List AObj) (o:AObj) (i:Nat) (hi:i<L.length):(L.set i o)[i]?=some o:=by simp [hi]
def Bhd {X:Type} (S:X->(Nat->Prop)->List AObj->Prop) (x:X) (G:Nat->Prop) (H H':List AObj):Prop:=S x G H'/\H.length<=H'.length/\∀ i,G i->H'[i]?=H[i]?
theorem Bhd.trans {X:Type} {S:X->(Nat->Prop)->List AObj->Prop} {x y:X} {G:Nat->Prop} {H H1 H2:List AObj} (h:Bhd S x G H H1) (k:Bhd S y G H1 H2):Bhd S y G H H2:=⟨k.1,Nat.le_trans h.2.1 k.2.1,fun i hi=>(k.2.2 i hi).trans (h.2.2 i hi)⟩
structure Grows {X:Type} (S:X->(Nat->Prop)->List AObj->Prop):Prop where
 push:∀ x G H o,S x G H->S x (fun i=>G i\/i=H.length) (H++[o])
 weak:∀ x G G' H,S x G H->(∀ i,G' i->G i)->S x G' H
 lt:∀ x G H i,S x G H->G i->i<H.length
section
variable {X:Type} {S:X->(Nat->Prop)->List AObj->Prop} {id:Nat}
theorem Grows.own (hG:Grows S) {x y:X} {G:Nat->Prop} {H H1:List AObj} {o:AObj} (hs:S x G H) (h:Bhd S y (fun i=>G i\/i=H.length) (H++[o]) H1):Bhd S y G H H1/\H1[H.length]?=some o:=by
 obtain ⟨h1,h2,h3⟩:=h
 simp at h2
 refine ⟨⟨hG.weak _ _ _ _ h1 (fun i hi=>.inl hi),by omega,fun i hi=>?_⟩,?_⟩
 . rw [h3 i (.inl hi),List.getElem?_append_left (hG.lt _ _ _ _ hs hi)]
 . rw [h3 _ (.inr rfl)];simp
theorem Grows.skip (hG:Grows S) {x:X} {G:Nat->Prop} {H:List AObj} {o:AObj} (hs:S x G H):Bhd S x G H (H++[o]) :=
 ⟨hG.weak _ _ _ _ (hG.push _ _ _ o hs) (fun i hi=>.inl hi),by simp,fun i hi=>by rw [List.getElem?_append_left (hG.lt _ _ _ _ hs hi)]⟩
end
section
variable {α:Type} (av:α->AV) (E:TypeId) (sz:Nat)
def colW (F:List AObj) (q:Nat) (x:List α) (G:Nat->Prop) (H:List AObj):Prop :=
 (∀ i,i<F.length->i≠q->H[i]?=F[i]?)/\(∀ i,G i->F.length<=i/\i<H.length)/\q<F.length/\F.length<=H.length /\
   ((x=[]/\H[q]?=some (.box [.raw (.slice none 0 0)]))\/∃ a,F.length<=a/\a<H.length/\¬ G a/\H[q]?=some (.box [.slc a sz x.length])/\H[a]?=some (.arr E sz (x.map av)))
variable {av} {E} {sz}
theorem colW_grows (F:List AObj) (q:Nat):Grows (colW av E sz F q) where
 push:=fun x G H o ⟨h0,hg,hq,h3,h⟩=>by
  refine ⟨fun i hi hne=>by rw [at_app _ _ i (by omega)];exact h0 i hi hne,fun i hi=>?_,hq,by simp <;> omega,?_⟩
  . rcases hi with hi | rfl
    . have:=hg i hi;simp;omega
    . simp;omega
  . rcases h with ⟨hx,h1⟩ | ⟨a,a1,a2,a3,a4,a5⟩
    . exact .inl ⟨hx,by rw [at_app _ _ q (by omega)];exact h1⟩
    . refine .inr ⟨a,a1,by simp;omega,fun hc=>?_,by rw [at_app _ _ q (by omega)];exact a4,by rw [at_app _ _ a a2];exact a5⟩
      rcases hc with hc | hc
      . exact a3 hc
      . omega
 weak:=fun x G G' H ⟨h0,hg,hq,h3,h⟩ hw=>by
  refine ⟨h0,fun i hi=>hg i (hw i hi),hq,h3,?_⟩
  rcases h with h | ⟨a,a1,a2,a3,a4⟩
  . exact .inl h
  . exact .inr ⟨a,a1,a2,fun hc=>a3 (hw a hc),a4⟩
 lt:=fun x G H i ⟨_,hg,_⟩ hi=>(hg i hi).2
theorem colW_one {F:List AObj} {q:Nat} {x:List α} {G:Nat->Prop} {H:List AObj} (v:α) (o1:AObj) (h:colW av E sz F q x G H) :
 Bhd (colW av E sz F q) [v] G H ((H++[o1]++[AObj.arr E sz [av v]]).set q (.box [.slc (H.length+1) sz 1])):=by
 obtain ⟨h0,hg,hq,h3,_⟩:=h
 refine ⟨⟨fun i hi hne=>by rw [at_set _ _ q i (by omega),at_app _ _ i (by simp;omega),at_app _ _ i (by omega)];exact h0 i hi hne,fun i hi=>⟨(hg i hi).1,by have:=(hg i hi).2;simp;omega⟩,hq,by simp <;> omega,.inr ⟨H.length+1,by omega,by simp,fun hG=>by have:=(hg _ hG).2;omega,?_,?_⟩⟩,by simp <;> omega,fun i hi=>?_⟩
 . rw [at_same _ _ q (by simp;omega)];simp
 . rw [at_set _ _ q _ (by omega)];simp
 . obtain ⟨g3,g4⟩:=hg i hi
   rw [at_set _ _ q i (by omega),at_app _ _ i (by simp;omega),at_app _ _ i (by omega)]
theorem colW_snoc {F:List AObj} {q a:Nat} {x:List α} {G:Nat->Prop} {H:List AObj} (v:α) (o1:AObj) (h:colW av E sz F q x G H) (ha:F.length<=a) (hl:a<H.length) (hn:¬ G a) :
 Bhd (colW av E sz F q) (x++[v]) G H (((H++[o1]).set a .dead++[AObj.arr E sz (x.map av++[av v])]).set q (.box [.slc (H.length+1) sz (x.length+1)])):=by
 obtain ⟨h0,hg,hq,h3,_⟩:=h
 refine ⟨⟨fun i hi hne=>by rw [at_set _ _ q i (by omega),at_app _ _ i (by simp;omega),at_set _ _ a i (by omega),at_app _ _ i (by omega)];exact h0 i hi hne,fun i hi=>⟨(hg i hi).1,by have:=(hg i hi).2;simp;omega⟩,hq,by simp;omega,.inr ⟨H.length+1,by omega,by simp,fun hG=>by have:=(hg _ hG).2;omega,?_,?_⟩⟩,by simp;omega,fun i hi=>?_⟩
 . rw [at_same _ _ q (by simp;omega)];simp
 . rw [at_set _ _ q _ (by omega)];simp
 . obtain ⟨g3,g4⟩:=hg i hi
   have hia:a≠i:=fun h=>hn (h ▸ hi)
   rw [at_set _ _ q i (by omega),at_app _ _ i (by simp;omega),at_set _ _ a i hia,at_app _ _ i (by omega)]
theorem colW_put {F:List AObj} {q n:Nat} {x:List α} {G:Nat->Prop} {H:List AObj} (o:AObj) (h:colW av E sz F q x G H) (hn:n<F.length) (hq:n≠q):colW av E sz (F.set n o) q x G (H.set n o):=by
 obtain ⟨h0,hg,hq',h3,h⟩:=h
 refine ⟨fun i hi hne=>?_,fun i hi=>?_,by simpa using hq',by simpa using h3,?_⟩
 . by_cases hin:n=i
   . subst hin
     rw [at_same _ _ n (by omega),at_same _ _ n (by omega)]
   . rw [at_set _ _ n i hin,at_set _ _ n i hin]
     exact h0 i (by simpa using hi) hne
 . simpa using hg i hi
 . rcases h with ⟨hx,h1⟩ | ⟨a,a1,a2,a3,a4,a5⟩
   . exact .inl ⟨hx,by rw [at_set _ _ n q hq];exact h1⟩
   . exact .inr ⟨a,by simpa using a1,by simpa using a2,a3,by rw [at_set _ _ n q hq];exact a4,by rw [at_set _ _ n a (by omega)];exact a5⟩
theorem colW_back {F:List AObj} {q n:Nat} {x:List α} {G:Nat->Prop} {H H':List AObj} (o o':AObj) (hs:∃ y,colW av E sz F q y G H) (h:Bhd (colW av E sz (F.set n o') q) x G (H.set n o') H') (hn:n<F.length) (hq:n≠q) (ho:F[n]?=some o):Bhd (colW av E sz F q) x G H (H'.set n o):=by
 obtain ⟨h1,h2,h3⟩:=h
 obtain ⟨y,_,hg,_⟩:=hs
 have e:(F.set n o').set n o=F:=by
  rw [List.set_set]
  refine List.ext_getElem? fun i=>?_
  by_cases hin:n=i
  . subst hin;rw [at_same _ _ n (by omega),ho]
  . rw [at_set _ _ n i hin]
 have:=colW_put o h1 (by simpa using hn) hq
 rw [e] at this
 refine ⟨this,by simpa using h2,fun i hi=>?_⟩
 have:=(hg i hi).1
 rw [at_set _ _ n i (by omega),h3 i hi,at_set _ _ n i (by omega)]
end
end Go.Al
namespace Go.Al
theorem RepVs.setx {γ:Gm} {σ:Sg} {y:AV}:∀ {xs:List AV} {vs:List Value} (n:Nat),RepVs γ σ xs vs->(∀ u,vs[n]?=some u->RepV γ σ y u)->RepVs γ σ (xs.set n y) vs
 | [],vs,n,h,_=>by simpa using h
 | x::xs,vs,0,h,hy=>by
   obtain ⟨v,vs',rfl,h1,h2⟩:=repVs_cons.1 h
   exact repVs_cons.2 ⟨v,vs',rfl,hy v rfl,h2⟩
 | x::xs,vs,n+1,h,hy=>by
   obtain ⟨v,vs',rfl,h1,h2⟩:=repVs_cons.1 h
   exact repVs_cons.2 ⟨v,vs',rfl,h1,RepVs.setx n h2 fun u hu=>hy u hu⟩
theorem Ent.ghostB {m:Nat} {N:FN} {fr:List (Nat × AV)} {H:List AObj} (b0 k:Nat) (E:TypeId) (sz:Nat) (h0:0<sz) {cs:List AV} (hb:H[b0]?=some (.box cs)) (hk:cs[k]?=some (.raw (.slice none 0 0))) :
 Ent m N ⟨fr,H⟩ ⟨fr,H.set b0 (.box (cs.set k (.slc H.length sz 0)))++[.arr E sz []]⟩:=by
 intro γ σ w a hr
 have hi:=hr.inv
 have hnew:∀ (i:Nat) e,(σ++[some (none,0)])[i]?=some e->σ[i]?=some e\/(i=σ.length/\e=some (none,0)):=by
  intro i e hi
  rw [List.getElem?_append] at hi
  split at hi
  . exact .inl hi
  . have:i - σ.length=0:=by
     rcases Nat.eq_zero_or_pos (i - σ.length) with h0 | h0
     . exact h0
     . rw [List.getElem?_eq_none (by simp;omega)] at hi;cases hi
    rw [this] at hi
    simp at hi
    exact .inr ⟨by omega,hi.symm⟩
 have hst:Step m γ σ w γ (σ++[some (none,0)]) w:=by
  refine ⟨fun _ _ h=>h,Nat.le_refl _,fun _ _ _=>⟨rfl,rfl⟩,?_,rfl,rfl,rfl,Nat.le_refl _,fun i e _ h=>Sg.le_append _ _ i e h⟩
  rintro b ⟨i,c,hs⟩
  rcases hnew i _ hs with h1 | ⟨_,h1⟩
  . exact .inl ⟨i,c,h1⟩
  . cases h1
 refine ⟨γ,σ++[some (none,0)],hst,⟨⟨hi.mem,?_,?_,by simp [hi.len],?_,hi.glob⟩,repF_mono hr.fr (fun _ _ h=>h) (Sg.le_append _ _),hr.defers.step hst,hr.size⟩⟩
 . intro i b c hs
   rcases hnew i _ hs with h1 | ⟨_,h1⟩
   . exact hi.own i b c h1
   . cases h1
 . intro i j b c c' h1 h2
   rcases hnew i _ h1 with h1 | ⟨_,h1⟩
   . rcases hnew j _ h2 with h2 | ⟨_,h2⟩
     . exact hi.inj i j b c c' h1 h2
     . cases h2
   . cases h1
 . intro i o e ho he
   rcases hnew i _ he with h1 | ⟨rfl,rfl⟩
   . have hlt:i<H.length:=by rw [<- hi.len];exact (List.getElem?_eq_some_iff.1 h1).1
     rw [List.getElem?_append_left (by simpa using hlt)] at ho
     by_cases hib:b0=i
     . subst hib
       rw [List.getElem?_set_self hlt] at ho
       cases ho
       have hold:=(hi.obj b0 _ e hb h1).mono (γ':=γ) (w':=w) (fun _ _ h=>h) (Sg.le_append σ [some (none,0)]) fun _ _ _=>rfl
       match e,hold with
       | some (some b,c),hold =>
         obtain ⟨vs,E',h2,h3,h4⟩:=hold
         refine ⟨vs,E',h2,RepVs.setx k h3 fun u hu=>?_,h4⟩
         obtain ⟨u',h5,h6⟩:=h3.get k _ hk
         rw [hu] at h5
         cases h5
         simp only [RepV] at h6
         subst h6
         exact ⟨some (none,0),by rw [<- hi.len];simp,rfl,fun blk cap he=>by cases he;simp⟩
       | some (none,c),hold=>exact hold.elim
       | none,hold=>exact hold.elim
     . rw [List.getElem?_set_ne hib] at ho
       exact (hi.obj i o e ho h1).mono (fun _ _ h=>h) (Sg.le_append _ _) fun _ _ _=>rfl
   . rw [List.getElem?_append_right (by rw [List.length_set,hi.len];exact Nat.le_refl _)] at ho
     rw [hi.len,List.length_set,Nat.sub_self] at ho
     simp at ho
     subst ho
     exact ⟨[],by simp [RepVs],by simp,h0,by simp,by simp [flat],.inl ⟨rfl,by simp [flat]⟩⟩
end Go.Al
namespace Go.Al
theorem inv_ghostB {m:Nat} {γ:Gm} {σ:Sg} {w:World} {H:List AObj} (hi:Inv γ σ w H) (b0 k:Nat) (E:TypeId) (sz:Nat) (h0:0<sz) {cs:List AV} (hb:H[b0]?=some (.box cs)) (hk:cs[k]?=some (.raw (.slice none 0 0))) :
 Inv γ (σ++[some (none,0)]) w (H.set b0 (.box (cs.set k (.slc H.length sz 0)))++[.arr E sz []])/\Step m γ σ w γ (σ++[some (none,0)]) w:=by
 have hnew:∀ (i:Nat) e,(σ++[some (none,0)])[i]?=some e->σ[i]?=some e\/(i=σ.length/\e=some (none,0)):=by
  intro i e hi
  rw [List.getElem?_append] at hi
  split at hi
  . exact .inl hi
  . have:i - σ.length=0:=by
     rcases Nat.eq_zero_or_pos (i - σ.length) with h0 | h0
     . exact h0
     . rw [List.getElem?_eq_none (by simp;omega)] at hi;cases hi
    rw [this] at hi
    simp at hi
    exact .inr ⟨by omega,hi.symm⟩
 have hst:Step m γ σ w γ (σ++[some (none,0)]) w:=by
  refine ⟨fun _ _ h=>h,Nat.le_refl _,fun _ _ _=>⟨rfl,rfl⟩,?_,rfl,rfl,rfl,Nat.le_refl _,fun i e _ h=>Sg.le_append _ _ i e h⟩
  rintro b ⟨i,c,hs⟩
  rcases hnew i _ hs with h1 | ⟨_,h1⟩
  . exact .inl ⟨i,c,h1⟩
  . cases h1
 refine ⟨⟨hi.mem,?_,?_,by simp [hi.len],?_,hi.glob⟩,hst⟩
 . intro i b c hs
   rcases hnew i _ hs with h1 | ⟨_,h1⟩
   . exact hi.own i b c h1
   . cases h1
 . intro i j b c c' h1 h2
   rcases hnew i _ h1 with h1 | ⟨_,h1⟩
   . rcases hnew j _ h2 with h2 | ⟨_,h2⟩
     . exact hi.inj i j b c c' h1 h2
     . cases h2
   . cases h1
 . intro i o e ho he
   rcases hnew i _ he with h1 | ⟨rfl,rfl⟩
   . have hlt:i<H.length:=by rw [<- hi.len];exact (List.getElem?_eq_some_iff.1 h1).1
     rw [List.getElem?_append_left (by simpa using hlt)] at ho
     by_cases hib:b0=i
     . subst hib
       rw [List.getElem?_set_self hlt] at ho
       cases ho
       have hold:=(hi.obj b0 _ e hb h1).mono (γ':=γ) (w':=w) (fun _ _ h=>h) (Sg.le_append σ [some (none,0)]) fun _ _ _=>rfl
       match e,hold with
       | some (some b,c),hold =>
         obtain ⟨vs,E',h2,h3,h4⟩:=hold
         refine ⟨vs,E',h2,RepVs.setx k h3 fun u hu=>?_,h4⟩
         obtain ⟨u',h5,h6⟩:=h3.get k _ hk
         rw [hu] at h5
         cases h5
         simp only [RepV] at h6
         subst h6
         exact ⟨some (none,0),by rw [<- hi.len];simp,rfl,fun blk cap he=>by cases he;simp⟩
       | some (none,c),hold=>exact hold.elim
       | none,hold=>exact hold.elim
     . rw [List.getElem?_set_ne hib] at ho
       exact (hi.obj i o e ho h1).mono (fun _ _ h=>h) (Sg.le_append _ _) fun _ _ _=>rfl
   . rw [List.getElem?_append_right (by rw [List.length_set,hi.len];exact Nat.le_refl _)] at ho
     rw [hi.len,List.length_set,Nat.sub_self] at ho
     simp at ho
     subst ho
     exact ⟨[],by simp [RepVs],by simp,h0,by simp,by simp [flat],.inl ⟨rfl,by simp [flat]⟩⟩
theorem ACalls.ghostB {P:Program} {f:FuncId} {args:List AV} {H:List AObj} {Q:AV->List AObj->Prop} (b0 k:Nat) (E:TypeId) (sz:Nat) (h0:0<sz) {cs:List AV} (hb:H[b0]?=some (.box cs)) (hk:cs[k]?=some (.raw (.slice none 0 0)))
 (h:ACalls P f args (H.set b0 (.box (cs.set k (.slc H.length sz 0)))++[.arr E sz []]) Q):ACalls P f args H Q:=by
 refine ⟨h.1,fun γ σ w vs hi hv=>?_⟩
 obtain ⟨hi',hst⟩:=inv_ghostB (m:=H.length) hi b0 k E sz h0 hb hk
 refine (h.2 γ (σ++[some (none,0)]) w vs hi' (RepVs.mono (fun _ _ h=>h) _ _ _ _ (Sg.le_append _ _) hv)).mono ?_
 rintro e w' ⟨v,γ',σ',r,H',he,hst2,hi2,hr,hq⟩
 refine ⟨v,γ',σ',r,H',he,hst.trans ⟨hst2.le,hst2.size,hst2.keep,hst2.own,hst2.os,hst2.tape,hst2.output,hst2.drawn,fun i e hi he=>hst2.low i e (by simp;omega) he⟩,hi2,hr,hq⟩
end Go.Al
namespace Go.Al
section
variable {E:Env} {m:Nat} {N:FN}
end
section
variable {P:Program} {m:Nat} {N:FN} {d:Nat} {a b:MC} {Q:Exit->AS->Prop} {fr fr':List (Nat × AV)} {H H':List AObj}
end
def WeakL (xs ys:List AV):Prop:=∀ γ σ vs,RepVs γ σ xs vs->RepVs γ σ ys vs
theorem WeakL.refl (xs:List AV):WeakL xs xs:=fun _ _ _ h=>h
theorem WeakL.cons {x y:AV} {xs ys:List AV} (h:Weak x y) (k:WeakL xs ys):WeakL (x::xs) (y::ys):=fun γ σ vs hr=>by
 obtain ⟨v,vs',rfl,h1,h2⟩:=repVs_cons.1 hr
 exact repVs_cons.2 ⟨v,vs',rfl,h _ _ _ h1,k _ _ _ h2⟩
theorem WeakL.agg {xs ys:List AV} (h:WeakL xs ys):Weak (.agg xs) (.agg ys):=fun γ σ v hr=>by
 obtain ⟨vs,h1,h2,h3⟩:=hr
 exact ⟨vs,h1,h _ _ _ h2,h3⟩
theorem WeakL.tup {xs ys:List AV} (h:WeakL xs ys):Weak (.tup xs) (.tup ys):=fun γ σ v hr=>by
 obtain ⟨vs,h1,h2⟩:=hr
 exact ⟨vs,h1,h _ _ _ h2⟩
theorem WeakL.view {sz:Nat} {xs ys:List AV} (h:WeakL xs ys):Weak (.view sz xs) (.view sz ys):=fun γ σ v hr=>by
 obtain ⟨a,n,c,vs,h1,h2,h3⟩:=hr
 exact ⟨a,n,c,vs,h1,h _ _ _ h2,h3⟩
end Go.Al
namespace Go.Al
end Go.Al
namespace Go.Al
section
variable {P:Program} {γ:Gm} {σ:Sg} {w:World} {H:List AObj} {f:FuncId} {args:List AV} {Q:AV->List AObj->Prop}
theorem inv_setB (hi:Inv γ σ w H) {b0 k:Nat} {cs:List AV} {y y':AV} (hb:H[b0]?=some (.box cs)) (hk:cs[k]?=some y) (hw:∀ v,RepV γ σ y v->RepV γ σ y' v):Inv γ σ w (H.set b0 (.box (cs.set k y'))):=by
 refine ⟨hi.mem,hi.own,hi.inj,by simp [hi.len],fun i o e ho he=>?_,hi.glob⟩
 by_cases h:b0=i
 . subst h
   have hlt:b0<H.length:=(List.getElem?_eq_some_iff.1 hb).1
   rw [List.getElem?_set_self hlt] at ho
   cases ho
   have hold:=hi.obj b0 _ e hb he
   match e,hold with
   | some (some b,c),hold =>
     simp only [RepO] at hold ⊢
     obtain ⟨vs,E',h2,h3,h4⟩:=hold
     refine ⟨vs,E',h2,RepVs.setx k h3 fun u hu=>?_,h4⟩
     obtain ⟨u',h5,h6⟩:=h3.get k _ hk
     rw [hu] at h5
     cases h5
     exact hw _ h6
   | some (none,c),hold=>exact hold.elim
   | none,hold=>exact hold.elim
 . rw [List.getElem?_set_ne h] at ho
   exact hi.obj i o e ho he
theorem ACalls.subB (b0 k:Nat) {cs:List AV} {id sz n sz':Nat} {E':TypeId} {xs:List AV} (hb:H[b0]?=some (.box cs)) (hk:cs[k]?=some (.slc id sz n)) (hH:H[id]?=some (.arr E' sz' xs))
 (h:ACalls P f args (H.set b0 (.box (cs.set k (.sub id sz 0 n)))) Q):ACalls P f args H Q:=by
 refine ⟨h.1,fun γ σ w vs hi hv=>?_⟩
 have hi':=inv_setB hi hb hk (y':=.sub id sz 0 n) fun v hv=>slc_sub hi hH hv
 have:=h.2 γ σ w vs hi' hv
 simpa only [List.length_set] using this
theorem ACalls.sub0 {id sz off sz':Nat} {E':TypeId} {xs rest:List AV} (hH:H[id]?=some (.arr E' sz' xs)) (h:∀ a c,ACalls P f (.raw (.slice a 0 c)::rest) H Q):ACalls P f (.sub id sz off 0::rest) H Q :=
 ⟨(h none 0).1,fun γ σ w vs hi hv=>by
   obtain ⟨v,vs',rfl,⟨e,he,_,h2⟩,hv2⟩:=repVs_cons.1 hv
   have ho:=hi.obj id _ e hH he
   match e,he,h2,ho with
   | some (blk,cap),he,h2,ho =>
     obtain ⟨a,rfl,_⟩:=h2 blk cap rfl
     exact (h a _).2 γ σ w _ hi (repVs_cons.2 ⟨_,_,rfl,rfl,hv2⟩)
   | none,he,h2,ho=>exact ho.elim⟩
theorem ACalls.resG (E:TypeId) (sz:Nat) (h0:0<sz) (h:ACalls P f args H fun r H'=>Q r H'\/∃ b0 k cs,H'[b0]?=some (.box cs)/\cs[k]?=some (.raw (.slice none 0 0))/\Q r (H'.set b0 (.box (cs.set k (.sub H'.length sz 0 0)))++[.arr E sz []])):ACalls P f args H Q:=by
 refine ⟨h.1,fun γ σ w vs hi hv=>(h.2 γ σ w vs hi hv).mono ?_⟩
 rintro e w' ⟨v,γ',σ',r,H',he,hst,hi2,hr,hq | ⟨b0,k,cs,hb,hk,hq⟩⟩
 . exact ⟨v,γ',σ',r,H',he,hst,hi2,hr,hq⟩
 . obtain ⟨hi3,hst3⟩:=inv_ghostB (m:=H.length) hi2 b0 k E sz h0 hb hk
   have hbl:b0<H'.length:=(List.getElem?_eq_some_iff.1 hb).1
   have hkl:k<cs.length:=(List.getElem?_eq_some_iff.1 hk).1
   have hb3:(H'.set b0 (.box (cs.set k (.slc H'.length sz 0)))++[AObj.arr E sz []])[b0]?=some (.box (cs.set k (.slc H'.length sz 0))):=by
    rw [List.getElem?_append_left (by simpa using hbl),List.getElem?_set_self hbl]
   have hk3:(cs.set k (.slc H'.length sz 0))[k]?=some (.slc H'.length sz 0):=List.getElem?_set_self hkl
   have hH3:(H'.set b0 (.box (cs.set k (.slc H'.length sz 0)))++[AObj.arr E sz []])[H'.length]?=some (.arr E sz []):=by
    rw [List.getElem?_append_right (by simp)];simp
   have hi4:=inv_setB hi3 hb3 hk3 (y':=.sub H'.length sz 0 0) fun v hv=>slc_sub hi3 hH3 hv
   rw [List.set_append_left _ _ (by simpa using hbl),List.set_set,List.set_set] at hi4
   exact ⟨v,γ',σ'++[some (none,0)],r,_,he,hst.trans hst3,hi4,RepV.mono (fun _ _ h=>h) _ _ _ _ (Sg.le_append _ _) hr,hq⟩
end
end Go.Al
namespace Go.Al
theorem ACalls.view0 {P:Program} {f:FuncId} {sz:Nat} {rest:List AV} {H:List AObj} {Q:AV->List AObj->Prop} (h:∀ a c,ACalls P f (.raw (.slice a 0 c)::rest) H Q):ACalls P f (.view sz []::rest) H Q :=
 ⟨(h none 0).1,fun γ σ w vs hi hv=>by
   obtain ⟨v,vs',rfl,hv1,hv2⟩:=repVs_cons.1 hv
   obtain ⟨a,n,c,us,rfl,h1,h2,_⟩:=hv1
   rw [repVs_nil] at h1
   subst h1
   have hn:n=0:=by simpa using h2.symm
   subst hn
   exact (h a c).2 γ σ w _ hi (repVs_cons.2 ⟨_,_,rfl,rfl,hv2⟩)⟩
end Go.Al
namespace Go.Al
open Classical in
theorem ACalls.ghost {P:Program} {f:FuncId} {args:List AV} {H:List AObj} {Q:AV->List AObj->Prop} (E:TypeId) (sz:Nat) (h0:0<sz)
 (h:ACalls P f args H fun r H'=>(r=.raw (.slice none 0 0)/\Q (.slc H'.length sz 0) (H'++[.arr E sz []]))\/Q r H'):ACalls P f args H Q:=by
 refine ⟨h.1,fun γ σ w vs hi hv=>(h.2 γ σ w vs hi hv).mono ?_⟩
 rintro e w' ⟨v,γ',σ',r,H',he,hst,hi,hr,⟨rfl,hq⟩ | hq⟩
 . have hnew:∀ (i:Nat) e,(σ'++[some (none,0)])[i]?=some e->σ'[i]?=some e\/(i=σ'.length/\e=some (none,0)):=by
    intro i e hi
    rw [List.getElem?_append] at hi
    split at hi
    . exact .inl hi
    . have:i - σ'.length=0:=by
       rcases Nat.eq_zero_or_pos (i - σ'.length) with h0 | h0
       . exact h0
       . rw [List.getElem?_eq_none (by simp;omega)] at hi;cases hi
      rw [this] at hi
      simp at hi
      exact .inr ⟨by omega,hi.symm⟩
   have hst2:Step H.length γ' σ' w' γ' (σ'++[some (none,0)]) w':=by
    refine ⟨fun _ _ h=>h,Nat.le_refl _,fun _ _ _=>⟨rfl,rfl⟩,?_,rfl,rfl,rfl,Nat.le_refl _,fun i e _ h=>Sg.le_append _ _ i e h⟩
    rintro b ⟨i,c,hs⟩
    rcases hnew i _ hs with h1 | ⟨_,h1⟩
    . exact .inl ⟨i,c,h1⟩
    . cases h1
   refine ⟨v,γ',σ'++[some (none,0)],_,_,he,hst.trans hst2,⟨hi.mem,?_,?_,by simp [hi.len],?_,hi.glob⟩,?_,hq⟩
   . intro i b c hs
     rcases hnew i _ hs with h1 | ⟨_,h1⟩
     . exact hi.own i b c h1
     . cases h1
   . intro i j b c c' h1 h2
     rcases hnew i _ h1 with h1 | ⟨_,h1⟩
     . rcases hnew j _ h2 with h2 | ⟨_,h2⟩
       . exact hi.inj i j b c c' h1 h2
       . cases h2
     . cases h1
   . intro i o e ho he
     rcases hnew i _ he with h1 | ⟨rfl,rfl⟩
     . have hlt:i<H'.length:=by rw [<- hi.len];exact (List.getElem?_eq_some_iff.1 h1).1
       rw [List.getElem?_append_left hlt] at ho
       exact (hi.obj i o e ho h1).mono (fun _ _ h=>h) (Sg.le_append _ _) fun _ _ _=>rfl
     . rw [List.getElem?_append_right (by rw [hi.len];exact Nat.le_refl _)] at ho
       rw [hi.len,Nat.sub_self] at ho
       simp at ho
       subst ho
       exact ⟨[],by simp [RepVs],by simp,h0,by simp,by simp [flat],.inl ⟨rfl,by simp [flat]⟩⟩
   . simp only [RepV] at hr
     subst hr
     exact ⟨some (none,0),by rw [<- hi.len];simp,rfl,fun blk cap he=>by cases he;simp⟩
 . exact ⟨v,γ',σ',r,H',he,hst,hi,hr,hq⟩
end Go.Al
namespace Go.Al
theorem ACalls.weakR {P:Program} {f:FuncId} {args:List AV} {H:List AObj} {Q:AV->List AObj->Prop} (h:ACalls P f args H fun r H'=>∃ r',Weak r r'/\Q r' H'):ACalls P f args H Q:=by
 refine ⟨h.1,fun γ σ w vs hi hv=>(h.2 γ σ w vs hi hv).mono ?_⟩
 rintro e w' ⟨v,γ',σ',r,H',he,hst,hi',hr,r',hw,hq⟩
 exact ⟨v,γ',σ',r',H',he,hst,hi',hw _ _ _ hr,hq⟩
end Go.Al
namespace Go.Al
def Flat (xs:List AV):Prop:=∀ (γ:Gm) (σ:Sg) (vs:List Value),RepVs γ σ xs vs->RepVs γ [] xs vs
section
open Classical
variable {γ:Gm} {σ:Sg} {w:World} {H:List AObj} {id:Nat}
noncomputable def gl (γ:Gm) (σ:Sg) (w:World) (id:Nat):Gm:=fun b=>if ∃ c,σ[id]?=some (some (some b,c)) then w.heap[b]? else γ b
theorem gl_le (hi:Inv γ σ w H):γ.le (gl γ σ w id):=fun b o hb=>by
 unfold gl
 split
 . exact hi.mem b o hb
 . exact hb
theorem lend_sg:Sg.le σ (σ.set id none):=fun i e h=>by
 by_cases hi:id=i
 . subst hi
   have:=(List.getElem?_eq_some_iff.1 h).1
   exact .inr (List.getElem?_set_self this)
 . exact .inl (by rw [List.getElem?_set_ne hi];exact h)
theorem kill_ne {i:Nat} {x:Option Nat × Nat} (h:(σ.set id none)[i]?=some (some x)):id≠i/\σ[i]?=some (some x):=by
 by_cases hi:id=i
 . subst hi
   have hl:=(List.getElem?_eq_some_iff.1 h).1
   rw [List.length_set] at hl
   rw [List.getElem?_set_self hl] at h;cases h
 . exact ⟨hi,by rwa [List.getElem?_set_ne hi] at h⟩
theorem gl_ne (hi:Inv γ σ w H) {i b c:Nat} (hne:id≠i) (h:σ[i]?=some (some (some b,c))):gl γ σ w id b=γ b:=by
 unfold gl
 rw [if_neg]
 rintro ⟨c',h'⟩
 exact hne (hi.inj id i b c' c h' h)
theorem inv_kill (hi:Inv γ σ w H):Inv (gl γ σ w id) (σ.set id none) w (H.set id .dead):=by
 refine ⟨fun b o hb=>?_,fun i b c h=>?_,fun i j b c c' h1 h2=>?_,by simp [hi.len],fun i o e ho he=>?_,hi.glob.mono (gl_le hi)⟩
 . unfold gl at hb
   split at hb
   . exact hb
   . exact hi.mem b o hb
 . obtain ⟨hne,h'⟩:=kill_ne h
   obtain ⟨h1,h2⟩:=hi.own i b c h'
   exact ⟨(gl_ne hi hne h').trans h1,h2⟩
 . exact hi.inj i j b c c' (kill_ne h1).2 (kill_ne h2).2
 . by_cases hie:id=i
   . subst hie
     have hl:=(List.getElem?_eq_some_iff.1 ho).1
     rw [List.length_set] at hl
     rw [List.getElem?_set_self hl] at ho
     rw [List.getElem?_set_self (by rw [hi.len];exact hl)] at he
     cases ho;cases he;trivial
   . rw [List.getElem?_set_ne hie] at ho he
     exact (hi.obj i o e ho he).mono (gl_le hi) lend_sg fun _ _ _=>rfl
theorem kill_step {m:Nat} (hi:Inv γ σ w H):Step m γ σ w (gl γ σ w id) (σ.set id none) w:=by
 refine ⟨gl_le hi,Nat.le_refl _,fun b hb hn=>⟨rfl,?_⟩,fun b ⟨i,c,h⟩=>.inl ⟨i,c,(kill_ne h).2⟩,rfl,rfl,rfl,Nat.le_refl _,fun i e _ h=>lend_sg i e h⟩
 unfold gl
 rw [if_neg]
 rintro ⟨c,h⟩
 exact hn ⟨id,c,h⟩
theorem kill_view (hi:Inv γ σ w H) {E:TypeId} {sz:Nat} {xs:List AV} (hH:H[id]?=some (.arr E sz xs)) (hx:Flat xs) {v:Value} (hv:RepV γ σ (.slc id sz xs.length) v) (τ:Sg):RepV (gl γ σ w id) τ (.view sz xs) v:=by
 obtain ⟨e,he,ho⟩:=inv_entry hi hH
 obtain ⟨e',he',h1,h2⟩:=hv
 rw [he] at he';cases he'
 unfold RepO at ho
 split at ho
 . rename_i heq;cases heq
 . rename_i blk cap E2 sz2 xs2 heq
   cases heq
   obtain ⟨vs,h3,h4,h5,h6,h7⟩:=ho
   obtain ⟨rfl,hqc,hcm⟩:=h2 blk cap rfl
   have hlen:=h3.length
   refine ⟨_,_,cap,vs,rfl,RepVs.mono (gl_le hi) _ _ _ _ (Sg.le_refl _) (hx _ _ _ h3),hlen,hqc,hcm,h4,fun hq0=>?_⟩
   have hne:flat vs≠[]:=by
    intro hz
    have hfl:=flat_length h4
    rw [hz] at hfl
    simp only [List.length_nil] at hfl
    have:0<vs.length * sz:=Nat.mul_pos (by omega) h5
    omega
   obtain ⟨b,rfl,hca⟩:=ownsRow_cells h7 hne
   refine ⟨b,0,rfl,?_⟩
   have:gl γ σ w id b=w.heap[b]?:=if_pos ⟨cap,he⟩
   rw [this];exact hca
 all_goals first | (rename_i heq;cases heq;done) | exact ho.elim
theorem ACalls.lendR {P:Program} {f:FuncId} {args:List AV} {Q:AV->List AObj->Prop} (h:ACalls P f args H fun r H'=>∃ a E sz xs,r=.slc a sz xs.length/\H'[a]?=some (.arr E sz xs)/\Flat xs/\Q (.view sz xs) (H'.set a .dead)):ACalls P f args H Q:=by
 refine ⟨h.1,fun γ σ w vs hi hv=>(h.2 γ σ w vs hi hv).mono ?_⟩
 rintro e w' ⟨v,γ',σ',r,H',he,hst,hi',hr,a,E,sz,xs,rfl,hH,hx,hq⟩
 exact ⟨v,gl γ' σ' w' a,σ'.set a none,_,_,he,hst.trans (kill_step hi'),inv_kill hi',kill_view hi' hH hx hr _,hq⟩
theorem RepVs.get':∀ {xs:List AV} {vs:List Value} {n:Nat} {u:Value},RepVs γ σ xs vs->vs[n]?=some u->∃ x,xs[n]?=some x/\RepV γ σ x u
 | [],_,n,u,h,hu=>by rw [repVs_nil] at h;subst h;simp at hu
 | x::xs,_,0,u,h,hu=>by
   obtain ⟨v,vs',rfl,h1,h2⟩:=repVs_cons.1 h
   simp only [List.getElem?_cons_zero,Option.some.injEq] at hu
   subst hu
   exact ⟨x,rfl,h1⟩
 | x::xs,_,n+1,u,h,hu=>by
   obtain ⟨v,vs',rfl,h1,h2⟩:=repVs_cons.1 h
   simp only [List.getElem?_cons_succ] at hu ⊢
   exact RepVs.get' h2 hu
theorem repVs_append:∀ {xs ys:List AV} {vs:List Value},RepVs γ σ (xs++ys) vs->∃ v1 v2,vs=v1++v2/\RepVs γ σ xs v1/\RepVs γ σ ys v2
 | [],ys,vs,h=>⟨[],vs,rfl,by rw [repVs_nil],h⟩
 | x::xs,ys,vs,h=>by
   obtain ⟨v,vs',rfl,h1,h2⟩:=repVs_cons.1 h
   obtain ⟨v1,v2,rfl,h3,h4⟩:=repVs_append h2
   exact ⟨v::v1,v2,rfl,repVs_cons.2 ⟨v,v1,rfl,h1,h3⟩,h4⟩
theorem Ent.lendE {m:Nat} {N:FN} {fr fr':List (Nat × AV)} {b k:Nat} {E E2:TypeId} {sz sz2:Nat} {xs ys cs:List AV} (hH:H[id]?=some (.arr E sz xs)) (hx:Flat xs) (hne:id≠b) (hb:H[b]?=some (.arr E2 sz2 (ys++[.agg cs]))) (hk:cs[k]?=some (.slc id sz xs.length)) (hfr:FrSub fr fr') :
 Ent m N ⟨fr,H⟩ ⟨fr',(H.set b (.arr E2 sz2 (ys++[.agg (cs.set k (.view sz xs))]))).set id .dead⟩:=by
 intro γ σ w a hr
 have hi:=hr.inv
 have hi0:Inv γ σ w H:=hi
 have hik:Inv (gl γ σ w id) (σ.set id none) w (H.set id .dead):=inv_kill hi0
 refine ⟨gl γ σ w id,σ.set id none,kill_step hi0,?_,fun t=>?_,hr.defers.step (kill_step (m:=m) hi0),hr.size⟩
 . have hbl:=(List.getElem?_eq_some_iff.1 hb).1
   refine ⟨hik.mem,hik.own,hik.inj,by simp [hi0.len],fun i o e ho he=>?_,hik.glob⟩
   by_cases hib:b=i
   . subst hib
     rw [List.getElem?_set_ne hne,List.getElem?_set_self hbl] at ho
     cases ho
     have he':σ[b]?=some e:=by rwa [List.getElem?_set_ne hne] at he
     have hob:=hi0.obj b _ e hb he'
     unfold RepO at hob ⊢
     match e,hob with
     | some (blk,cap),hob =>
       cases blk with
       | none =>
         obtain ⟨vs,h1,h2,h3,h4,h5⟩:=hob
         refine ⟨vs,?_,h2,h3,by simpa using h4,by simpa using h5⟩
         have hl:=h1.length
         obtain ⟨v1,v2,e1,e2,e3⟩:=repVs_append h1
         obtain ⟨v,v3,rfl,e4,e5⟩:=repVs_cons.1 e3
         subst e1
         refine RepVs.append (RepVs.mono (gl_le hi0) _ _ _ _ lend_sg e2) (repVs_cons.2 ⟨v,v3,rfl,?_,by rw [repVs_nil] at e5 ⊢;exact e5⟩)
         obtain ⟨us,rfl,g1,g2⟩:=e4
         refine ⟨us,rfl,RepVs.setx k (RepVs.mono (gl_le hi0) _ _ _ _ lend_sg g1) fun u hu=>?_,g2⟩
         obtain ⟨x,hx1,hx2⟩:=RepVs.get' g1 hu
         rw [hk] at hx1;cases hx1
         exact kill_view hi0 hH hx hx2 _
       | some b0 =>
         obtain ⟨vs,h1,h2,h3,h4,h5⟩:=hob
         refine ⟨vs,?_,h2,h3,by simpa using h4,by simpa using h5⟩
         obtain ⟨v1,v2,e1,e2,e3⟩:=repVs_append h1
         obtain ⟨v,v3,rfl,e4,e5⟩:=repVs_cons.1 e3
         subst e1
         refine RepVs.append (RepVs.mono (gl_le hi0) _ _ _ _ lend_sg e2) (repVs_cons.2 ⟨v,v3,rfl,?_,by rw [repVs_nil] at e5 ⊢;exact e5⟩)
         obtain ⟨us,rfl,g1,g2⟩:=e4
         refine ⟨us,rfl,RepVs.setx k (RepVs.mono (gl_le hi0) _ _ _ _ lend_sg g1) fun u hu=>?_,g2⟩
         obtain ⟨x,hx1,hx2⟩:=RepVs.get' g1 hu
         rw [hk] at hx1;cases hx1
         exact kill_view hi0 hH hx hx2 _
     | none,hob=>exact hob.elim
   . have ho':(H.set id .dead)[i]?=some o:=by
      by_cases hii:id=i
      . subst hii
        have hl:=(List.getElem?_eq_some_iff.1 hH).1
        rw [List.getElem?_set_self (by simpa using hl)] at ho
        rw [List.getElem?_set_self hl];exact ho
      . rw [List.getElem?_set_ne hii,List.getElem?_set_ne hib] at ho
        rw [List.getElem?_set_ne hii];exact ho
     exact hik.obj i o e ho' he
 . rcases frSub_get hfr t with e | e <;> simp only [e]
   . simp [RepV]
   . exact RepV.mono (gl_le hi0) _ _ _ _ lend_sg (hr.fr t)
end
theorem flatA_nil:Flat []:=fun _ _ _ h=>h
theorem flatA_cons {x:AV} {xs:List AV} (hx:∀ (γ:Gm) (σ:Sg) v,RepV γ σ x v->RepV γ [] x v) (h:Flat xs):Flat (x::xs):=fun γ σ vs hr=>by
 obtain ⟨v,vs',rfl,h1,h2⟩:=repVs_cons.1 hr
 exact repVs_cons.2 ⟨v,vs',rfl,hx _ _ _ h1,h _ _ _ h2⟩
theorem flatA_agg {xs:List AV} (h:Flat xs):∀ (γ:Gm) (σ:Sg) v,RepV γ σ (.agg xs) v->RepV γ [] (.agg xs) v:=fun γ σ v hr=>by
 obtain ⟨vs,h1,h2,h3⟩:=hr
 exact ⟨vs,h1,h _ _ _ h2,h3⟩
theorem flatA_map {α:Type} {f:α->AV} (h:∀ a,∀ (γ:Gm) (σ:Sg) v,RepV γ σ (f a) v->RepV γ [] (f a) v):∀ l:List α,Flat (l.map f)
 | []=>flatA_nil
 | a::l=>flatA_cons (h a) (flatA_map h l)
theorem flatA_ints (xs:List Int) {k:IntKind}:Flat (xs.map (AV.int k)):=by
 intro γ σ
 induction xs with
 | nil=>intro vs h;exact h
 | cons x xs ih =>
   intro vs h
   obtain ⟨v,vs',rfl,h1,h2⟩:=repVs_cons.1 h
   exact repVs_cons.2 ⟨v,vs',rfl,h1,ih _ h2⟩
end Go.Al
namespace Go.Al
section
variable {γ:Gm} {σ:Sg} {w:World} {H:List AObj} {id:Nat}
theorem Ent.lendM {m:Nat} {N:FN} {fr fr':List (Nat × AV)} {b k:Nat} {E E2:TypeId} {sz sz2:Nat} {xs ys zs cs:List AV} (hH:H[id]?=some (.arr E sz xs)) (hx:Flat xs) (hne:id≠b) (hb:H[b]?=some (.arr E2 sz2 (ys++.agg cs::zs))) (hk:cs[k]?=some (.slc id sz xs.length)) (hfr:FrSub fr fr') :
 Ent m N ⟨fr,H⟩ ⟨fr',(H.set b (.arr E2 sz2 (ys++.agg (cs.set k (.view sz xs))::zs))).set id .dead⟩:=by
 intro γ σ w a hr
 have hi:=hr.inv
 have hi0:Inv γ σ w H:=hi
 have hik:Inv (gl γ σ w id) (σ.set id none) w (H.set id .dead):=inv_kill hi0
 refine ⟨gl γ σ w id,σ.set id none,kill_step hi0,?_,fun t=>?_,hr.defers.step (kill_step (m:=m) hi0),hr.size⟩
 . have hbl:=(List.getElem?_eq_some_iff.1 hb).1
   refine ⟨hik.mem,hik.own,hik.inj,by simp [hi0.len],fun i o e ho he=>?_,hik.glob⟩
   by_cases hib:b=i
   . subst hib
     rw [List.getElem?_set_ne hne,List.getElem?_set_self hbl] at ho
     cases ho
     have he':σ[b]?=some e:=by rwa [List.getElem?_set_ne hne] at he
     have hob:=hi0.obj b _ e hb he'
     unfold RepO at hob ⊢
     match e,hob with
     | some (blk,cap),hob =>
       cases blk with
       | none =>
         obtain ⟨vs,h1,h2,h3,h4,h5⟩:=hob
         refine ⟨vs,?_,h2,h3,by simpa using h4,by simpa using h5⟩
         have hl:=h1.length
         obtain ⟨v1,v2,e1,e2,e3⟩:=repVs_append h1
         obtain ⟨v,v3,rfl,e4,e5⟩:=repVs_cons.1 e3
         subst e1
         refine RepVs.append (RepVs.mono (gl_le hi0) _ _ _ _ lend_sg e2) (repVs_cons.2 ⟨v,v3,rfl,?_,RepVs.mono (gl_le hi0) _ _ _ _ lend_sg e5⟩)
         obtain ⟨us,rfl,g1,g2⟩:=e4
         refine ⟨us,rfl,RepVs.setx k (RepVs.mono (gl_le hi0) _ _ _ _ lend_sg g1) fun u hu=>?_,g2⟩
         obtain ⟨x,hx1,hx2⟩:=RepVs.get' g1 hu
         rw [hk] at hx1;cases hx1
         exact kill_view hi0 hH hx hx2 _
       | some b0 =>
         obtain ⟨vs,h1,h2,h3,h4,h5⟩:=hob
         refine ⟨vs,?_,h2,h3,by simpa using h4,by simpa using h5⟩
         obtain ⟨v1,v2,e1,e2,e3⟩:=repVs_append h1
         obtain ⟨v,v3,rfl,e4,e5⟩:=repVs_cons.1 e3
         subst e1
         refine RepVs.append (RepVs.mono (gl_le hi0) _ _ _ _ lend_sg e2) (repVs_cons.2 ⟨v,v3,rfl,?_,RepVs.mono (gl_le hi0) _ _ _ _ lend_sg e5⟩)
         obtain ⟨us,rfl,g1,g2⟩:=e4
         refine ⟨us,rfl,RepVs.setx k (RepVs.mono (gl_le hi0) _ _ _ _ lend_sg g1) fun u hu=>?_,g2⟩
         obtain ⟨x,hx1,hx2⟩:=RepVs.get' g1 hu
         rw [hk] at hx1;cases hx1
         exact kill_view hi0 hH hx hx2 _
     | none,hob=>exact hob.elim
   . have ho':(H.set id .dead)[i]?=some o:=by
      by_cases hii:id=i
      . subst hii
        have hl:=(List.getElem?_eq_some_iff.1 hH).1
        rw [List.getElem?_set_self (by simpa using hl)] at ho
        rw [List.getElem?_set_self hl];exact ho
      . rw [List.getElem?_set_ne hii,List.getElem?_set_ne hib] at ho
        rw [List.getElem?_set_ne hii];exact ho
     exact hik.obj i o e ho' he
 . rcases frSub_get hfr t with e | e <;> simp only [e]
   . simp [RepV]
   . exact RepV.mono (gl_le hi0) _ _ _ _ lend_sg (hr.fr t)
theorem inv_weakArr (hi:Inv γ σ w H) {b sz:Nat} {E:TypeId} {xs ys:List AV} (hb:H[b]?=some (.arr E sz xs)) (hw:WeakL xs ys) (hl:xs.length=ys.length):Inv γ σ w (H.set b (.arr E sz ys)):=by
 refine ⟨hi.mem,hi.own,hi.inj,by simp [hi.len],fun i o e ho he=>?_,hi.glob⟩
 by_cases h:b=i
 . subst h
   have hlt:b<H.length:=(List.getElem?_eq_some_iff.1 hb).1
   rw [List.getElem?_set_self hlt] at ho
   cases ho
   have hold:=hi.obj b _ e hb he
   unfold RepO at hold ⊢
   match e,hold with
   | some (blk,c),hold =>
     cases blk with
     | none =>
       obtain ⟨vs,h1,h2,h3,h4,h5⟩:=hold
       exact ⟨vs,hw _ _ _ h1,h2,h3,by simpa [hl] using h4,by simpa [hl] using h5⟩
     | some b1 =>
       obtain ⟨vs,h1,h2,h3,h4,h5⟩:=hold
       exact ⟨vs,hw _ _ _ h1,h2,h3,by simpa [hl] using h4,by simpa [hl] using h5⟩
   | none,hold=>exact hold.elim
 . rw [List.getElem?_set_ne h] at ho
   exact hi.obj i o e ho he
theorem Ent.weakArr {m:Nat} {N:FN} {fr fr':List (Nat × AV)} {b sz:Nat} {E:TypeId} {xs ys:List AV} (hb:H[b]?=some (.arr E sz xs)) (hw:WeakL xs ys) (hl:xs.length=ys.length) (hfr:FrSub fr fr'):Ent m N ⟨fr,H⟩ ⟨fr',H.set b (.arr E sz ys)⟩:=fun γ σ w a hr=>by
 obtain ⟨γ1,σ1,hs,hr1⟩:=Ent.fr hfr γ σ w a hr
 exact ⟨γ1,σ1,hs,⟨inv_weakArr hr1.inv hb hw hl,hr1.fr,hr1.defers,by simpa using hr1.size⟩⟩
theorem Ent.weakB {m:Nat} {N:FN} {fr fr':List (Nat × AV)} {b k:Nat} {cs:List AV} {y y':AV} (hb:H[b]?=some (.box cs)) (hk:cs[k]?=some y) (hw:Weak y y') (hfr:FrSub fr fr'):Ent m N ⟨fr,H⟩ ⟨fr',H.set b (.box (cs.set k y'))⟩:=fun γ σ w a hr=>by
 obtain ⟨γ1,σ1,hs,hr1⟩:=Ent.fr hfr γ σ w a hr
 exact ⟨γ1,σ1,hs,⟨inv_setB hr1.inv hb hk fun v hv=>hw γ1 σ1 v hv,hr1.fr,hr1.defers,by simpa using hr1.size⟩⟩
theorem ACalls.weakO {P:Program} {f:FuncId} {args:List AV} {Q:AV->List AObj->Prop} (h:ACalls P f args H fun r H'=>∃ b E sz xs ys,H'[b]?=some (.arr E sz xs)/\WeakL xs ys/\xs.length=ys.length/\Q r (H'.set b (.arr E sz ys))):ACalls P f args H Q:=by
 refine ⟨h.1,fun γ σ w vs hi hv=>(h.2 γ σ w vs hi hv).mono ?_⟩
 rintro e w' ⟨v,γ',σ',r,H',he,hst,hi',hr,b,E,sz,xs,ys,hb,hw,hl,hq⟩
 exact ⟨v,γ',σ',r,_,he,hst,inv_weakArr hi' hb hw hl,hr,hq⟩
end
end Go.Al
