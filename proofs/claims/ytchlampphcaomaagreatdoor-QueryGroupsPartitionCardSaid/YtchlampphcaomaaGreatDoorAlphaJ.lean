/-
 A part of the proof: see the text of the law.
-/
import Derived.Test.YtchlampphcaomaaGreatDoorAlphaI
import Derived.Test.YtchlampphcaomaaGreatDoorAlphaAb
set_option linter.unusedSimpArgs false
set_option linter.unusedVariables false
namespace Go.Al
section
variable {γ:Gm} {σ σ':Sg} {k:Nat}
theorem get_sc:∀ {fr:List (Nat × AV)} {t:Nat},(fr.all fun p=>Go.Al.sc k p.2)=true→Go.Al.sc k (get fr t)=true
 | [],t,_=>rfl
 | (d,x)::fr,t,h=>by
   simp only [List.all_cons,Bool.and_eq_true] at h
   simp only [get]
   split
   · exact h.1
   · exact get_sc h.2
theorem RepO.sc {w:World} (hs:∀ i,i<k→σ'[i]?=σ[i]?) {e:Option (Option Nat × Nat)} {o:AObj} (hx:scO k o=true) (h:RepO γ σ w e o):RepO γ σ' w e o:=by
 unfold RepO at h
 split at h
 · obtain ⟨vs,E,h1,h2,h3⟩:=h
   exact ⟨vs,E,h1,RepVs.sc hs _ _ hx h2,h3⟩
 · obtain ⟨vs,h1,h2,h3,h4,h5⟩:=h
   exact repO_arr.2 ⟨vs,RepVs.sc hs _ _ hx h1,h2,h3,h4,h5⟩
 · obtain ⟨kv,vv,h1,h2,h3⟩:=h
   simp only [scO,Bool.and_eq_true] at hx
   exact ⟨kv,vv,RepVs.sc hs _ _ hx.1 h1,RepVs.sc hs _ _ hx.2 h2,h3⟩
 · exact h
 · trivial
 · exact h
 · exact ref_sc hs hx h
 · obtain ⟨tmps,D,h1,h2,h3⟩:=h
   exact ⟨tmps,D,h1,fun t=>RepV.sc hs _ _ (get_sc hx) (h2 t),h3⟩
 · exact repO_lost _
 · exact h.elim
end
section
variable {m:Nat} {N:FN} {γ:Gm} {σ:Sg} {w:World} {H L:List AObj} {P:Program}
theorem take_get {i:Nat} (h:i<H.length):(σ.take H.length)[i]?=σ[i]?:=by rw [List.getElem?_take,if_pos h]
theorem Inv.take (hi:Inv γ σ w (H++L)) (hH:H.all (scO H.length)=true):Inv γ (σ.take H.length) w H:=by
 have back:∀ (i:Nat) e,(σ.take H.length)[i]?=some e→i<H.length∧σ[i]?=some e:=fun i e h=>by
  rw [List.getElem?_take] at h
  split at h
  · rename_i hlt;exact ⟨hlt,h⟩
  · cases h
 refine ⟨hi.mem,fun i b c h=>hi.own i b c (back _ _ h).2,fun i j b c c' h1 h2=>hi.inj i j b c c' (back _ _ h1).2 (back _ _ h2).2,?_,fun i o e ho he=>?_,hi.glob⟩
 · have:=hi.len;simp at this;simp;omega
 · obtain ⟨h1,h2⟩:=back _ _ he
   rw [List.all_eq_true] at hH
   exact (hi.obj i o e (by rw [List.getElem?_append_left h1];exact ho) h2).sc (fun j hj=>take_get hj) (hH o (List.mem_of_getElem? ho))
theorem drop_step (γ:Gm) (σ:Sg) (w:World) {k:Nat} (hm:m≤k):Step m γ σ w γ (σ.take k) w :=
 ⟨fun _ _ h=>h,Nat.le_refl _,fun _ _ _=>⟨rfl,rfl⟩,fun b ⟨i,c,h⟩=>.inl (by
   rw [List.getElem?_take] at h
   split at h
   · exact ⟨i,c,h⟩
   · cases h),rfl,rfl,rfl,Nat.le_refl _,fun i e hi h=>.inl (by rw [List.getElem?_take,if_pos (by omega)];exact h)⟩
def FrSc (k:Nat) (fr:List (Nat × AV)):List (Nat × AV)→Prop
 | []=>True
 | (t,x)::r=>get fr t=x∧sc k x=true∧FrSc k fr r
theorem frSc_get {k:Nat} {fr:List (Nat × AV)}:∀ {fr':List (Nat × AV)},FrSc k fr fr'→∀ t,get fr' t=.junk∨get fr' t=get fr t∧sc k (get fr t)=true
 | [],_,t=>.inl rfl
 | (d,x)::r,h,t=>by
   simp only [get]
   by_cases hd:d=t
   · subst hd;rw [if_pos rfl];exact .inr ⟨h.1.symm,by rw [h.1];exact h.2.1⟩
   · rw [if_neg hd];exact frSc_get h.2.2 t
theorem Ent.drop {fr fr':List (Nat × AV)} (hm:m≤H.length) (hH:H.all (scO H.length)=true) (hfr:FrSc H.length fr fr'):Ent m N ⟨fr,H++L⟩ ⟨fr',H⟩:=fun γ σ w a hr =>
 ⟨γ,σ.take H.length,drop_step γ σ w hm,hr.inv.take hH,fun t=>by
   rcases frSc_get hfr t with e | ⟨e,h⟩ <;> simp only [e]
   · simp [RepV]
   · exact RepV.sc (fun i hi=>take_get hi) _ _ h (hr.fr t),hr.defers.step (drop_step (m:=0) γ σ w (Nat.zero_le _)),hr.size⟩
theorem ACalls.drop {f:FuncId} {args:List AV} {H:List AObj} {Q:AV→List AObj→Prop}
 (h:ACalls P f args H fun r H'=>∃ H1 L,H'=H1++L∧H.length≤H1.length∧sc H1.length r=true∧H1.all (scO H1.length)=true∧Q r H1):ACalls P f args H Q:=by
 refine ⟨h.1,fun γ σ w vs hi hv=>(h.2 γ σ w vs hi hv).mono ?_⟩
 rintro e w' ⟨v,γ',σ',r,H',he,hst,hi',hr,H1,L,rfl,h1,h2,h3,h4⟩
 exact ⟨v,γ',σ'.take H1.length,r,H1,he,hst.trans (drop_step _ _ _ h1),hi'.take h3,RepV.sc (fun i hi=>take_get hi) _ _ h2 hr,h4⟩
theorem suffix_data (hi:Inv γ σ w (H++L)) {γ1:Gm} {σ1:Sg} {w1:World} {H1:List AObj} (hst:Step H.length γ (σ.take H.length) w γ1 σ1 w1) (hi1:Inv γ1 σ1 w1 H1) (hl:H1.length=H.length) :
 Step (H++L).length γ σ w γ1 (σ1++σ.drop H.length) w1∧Inv γ1 (σ1++σ.drop H.length) w1 (H1++L):=by
 have hlen:=hi.len
 simp only [List.length_append] at hlen
 have hs1:σ1.length=H.length:=by rw [hi1.len,hl]
 have low:∀ (i:Nat),i<H.length→(σ1++σ.drop H.length)[i]?=σ1[i]?:=fun i h=>List.getElem?_append_left (by omega)
 have high:∀ (i:Nat),H.length≤i→(σ1++σ.drop H.length)[i]?=σ[i]?:=fun i h=>by
  rw [List.getElem?_append_right (by omega),List.getElem?_drop,hs1]
  congr 1;omega
 have blk:∀ b,Blks (σ.take H.length) b→∃ (i:Nat) (c:Nat),i<H.length∧σ[i]?=some (some (some b,c)):=fun b ⟨i,c,h⟩=>by
  rw [List.getElem?_take] at h
  split at h
  · rename_i hlt;exact ⟨i,c,hlt,h⟩
  · cases h
 have far:∀ (i b c:Nat),H.length≤i→σ[i]?=some (some (some b,c))→¬ Blks (σ.take H.length) b:=fun i b c h1 h2 hb=>by
  obtain ⟨j,c',h3,h4⟩:=blk b hb
  have:=hi.inj i j b c c' h2 h4
  omega
 have hle:Sg.le σ (σ1++σ.drop H.length):=fun i e he=>by
  by_cases h:i<H.length
  · rw [low i h];exact hst.low i e h (by rw [take_get h];exact he)
  · rw [high i (by omega)];exact .inl he
 refine ⟨⟨hst.le,hst.size,fun b hb hn=>hst.keep b hb fun hb'=>?_,fun b ⟨i,c,h⟩=>?_,hst.os,hst.tape,hst.output,hst.drawn,fun i e _ he=>hle i e he⟩,⟨hi1.mem,fun i b c h=>?_,fun i j b c c' h1 h2=>?_,?_,fun i o e ho he=>?_,hi1.glob⟩⟩
 · obtain ⟨i,c,_,h⟩:=blk b hb'
   exact hn ⟨i,c,h⟩
 · by_cases hlt:i<H.length
   · rw [low i hlt] at h
     rcases hst.own b ⟨i,c,h⟩ with h1 | h1
     · obtain ⟨j,c',_,h2⟩:=blk b h1
       exact .inl ⟨j,c',h2⟩
     · exact .inr h1
   · rw [high i (by omega)] at h
     exact .inl ⟨i,c,h⟩
 · by_cases hlt:i<H.length
   · rw [low i hlt] at h;exact hi1.own i b c h
   · rw [high i (by omega)] at h
     obtain ⟨h1,h2⟩:=hi.own i b c h
     exact ⟨by rw [(hst.keep b h2 (far i b c (by omega) h)).2];exact h1,Nat.lt_of_lt_of_le h2 hst.size⟩
 · have cross:∀ (i j b c c':Nat),i<H.length→H.length≤j→σ1[i]?=some (some (some b,c))→σ[j]?=some (some (some b,c'))→False:=fun i j b c c' h1 h2 h3 h4=>by
    rcases hst.own b ⟨i,c,h3⟩ with h5 | h5
    · exact far j b c' h2 h4 h5
    · have:=(hi.own j b c' h4).2;omega
   by_cases hi':i<H.length <;> by_cases hj':j<H.length
   · rw [low i hi'] at h1;rw [low j hj'] at h2;exact hi1.inj i j b c c' h1 h2
   · rw [low i hi'] at h1;rw [high j (by omega)] at h2;exact (cross i j b c c' hi' (by omega) h1 h2).elim
   · rw [high i (by omega)] at h1;rw [low j hj'] at h2;exact (cross j i b c' c hj' (by omega) h2 h1).elim
   · rw [high i (by omega)] at h1;rw [high j (by omega)] at h2;exact hi.inj i j b c c' h1 h2
 · simp [hs1,hl];omega
 · by_cases hlt:i<H.length
   · rw [low i hlt] at he
     rw [List.getElem?_append_left (by omega)] at ho
     exact (hi1.obj i o e ho he).mono (fun _ _ h=>h) (Sg.le_append _ _) fun _ _ _=>rfl
   · rw [high i (by omega)] at he
     rw [List.getElem?_append_right (by omega),hl] at ho
     refine (hi.obj i o e (by rw [List.getElem?_append_right (by omega)];exact ho) he).mono hst.le hle fun b c hb=>?_
     subst hb
     exact (hst.keep b (hi.own i b c he).2 (far i b c (by omega) he)).1
theorem ACalls.suffix {f:FuncId} {args:List AV} {Q:AV→List AObj→Prop} (hH:H.all (scO H.length)=true) (ha:scL H.length args=true) (h:ACalls P f args H Q) (hq:∀ r H',Q r H'→H'.length=H.length) :
 ACalls P f args (H++L) fun r H'=>∃ H1,H'=H1++L∧Q r H1:=by
 refine ⟨h.1,fun γ σ w vs hi hv=>(h.2 γ _ w vs (hi.take hH) (RepVs.sc (fun i hi=>take_get hi) _ _ ha hv)).mono ?_⟩
 rintro e w' ⟨v,γ',σ',r,H',he,hst,hi',hr,h4⟩
 obtain ⟨h5,h6⟩:=suffix_data hi hst hi' (hq _ _ h4)
 exact ⟨v,γ',_,r,_,he,h5,h6,RepV.mono (fun _ _ h=>h) _ _ _ _ (Sg.le_append _ _) hr,H',rfl,h4⟩
theorem AYield.suffix {id:Nat} {args:List AV} {Q:AV→List AObj→Prop} (hid:id<H.length) (hH:H.all (scO H.length)=true) (ha:scL H.length args=true) (h:AYield P id args H Q) (hq:∀ r H',Q r H'→H'.length=H.length) :
 AYield P id args (H++L) fun r H'=>∃ H1,H'=H1++L∧Q r H1:=by
 intro γ σ w vs hi hv
 obtain ⟨b,c,f,tmps,as,bd,h1,h2,h3⟩:=h γ _ w vs (hi.take hH) (RepVs.sc (fun i hi=>take_get hi) _ _ ha hv)
 rw [take_get hid] at h1
 refine ⟨b,c,f,tmps,as,bd,h1,h2,h3.mono ?_⟩
 rintro e w' ⟨v,γ',σ',r,H',he,hst,hi',hr,h4⟩
 obtain ⟨h5,h6⟩:=suffix_data hi hst hi' (hq _ _ h4)
 exact ⟨v,γ',_,r,_,he,h5,h6,RepV.mono (fun _ _ h=>h) _ _ _ _ (Sg.le_append _ _) hr,H',rfl,h4⟩
end
end Go.Al
