/-
 A part of the proof: see the text of the law.
-/
import Derived.Test.YtchlampphcaomaaGreatDoorAlphaG
import Derived.IntWalk
set_option linter.unusedSimpArgs false
set_option linter.unusedVariables false
namespace Go.Al
structure FnOk (E:Env) (f:FuncId) (N:Nat) (rs:List ResultVar) (mc:MC):Prop where
 ex : ∃ fn c, E.P.funcs[f]? = some fn ∧ fn.body = some c ∧ (fn.name == "runtime.NumGoroutine") = false ∧ fn.ntmps = N ∧ fn.results.toList = rs ∧ dstsBelow N c = true ∧ cC E c = some mc
theorem FnOk.of {E : Env} {f : FuncId} {fn : Func} {N : Nat} {rs : List ResultVar} {mc : MC} (h1 : E.P.funcs[f]? = some fn) (h2 : (fn.name == "runtime.NumGoroutine") = false) (h3 : fn.ntmps = N) (h4 : fn.results.toList = rs)
 (h5:(fn.body.map (dstsBelow N))=some true) (h6:fn.body.bind (cC E)=some mc):FnOk E f N rs mc:=by
 cases hb:fn.body with
 | none=>rw [hb] at h5;cases h5
 | some c =>
   rw [hb] at h5 h6
   exact ⟨fn,c,h1,hb,h2,h3,h4,by simpa using h5,by simpa using h6⟩
theorem FnOk.acalls0 {E:Env} (hE:E.ok) (hm:E.P.follows .mixedOrders=true) {f:FuncId} {n:Nat} {rs:List ResultVar} {mc:MC} (hf:FnOk E f n rs mc) {args:List AV} {H:List AObj} {Q:AV→List AObj→Prop} (hargs:args.length≤n)
 (h:∀ N:FN,N.ro=none→R E.P H.length N [.c mc] (endQ E rs Q) .normal (frOf 0 args) H):ACalls E.P f args H Q:=by
 obtain ⟨fn,c,h1,h2,h3,h4,h5,h6,h7⟩:=hf.ex
 subst h4 h5
 exact acalls_of_MW hE hm h1 h2 h3 hargs h6 h7 fun N _ hN=>h N hN
theorem FnOk.acalls {E:Env} (hE:E.ok) (hm:E.P.follows .mixedOrders=true) {f:FuncId} {n:Nat} {rs:List ResultVar} {mc:MC} (hf:FnOk E f n rs mc) {args:List AV} {H:List AObj} {Q:AV→List AObj→Prop} (hargs:args.length≤n)
 (h:∀ N:FN,N.ro=none→R E.P H.length N [.c mc] (endQ E rs (keepQ H.length Q)) .normal (frOf 0 args) H):ACalls E.P f args H Q :=
 ACalls.keep (hf.acalls0 hE hm hargs h)
section
variable {E:Env} {rs:List ResultVar} {Q:AV→List AObj→Prop} {fr:List (Nat × AV)} {H:List AObj}
def retR (Q:AV→List AObj→Prop) (xs:Option (List AV)) (H:List AObj):Prop:=match xs with | some xs=>Q (tupA xs) H | none=>False
theorem end_ret:endQ E rs Q .ret ⟨fr,H⟩=retR Q (resA E ⟨fr,H⟩ rs) H:=rfl
theorem end_normal:endQ E rs Q .normal ⟨fr,H⟩=retR Q (resA E ⟨fr,H⟩ rs) H:=rfl
theorem retR_some {xs:List AV}:retR Q (some xs) H=Q (tupA xs) H:=rfl
end
theorem keepw_i {m:Nat} {Q:AV→List AObj→Prop} {r:AV} {H:List AObj} (ids:List Nat) (bor:Bool) (h1:ids.all (· < H.length)=true) (h2:ids.Nodup) (h3:ids.take m=List.range m) {r':AV} (hw:Weak (pa H ids bor 8 r) r') (h:Q r' (pH H ids bor 8)):keepQ m Q r H:=⟨ids,bor,r',h1,h2,h3,hw,h⟩
theorem keep_i {m:Nat} {Q:AV→List AObj→Prop} {r:AV} {H:List AObj} (ids:List Nat) (bor:Bool) (h1:ids.all (· < H.length)=true) (h2:ids.Nodup) (h3:ids.take m=List.range m) (h:Q (pa H ids bor 8 r) (pH H ids bor 8)):keepQ m Q r H:=⟨ids,bor,_,h1,h2,h3,.refl _,h⟩
theorem keep0_i {Q:AV→List AObj→Prop} {r:AV} {H:List AObj} (h:Q (pa H [] false 8 r) (pH H [] false 8)):keepQ 0 Q r H:=keep_i [] false rfl (by simp) rfl h
def FrLe (H:List AObj) (ids:List Nat) (bor:Bool) (fr:List (Nat × AV)):List (Nat × AV)→Prop
 | []=>True
 | (t,x)::r=>pa H ids bor 8 (get fr t)=x∧FrLe H ids bor fr r
theorem frLe_get {H:List AObj} {ids:List Nat} {bor:Bool} {fr:List (Nat × AV)}:∀ {fr':List (Nat × AV)},FrLe H ids bor fr fr'→∀ t,get fr' t=.junk∨get fr' t=pa H ids bor 8 (get fr t)
 | [],_,t=>.inl rfl
 | (d,x)::r,h,t=>by
   simp only [get]
   by_cases hd:d=t
   · subst hd;rw [if_pos rfl];exact .inr h.1.symm
   · rw [if_neg hd];exact frLe_get h.2 t
theorem Ent.to {m:Nat} {N:FN} {fr fr':List (Nat × AV)} {H H':List AObj} (ids:List Nat) (bor:Bool) (hlt:ids.all (· < H.length)=true) (hnd:ids.Nodup) (hm:ids.take m=List.range m)
 (hfr:FrLe H ids bor fr fr') (hH:pH H ids bor 8=H'):Ent m N ⟨fr,H⟩ ⟨fr',H'⟩:=by
 subst hH
 refine Ent.pass ids bor 8 (by simpa using hlt) hnd (fun i hi=>?_) (frLe_get hfr)
 have h1:(ids.take m)[i]?=some i:=by rw [hm];simp [hi]
 rwa [List.getElem?_take,if_pos hi] at h1
theorem Ent.ghost' {m:Nat} {N:FN} {fr:List (Nat × AV)} {H:List AObj} {s':AS} (t:Nat) (E:TypeId) (sz:Nat) (h0:0<sz) (h:get fr t=.raw (.slice none 0 0)) (he:Ent m N ⟨(t,.slc H.length sz 0)::fr,H++[.arr E sz []]⟩ s'):Ent m N ⟨fr,H⟩ s' :=
 (Ent.ghost t E sz h0 h).trans he
def FrSub (fr:List (Nat × AV)):List (Nat × AV)→Prop
 | []=>True
 | (t,x)::r=>get fr t=x∧FrSub fr r
theorem frSub_get {fr:List (Nat × AV)}:∀ {fr':List (Nat × AV)},FrSub fr fr'→∀ t,get fr' t=.junk∨get fr' t=get fr t
 | [],_,t=>.inl rfl
 | (d,x)::r,h,t=>by
   simp only [get]
   by_cases hd:d=t
   · subst hd;rw [if_pos rfl];exact .inr h.1.symm
   · rw [if_neg hd];exact frSub_get h.2 t
theorem Ent.fr {m:Nat} {N:FN} {fr fr':List (Nat × AV)} {H:List AObj} (h:FrSub fr fr'):Ent m N ⟨fr,H⟩ ⟨fr',H⟩:=fun γ σ w a hr=>⟨γ,σ,.refl _ _ _,hr.inv,fun t=>by
 rcases frSub_get h t with e | e <;> simp only [e]
 · simp [RepV]
 · exact hr.fr t,hr.defers,hr.size⟩
def RndOk (P:Program) (n:Nat) (ps:Array Tmp) (x y:MC) (fn:FuncId) (as bd:Code):Prop :=
 ∀ (id:Nat) (fr2:List (Nat × AV)) (args:List AV) (H:List AObj) (Q2:AV→List AObj→Prop),H[id]?=some (.loop .ready none fr2 n fn ps as bd)→args.length=ps.size →
   (∀ N2:FN,N2.n=n→R P H.length N2 [.c x] (fun e s=>match e with
     | .normal=>s.H[id]?=some (.loop .ready none fr2 n fn ps as bd)∧R P H.length N2 [.c y] (roundQ H.length N2 id (fun st pd=>.loop st pd fr2 n fn ps as bd) Q2) .normal s.fr (s.H.set id (.loop .busy none fr2 n fn ps as bd))
     | _=>False) .normal (zipPut ps.toList args fr2) H)→AYield P id args H Q2
def RngR (P:Program) (m:Nat) (N:FN) (f:AV) (ps:Array Tmp) (x y:MC) (k:List It) (Q:Exit→AS→Prop) (fr:List (Nat × AV)) (H:List AObj):Prop :=
 N.ro=none∧∃ fr',(∀ t,get fr' t=.junk∨get fr' t=get fr t)∧∀ (fn:FuncId) (as bd:Code),RndOk P N.n ps x y fn as bd →
  match f with
  | .fn (.func g) first caps=>ACalls P g (first++[.yld H.length]++caps) (H++[.loop .ready none fr' N.n fn ps as bd]) (fun _ H'=>rngQ m N H.length fn ps as bd (fun e s=>R P m N k Q e s.fr s.H) fr H')
  | _=>False
theorem Rrngf {P:Program} {m:Nat} {N:FN} {f:MV} {ps:Array Tmp} {x y:MC} {k:List It} {Q:Exit→AS→Prop} {fr:List (Nat × AV)} {H:List AObj}:R P m N (.c (.rngf f ps x y)::k) Q .normal fr H=RngR P m N (mv fr f) ps x y k Q fr H:=rfl
theorem rng_i {P:Program} {m:Nat} {N:FN} {g:FuncId} {first caps:List AV} {ps:Array Tmp} {x y:MC} {k:List It} {Q:Exit→AS→Prop} {fr:List (Nat × AV)} {H:List AObj} (hN:N.ro=none) (fr':List (Nat × AV)) (hfr:FrSub fr fr')
 (h:∀ (fn:FuncId) (as bd:Code),RndOk P N.n ps x y fn as bd→∃ Q',ACalls P g (first++[.yld H.length]++caps) (H++[.loop .ready none fr' N.n fn ps as bd]) Q'∧∀ r H',Q' r H' →
   ∃ st pd fr2,H'[H.length]?=some (.loop st pd fr2 N.n fn ps as bd)∧st≠.busy∧∃ fr3 H3,Ent m N ⟨fr,H'.set H.length .lost⟩ ⟨fr3,H3⟩∧(match pd with
     | none=>R P m N k Q .normal fr3 H3
     | some .ret=>R P m N k Q .ret fr3 H3
     | some (.exit j)=>R P m N k Q (.exit j) fr3 H3
     | _=>False)):RngR P m N (.fn (.func g) first caps) ps x y k Q fr H:=by
 refine ⟨hN,fr',frSub_get hfr,fun fn as bd hy=>?_⟩
 obtain ⟨Q',h1,h2⟩:=h fn as bd hy
 refine h1.mono fun r H' hq=>?_
 obtain ⟨st,pd,fr2,h3,h4,fr3,H3,h5,h6⟩:=h2 r H' hq
 refine ⟨st,pd,fr2,h3,h4,⟨fr3,H3⟩,h5,?_⟩
 cases pd with
 | none=>exact h6
 | some c=>cases c <;> first | exact h6 | exact h6.elim
theorem round_i {m:Nat} {N:FN} {id:Nat} {o:LoopState→Option Code→AObj} {Q:AV→List AObj→Prop} {fr:List (Nat × AV)} {H:List AObj} (h1:H[id]?=some (o .busy none)) (h2:Q (.bool true) (H.set id (o .ready none))):roundQ m N id o Q .normal ⟨fr,H⟩ :=
 ⟨H,Ent.fr trivial,h1,h2⟩
theorem back_i {X:Type} {P:Program} {m:Nat} {N:FN} {k:List It} {Q:Exit→AS→Prop} {inv:X→Prop} {st:X→AS} {μ:X→Nat} {x:X} {fr:List (Nat × AV)} {H:List AObj} (x':X) (h1:inv x') (h2:μ x'<μ x) (h3:Ent m N ⟨fr,H⟩ (st x')):Back m N inv st μ x k P Q .normal ⟨fr,H⟩:=⟨x',h1,h2,h3⟩
def getC (b:Bool) (v:AV) (r:List (Nat × AV)) (t:Nat):AV:=match b with | true=>v | false=>get r t
theorem getC_true {v:AV} {r:List (Nat × AV)} {t:Nat}:getC true v r t=v:=rfl
theorem getC_false {v:AV} {r:List (Nat × AV)} {t:Nat}:getC false v r t=get r t:=rfl
theorem get_cons {d t:Nat} {v:AV} {r:List (Nat × AV)}:get ((d,v)::r) t=getC (d == t) v r t:=by
 simp only [get]
 by_cases h:d=t
 · subst h;simp [getC]
 · have:(d == t)=false:=by simpa using h
   rw [this,if_neg h];rfl
theorem get_nil {t:Nat}:get [] t=.junk:=rfl
theorem IdxR_ints {P:Program} {m:Nat} {N:FN} {kk:IntKind} {xs:List Int} {n:Int} {d:Nat} {c:Kn} (h0:0≤n) (h1:n<xs.length):IdxR P m N (xs.map (AV.int kk)) n d c=rK P m N c d (.vp [.int kk (xs.getD n.toNat 0)]) :=
 IdxR_map (cs:=fun x=>[.int kk x]) (fun _=>rfl) h0 h1
theorem wrap_i64 {n:Int} (h0 : -9223372036854775808≤n) (h1:n≤9223372036854775807):IntKind.i64.wrap n=n:=IntWalk.i64_in n ⟨h0,h1⟩
end Go.Al
