/-
 A part of the proof: see the text of the law.
-/
import Derived.Test.YtchlampphcaomaaGreatDoorAlphaD
set_option linter.unusedSimpArgs false
set_option linter.unusedVariables false
namespace Go.Al
section
variable {P:Program} {m:Nat} {N:FN}
theorem piP_mono {fr:List (Nat × AV)} {H:List AObj} {k k':Nat→AV→Prop} (hk:∀ d x,k d x→k' d x) {i:PI} (h:piP fr H k i):piP fr H k' i:=by
 cases i
 case idx d sz x i =>
  simp only [piP] at h ⊢
  split at h
  · refine ⟨h.1,?_⟩
    obtain ⟨y,h1,h2,h3⟩:=h.2
    refine ⟨y,h1,h2,?_⟩
    split at h3
    · rename_i hcs;simp only [hcs];exact hk _ _ h3
    · exact h3.elim
  · refine ⟨h.1,?_⟩
    have h:=h.2
    split at h
    · exact ⟨h.1,h.2.1,hk _ _ h.2.2⟩
    · exact h
  · refine ⟨h.1,?_⟩
    have h:=h.2
    split at h
    · exact ⟨h.1,h.2.1,hk _ _ h.2.2⟩
    · exact h
  · exact h
 case aidx d len sz x i =>
  simp only [piP] at h ⊢
  split at h
  · exact ⟨h.1,h.2.1,hk _ _ h.2.2⟩
  · exact h
 case aget d len agg size x i =>
  simp only [piP] at h ⊢
  split at h
  · refine ⟨h.1,h.2.1,?_⟩
    have h:=h.2.2
    unfold optP at h ⊢
    split at h
    · exact hk _ _ h
    · exact h
  · exact h
 case sget d x i =>
  simp only [piP] at h ⊢
  split at h
  · obtain ⟨h1,h2,h3⟩:=h
    exact ⟨h1,h2,hk _ _ h3⟩
  · exact h
 case quo d x y =>
  simp only [piP] at h ⊢
  split at h
  · exact ⟨h.1,h.2.1,hk _ _ h.2.2⟩
  · exact h
 case rem d x y =>
  simp only [piP] at h ⊢
  split at h
  · exact ⟨h.1,h.2.1,hk _ _ h.2.2⟩
  · exact h
 case shl d x y =>
  simp only [piP] at h ⊢
  split at h
  · exact ⟨h.1,hk _ _ h.2⟩
  · exact h
 case shr d x y =>
  simp only [piP] at h ⊢
  split at h
  · exact ⟨h.1,hk _ _ h.2⟩
  · exact h
 case cut d sz x lo hi =>
  cases hi <;> simp only [piP] at h ⊢ <;> split at h
  · exact ⟨h.1,h.2.1,h.2.2.1,hk _ _ h.2.2.2⟩
  · refine ⟨h.1,?_⟩
    have h:=h.2
    split at h
    · exact ⟨h.1,h.2.1,hk _ _ h.2.2⟩
    · exact h
  · refine ⟨h.1,?_⟩
    have h:=h.2
    split at h
    · exact ⟨h.1,h.2.1,hk _ _ h.2.2⟩
    · exact h
  · exact h
  · exact ⟨h.1,h.2.1,h.2.2.1,h.2.2.2.1,hk _ _ h.2.2.2.2⟩
  · refine ⟨h.1,?_⟩
    have h:=h.2
    split at h
    · exact ⟨h.1,h.2.1,h.2.2.1,hk _ _ h.2.2.2⟩
    · exact h
  · refine ⟨h.1,?_⟩
    have h:=h.2
    split at h
    · exact ⟨h.1,h.2.1,h.2.2.1,hk _ _ h.2.2.2⟩
    · exact h
  · exact h
 case pre d sz x hi =>
  cases hi <;> simp only [piP] at h ⊢ <;> split at h
  · exact ⟨h.1,hk _ _ h.2⟩
  · refine ⟨h.1,?_⟩
    have h:=h.2
    split at h
    · exact hk _ _ h
    · exact h
  · exact h
  · exact ⟨h.1,h.2.1,h.2.2.1,hk _ _ h.2.2.2⟩
  · refine ⟨h.1,?_⟩
    have h:=h.2
    split at h
    · exact ⟨h.1,h.2.1,hk _ _ h.2.2⟩
    · exact h
  · refine ⟨h.1,?_⟩
    have h:=h.2
    split at h
    · exact ⟨h.1,h.2.1,hk _ _ h.2.2⟩
    · exact h
  · exact h
 case len d x =>
  simp only [piP] at h ⊢
  split at h
  · exact fun hl=>hk _ _ (h hl)
  · exact hk _ _ h
  · split at h
    · exact fun hl=>hk _ _ (h hl)
    · exact h
  · split at h
    · exact fun hl=>hk _ _ (h hl)
    · exact h
  · exact h
 case slen d x =>
  simp only [piP] at h ⊢
  split at h
  · exact hk _ _ h
  · exact h
 case mlen d x =>
  simp only [piP] at h ⊢
  split at h
  · exact hk _ _ h
  · split at h
    · exact hk _ _ h
    · exact h
  · exact h
 case pre3 =>
  simp only [piP] at h ⊢
  split at h
  · exact ⟨h.1,h.2.1,h.2.2.1,h.2.2.2.1,hk _ _ h.2.2.2.2⟩
  · exact h
 case look d ok kd z mm x =>
  simp only [piP] at h ⊢
  have op:∀ {o:Option AV},optP o (k d)→optP o (k' d):=fun {o} h=>by
   unfold optP at h ⊢
   split at h
   · exact hk _ _ h
   · exact h
  split at h
  · split at h
    · exact op h
    · exact h
  · exact op h
  · exact op h
  · exact h
 case ent d it =>
  simp only [piP] at h ⊢
  split at h
  · split at h
    · split at h
      · obtain ⟨h1,i,b,kx,vx,h2,h3,h4,h5,h6⟩:=h
        exact ⟨h1,i,b,kx,vx,h2,h3,h4,h5,hk _ _ h6⟩
      · exact h
    · exact h
  · exact h
theorem miW_mono {fr:List (Nat × AV)} {H:List AObj} {k k':List (Nat × AV)→List AObj→Prop} (hk:∀ fr H,k fr H→k' fr H) {i:MI} (h:miW P fr H k i):miW P fr H k' i:=by
 cases i with
 | v i =>
   simp only [miW] at h ⊢
   split at h
   · exact hk _ _ h
   · exact h
 | p i=>exact piP_mono (k:=fun d x=>k ((d,x)::fr) H) (k':=fun d x=>k' ((d,x)::fr) H) (fun d x h=>hk _ _ h) h
 | e i=>exact eiW_mono' hk h
theorem mopsW_mono {k k':List (Nat × AV)→List AObj→Prop} (hk:∀ fr H,k fr H→k' fr H):∀ (l:List (Option (Nat × Bool) × MI)) (fr:List (Nat × AV)) (H:List AObj),mopsW P l k fr H→mopsW P l k' fr H
 | [],fr,H,h=>hk _ _ h
 | (none,i)::r,fr,H,h=>miW_mono (fun fr H h=>mopsW_mono hk r fr H h) h
 | (some (t,want),i)::r,fr,H,h=>by
   simp only [mopsW] at h ⊢
   split at h
   · exact ⟨fun hb=>miW_mono (fun fr H h=>mopsW_mono hk r fr H h) (h.1 hb),fun hb=>mopsW_mono hk r _ _ (h.2 hb)⟩
   · exact mopsW_mono hk r _ _ h
   · exact h
theorem guardW_mono {g:Option (Nat × Bool)} {i:MI} {fr0 fr:List (Nat × AV)} {yes no yes' no':List (Nat × AV)→List (Nat × AV)→Prop} (h1:∀ a b,yes a b→yes' a b) (h2:∀ a b,no a b→no' a b) (h:guardW g i fr0 fr yes no):guardW g i fr0 fr yes' no':=by
 unfold guardW at h ⊢
 split at h
 · exact h1 _ _ h
 · split at h
   · exact ⟨fun hb=>h1 _ _ (h.1 hb),fun hb=>h2 _ _ (h.2 hb)⟩
   · exact h2 _ _ h
   · exact h
theorem pureW_mono {L:List Nat} {fr:List (Nat × AV)} {H:List AObj} {k k':Nat→AV→Prop} (hk:∀ d x,k d x→k' d x) {i:MI} (h:pureW L fr H k i):pureW L fr H k' i:=by
 cases i with
 | v i =>
   simp only [pureW] at h ⊢
   split at h
   · exact hk _ _ h
   · exact h
 | p i=>exact ⟨h.1,piP_mono hk h.2⟩
 | e i=>exact h
theorem altW_mono {n0:Nat} {L:List Nat} {fr:List (Nat × AV)} {H:List AObj} {k k':List (Nat × AV)→List AObj→Prop} (hk:∀ fr H,k fr H→k' fr H) {i:MI} (h:altW P n0 L fr H k i):altW P n0 L fr H k' i:=by
 cases i with
 | v i=>exact miW_mono (P:=P) (i:=.v i) hk h
 | p i=>exact miW_mono (P:=P) (i:=.p i) hk h
 | e i =>
   cases i
   case call d f args =>
    obtain ⟨ids,bor,Q',h0,h1,h2⟩:=h
    exact ⟨ids,bor,Q',h0,h1,fun r H' hq=>⟨(h2 r H' hq).1,hk _ _ (h2 r H' hq).2⟩⟩
   case callv d f args =>
    simp only [altW] at h ⊢
    split at h
    · obtain ⟨ids,bor,Q',h0,h1,h2⟩:=h
      exact ⟨ids,bor,Q',h0,h1,fun r H' hq=>⟨(h2 r H' hq).1,hk _ _ (h2 r H' hq).2⟩⟩
    · exact h
   all_goals exact ⟨h.1,eiW_mono' hk h.2⟩
theorem anyW_mono {L:List Nat} {k k':List (Nat × AV)→List AObj→Prop} (hk:∀ fr H,k fr H→k' fr H):∀ (t:AT) (H0:List AObj) (fr0 fr:List (Nat × AV)) (H:List AObj),anyW P L k t H0 fr0 fr H→anyW P L k' t H0 fr0 fr H
 | .done,_,_,_,_,h=>hk _ _ h
 | .stop,_,_,_,_,h=>h
 | .base t,_,_,_,_,⟨L',h1,h⟩=>⟨L',h1,anyW_mono (L:=L') hk t _ _ _ _ h⟩
 | .pure0 g i t,_,_,_,_,h=>guardW_mono (fun _ _ h=>pureW_mono (fun _ _ h=>anyW_mono hk t _ _ _ _ h) h) (fun _ _ h=>anyW_mono hk t _ _ _ _ h) h
 | .pure1 g i t,_,_,_,_,h=>guardW_mono (fun _ _ h=>⟨h.1,pureW_mono (fun _ _ h=>anyW_mono hk t _ _ _ _ h) h.2⟩) (fun _ _ h=>anyW_mono hk t _ _ _ _ h) h
 | .alt g i t rest,_,_,_,_,h=>⟨guardW_mono (fun _ _ h=>altW_mono (fun _ _ h=>anyW_mono hk t _ _ _ _ h) h) (fun _ _ h=>anyW_mono hk t _ _ _ _ h) h.1,anyW_mono hk rest _ _ _ _ h.2⟩
theorem rngQ_mono {k:Nat} {fn:FuncId} {ps:Array Tmp} {as bd:Code} {Q Q':Exit→AS→Prop} (hq:∀ e s,Q e s→Q' e s) {fr:List (Nat × AV)} {H':List AObj} (h:rngQ m N k fn ps as bd Q fr H'):rngQ m N k fn ps as bd Q' fr H':=by
 obtain ⟨st,pd,fr2,h1,h2,s',h3,h4⟩:=h
 refine ⟨st,pd,fr2,h1,h2,s',h3,?_⟩
 cases pd with
 | none=>exact hq _ _ h4
 | some c=>cases c <;> first | exact hq _ _ h4 | exact h4.elim
theorem MW_mono:∀ (c:MC) {Q Q':Exit→AS→Prop} (hq:∀ e s,Q e s→Q' e s) (s:AS),MW P m N c Q s→MW P m N c Q' s
 | .skip,Q,Q',hq,s,h=>hq _ _ h
 | .ret,Q,Q',hq,s,h=>hq _ _ h
 | .exit id,Q,Q',hq,s,h=>hq _ _ h
 | .seq a b,Q,Q',hq,s,h=>MW_mono a (fun e s h=>by
    cases e with
    | normal=>exact MW_mono b hq s h
    | _=>exact hq _ _ h) s h
 | .cond t a b,Q,Q',hq,s,h=>by
   simp only [MW] at h ⊢
   split at h
   · exact ⟨fun hb=>MW_mono a hq _ (h.1 hb),fun hb=>MW_mono b hq _ (h.2 hb)⟩
   · exact h
 | .block id c,Q,Q',hq,s,h=>MW_mono c (fun e s h=>by
    cases e with
    | exit id' =>
      simp only [blockQ] at h ⊢
      split
      · rename_i he;rw [if_pos he] at h;exact hq _ _ h
      · rename_i he;rw [if_neg he] at h;exact hq _ _ h
    | _=>exact hq _ _ h) s h
 | .loop c,Q,Q',hq,s,h=>by
   obtain ⟨X,inv,st,μ,x0,h0,h1,h2⟩:=h
   refine ⟨X,inv,st,μ,x0,h0,h1,fun x hx=>MW_mono c (fun e s h=>?_) _ (h2 x hx)⟩
   cases e with
   | normal=>exact h
   | _=>exact hq _ _ h
 | .ops l,Q,Q',hq,s,h=>mopsW_mono (fun fr H h=>hq _ _ h) l _ _ h
 | .any false t,Q,Q',hq,s,⟨L,h⟩=>⟨L,anyW_mono (fun fr H h=>hq _ _ h) t _ _ _ _ h⟩
 | .any true t,Q,Q',hq,s,⟨L,h⟩=>⟨L,anyW_mono (fun fr H ⟨s',h1,h2⟩=>⟨s',h1,hq _ _ h2⟩) t _ _ _ _ h⟩
 | .rngf f ps x y,Q,Q',hq,s,⟨h1,fr',h2,h3⟩=>⟨h1,fr',h2,fun fn as bd hy=>by
    have h:=h3 fn as bd hy
    revert h
    split <;> intro h
    · exact h.mono fun r H' hr=>rngQ_mono hq hr
    · exact h⟩
end
inductive It where
 | o (l:List (Option (Nat × Bool) × MI))
 | c (x:MC)
 | b (id:Nat)
 | f
def R (P:Program) (m:Nat) (N:FN):List It→(Exit→AS→Prop)→Exit→List (Nat × AV)→List AObj→Prop
 | [],Q,e,fr,H=>Q e ⟨fr,H⟩
 | .o l::k,Q,e,fr,H=>match e with
   | .normal=>mopsW P l (fun fr H=>R P m N k Q .normal fr H) fr H
   | e=>R P m N k Q e fr H
 | .c x::k,Q,e,fr,H=>match e with
   | .normal=>MW P m N x (fun e s=>R P m N k Q e s.fr s.H) ⟨fr,H⟩
   | e=>R P m N k Q e fr H
 | .b id::k,Q,e,fr,H=>match e with
   | .exit id'=>if id'=id then R P m N k Q .normal fr H else R P m N k Q (.exit id') fr H
   | e=>R P m N k Q e fr H
 | .f::k,Q,e,fr,H=>match e with
   | .normal=>∃ s',Ent m N ⟨fr,H⟩ s'∧R P m N k Q .normal s'.fr s'.H
   | e=>R P m N k Q e fr H
section
variable {P:Program} {m:Nat} {N:FN} {k:List It} {l:List (Option (Nat × Bool) × MI)} {Q:Exit→AS→Prop} {fr:List (Nat × AV)} {H:List AObj} {e:Exit}
theorem Rend:R P m N [] Q e fr H=Q e ⟨fr,H⟩:=rfl
theorem Rskip:R P m N (.c .skip::k) Q .normal fr H=R P m N k Q .normal fr H:=rfl
theorem Rret:R P m N (.c .ret::k) Q .normal fr H=R P m N k Q .ret fr H:=rfl
theorem Rexit {id:Nat}:R P m N (.c (.exit id)::k) Q .normal fr H=R P m N k Q (.exit id) fr H:=rfl
theorem Rseq {a b:MC}:R P m N (.c (.seq a b)::k) Q .normal fr H=R P m N (.c a :: .c b::k) Q .normal fr H:=by
 simp only [R,MW]
 congr 1
 funext e s
 cases e <;> rfl
theorem Rblock {id:Nat} {c:MC}:R P m N (.c (.block id c)::k) Q .normal fr H=R P m N (.c c :: .b id::k) Q .normal fr H:=by
 simp only [R,MW]
 congr 1
 funext e s
 cases e <;> simp only [blockQ]
theorem Rops:R P m N (.c (.ops l)::k) Q .normal fr H=R P m N (.o l::k) Q .normal fr H:=rfl
theorem Rb {id:Nat}:R P m N (.b id::k) Q .normal fr H=R P m N k Q .normal fr H:=rfl
theorem Rbret {id:Nat}:R P m N (.b id::k) Q .ret fr H=R P m N k Q .ret fr H:=rfl
theorem Rbexit {id id':Nat}:R P m N (.b id::k) Q (.exit id') fr H=if id'=id then R P m N k Q .normal fr H else R P m N k Q (.exit id') fr H:=rfl
theorem Rcret {c:MC}:R P m N (.c c::k) Q .ret fr H=R P m N k Q .ret fr H:=rfl
theorem Rcexit {c:MC} {id:Nat}:R P m N (.c c::k) Q (.exit id) fr H=R P m N k Q (.exit id) fr H:=rfl
theorem Ro:R P m N (.o []::k) Q .normal fr H=R P m N k Q .normal fr H:=rfl
def condR (P:Program) (m:Nat) (N:FN) (v:AV) (t:Nat) (x y:MC) (k:List It) (Q:Exit→AS→Prop) (fr:List (Nat × AV)) (H:List AObj):Prop:=match v with
 | .bool b=>(b=true→R P m N (.c x::k) Q .normal ((t,.bool true)::fr) H)∧(b=false→R P m N (.c y::k) Q .normal ((t,.bool false)::fr) H)
 | _=>False
theorem Rcond {t:Nat} {x y:MC}:R P m N (.c (.cond t x y)::k) Q .normal fr H=condR P m N (get fr t) t x y k Q fr H:=by
 simp only [R,MW,condR];rfl
theorem condT {t:Nat} {x y:MC}:condR P m N (.bool true) t x y k Q fr H=R P m N (.c x::k) Q .normal ((t,.bool true)::fr) H:=by simp [condR]
theorem condF {t:Nat} {x y:MC}:condR P m N (.bool false) t x y k Q fr H=R P m N (.c y::k) Q .normal ((t,.bool false)::fr) H:=by simp [condR]
theorem cond_i {b:Bool} {t:Nat} {x y:MC} (h1:b=true→R P m N (.c x::k) Q .normal ((t,.bool true)::fr) H) (h2:b=false→R P m N (.c y::k) Q .normal ((t,.bool false)::fr) H):condR P m N (.bool b) t x y k Q fr H:=⟨h1,h2⟩
def LoopR (P:Program) (m:Nat) (N:FN) (c:MC) (k:List It) (Q:Exit→AS→Prop) (fr:List (Nat × AV)) (H:List AObj):Prop:=R P m N (.c (.loop c)::k) Q .normal fr H
theorem Rloop {c:MC}:R P m N (.c (.loop c)::k) Q .normal fr H=LoopR P m N c k Q fr H:=rfl
def Back {X:Type} (m:Nat) (N:FN) (inv:X→Prop) (st:X→AS) (μ:X→Nat) (x:X) (k:List It) (P:Program) (Q:Exit→AS→Prop):Exit→AS→Prop
 | .normal,s=>∃ x',inv x'∧μ x'<μ x∧Ent m N s (st x')
 | e,s=>R P m N k Q e s.fr s.H
theorem loop_i {X:Type} (inv:X→Prop) (st:X→AS) (μ:X→Nat) {c:MC} (x0:X) (h0:inv x0) (he:Ent m N ⟨fr,H⟩ (st x0))
 (hr:∀ x,inv x→R P m N [.c c] (Back m N inv st μ x k P Q) .normal (st x).fr (st x).H):LoopR P m N c k Q fr H:=by
 refine ⟨X,inv,st,μ,x0,h0,he,fun x hx=>?_⟩
 have:=hr x hx
 simp only [R] at this
 have e:(fun e s=>Back m N inv st μ x k P Q e ⟨s.fr,s.H⟩)=seqQ (fun s'=>∃ x',inv x'∧μ x'<μ x∧Ent m N s' (st x')) (fun e s=>R P m N k Q e s.fr s.H):=by
  funext e s
  cases e <;> rfl
 rw [e] at this
 exact this
theorem back_ret {X:Type} {inv:X→Prop} {st:X→AS} {μ:X→Nat} {x:X}:Back m N inv st μ x k P Q .ret ⟨fr,H⟩=R P m N k Q .ret fr H:=rfl
theorem back_exit {X:Type} {inv:X→Prop} {st:X→AS} {μ:X→Nat} {x:X} {id:Nat}:Back m N inv st μ x k P Q (.exit id) ⟨fr,H⟩=R P m N k Q (.exit id) fr H:=rfl
end
end Go.Al
