/-
 A part of the proof.
-/
import Derived.Test.YtfhoeghdioofmaaGreatEll
import Derived.Test.YtfhoeghdioofmaaGreatPcc
set_option linter.unusedSimpArgs false
set_option linter.unusedVariables false
namespace Go.Proofs.Try
open Go.Al
set_option maxRecDepth 100000
set_option maxHeartbeats 16000000
def TsF (X:Nat) (H:List AObj) (u:TS) (O:Nat->Prop):Prop:=∃ s:SR,s.At H/\s.X=X/\s.ts=u/\∀ i,O i->i ∉ s.ids/\i<H.length
abbrev Kp (O:Nat->Prop) (H H':List AObj):Prop:=H.length<=H'.length/\∀ i,O i->H'[i]?=H[i]?
section
variable {X:Nat} {H H':List AObj} {u u':TS} {O:Nat->Prop} {N:Nat}
theorem TsF.box (h:TsF X H u O):∃ cs,H[X]?=some (.box cs):=by
 obtain ⟨s,h1,rfl,_⟩:=h
 exact ⟨_,h1.box⟩
theorem TsF.weak {O':Nat->Prop} (h:TsF X H u O) (hO:∀ i,O' i->O i):TsF X H u O':=by
 obtain ⟨s,h1,h2,h3,h4⟩:=h
 exact ⟨s,h1,h2,h3,fun i hi=>h4 i (hO i hi)⟩
theorem TsF.ne (h:TsF X H u O) {i:Nat} (hi:O i):i≠X/\i<H.length:=by
 obtain ⟨s,h1,h2,h3,h4⟩:=h
 refine ⟨fun e=>(h4 i hi).1 ?_,(h4 i hi).2⟩
 rw [e,<- h2];exact s.X_mem
theorem TsF.stay {O':Nat->Prop} (h:TsF X H u O) (hs:Stay O H H') (hO:∀ i,O' i->(O i\/H.length<=i)/\i<H'.length):TsF X H' u O':=by
 obtain ⟨s,h1,h2,h3,h4⟩:=h
 refine ⟨s,h1.stay hs fun i hi ho=>(h4 i ho).1 hi,h2,h3,fun i hi=>?_⟩
 obtain ⟨k1,k2⟩:=hO i hi
 refine ⟨fun hm=>?_,k2⟩
 rcases k1 with k1 | k1
 . exact (h4 i k1).1 hm
 . have:=h1.lt i hm;omega
theorem TsF.push (h:TsF X H u O) (o:AObj):TsF X (H++[o]) u (fun i=>O i\/i=H.length):=by
 refine h.stay (Stay.app _ _ _) fun i hi=>?_
 rcases hi with hi | rfl
 . exact ⟨.inl hi,by have:=(h.ne hi).2;simp;omega⟩
 . exact ⟨.inr (Nat.le_refl _),by simp⟩
theorem Upd.tsf {s s':SR} (hu:Upd s s' H H') (hs:s.At H) (hX:s.X=X) (ht:s'.ts=u') (hO:∀ i,O i->i ∉ s.ids/\i<H.length):TsF X H' u' O/\Kp O H H':=by
 have hl:=hu.stay.1
 refine ⟨⟨s',hu.at',hu.x.trans hX,ht,fun i hi=>?_⟩,hl,fun i hi=>hu.stay.2 i (hO i hi).2 (hO i hi).1⟩
 obtain ⟨k1,k2⟩:=hO i hi
 refine ⟨fun hm=>?_,by omega⟩
 rcases hu.own i hm with h | h
 . exact k1 h
 . omega
theorem Ext.tsf (hx:Ext H H') (h:TsF X H u O):TsF X H' u O/\Kp O H H':=by
 obtain ⟨s,h1,h2,h3,h4⟩:=h
 have hl:=hx.1
 exact ⟨⟨s,h1.ext hx,h2,h3,fun i hi=>⟨(h4 i hi).1,by have:=(h4 i hi).2;omega⟩⟩,hl,fun i hi=>hx.2 i (h4 i hi).2 id⟩
theorem f13 (h:TsF X H u O) (hok:OkS N u) (hN:N<100000) (c:CL) (hv:c.vals.length<=4398046510976):ACalls E.P 13 [.op X 0,c.av] H (fun r H'=>r=(doS u c).1.av/\TsF X H' (doS u c).2 O/\Kp O H H'):=by
 obtain ⟨s,hs,rfl,rfl,hO⟩:=h
 refine (c13 hs hok hN c hv).mono ?_
 rintro r H' ⟨rfl,s',hu,ht⟩
 exact ⟨rfl,hu.tsf hs rfl ht hO⟩
theorem f22 (h:TsF X H u O):ACalls E.P 22 [.op X 0] H (fun r H'=>r=.int .i64 u.shown/\H'=H):=by
 obtain ⟨s,hs,rfl,rfl,hO⟩:=h
 exact c22 hs
theorem f40 (h:TsF X H u O) (hok:OkS N u) (a:Int):ACalls E.P 40 [.op X 0,.int .i64 a] H (fun r H'=>(∃ b:Bool,(b=true↔SafeS (histS u) a)/\r=.bool b)/\TsF X H' u O/\Kp O H H'):=by
 have h':=h
 obtain ⟨s,hs,rfl,rfl,hO⟩:=h
 refine (c40 hs (by have:=hok.sr.2.1;omega) (by have:=hok.sr.2.2;omega) (fun a ha=>(hok.sr.1 a ha).1) a).mono ?_
 rintro r H' ⟨rfl,hx⟩
 exact ⟨⟨_,by simp,rfl⟩,hx.tsf h'⟩
end
noncomputable def runT (u:TS) (l:List CL):TS:=l.foldl (fun u c=>(doS u c).2) u
theorem runT_next (u:TS) {l:List CL} {i:Nat} (h:i<l.length):runT u (l.take (i+1))=(doS (runT u (l.take i)) (l.getD i default)).2:=by
 rw [take_succD h,runT,List.foldl_append];rfl
def t0 (last:Int):TS:=⟨last,last,0,[],[]⟩
theorem run_ok {last:Int} (hl:okLast last) {l:List CL} (hn:l.length<100000):∀ i,i<=l.length->OkS i (runT (t0 last) (l.take i))/\IvS (runT (t0 last) (l.take i))
 | 0,_=>⟨okS_new last,IvS.new hl⟩
 | i+1,hi=>by
   obtain ⟨h1,h2⟩:=run_ok hl hn i (by omega)
   rw [runT_next _ (by omega)]
   exact ⟨h1.do (by omega) _,h2.do h1 _⟩
theorem f11s {last:Int} (h:okLast last) (H:List AObj) (O:Nat->Prop) (hO:∀ i,O i->i<H.length):ACalls E.P 11 [.int .i64 last] H (fun r H'=>∃ X,r=.op X 0/\TsF X H' (t0 last) O/\Kp O H H'):=by
 refine (c11 last).mono ?_
 rintro r H' (⟨h1,_⟩ | ⟨_,s,hs,rfl,ht,hx,hi⟩)
 . exact absurd h h1
 . have hl:=hx.1
   exact ⟨s.X,rfl,⟨s,hs,rfl,ht,fun i h1=>⟨fun hm=>by have:=hi i hm;have:=hO i h1;omega,by have:=hO i h1;omega⟩⟩,hl,fun i h1=>hx.2 i (hO i h1) id⟩
end Go.Proofs.Try
