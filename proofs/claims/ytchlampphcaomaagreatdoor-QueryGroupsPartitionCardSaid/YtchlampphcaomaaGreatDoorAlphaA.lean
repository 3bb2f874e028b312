/-
 A part of the proof: see the text of the law.
-/
import Derived.WalkKit
import Derived.Deep.LoopGhost
import Derived.Deep.Quiet
import Derived.RangeFuncRecord
import Derived.Sort.LoopGhostIn
import Derived.DeepKeys3
set_option linter.unusedSimpArgs false
set_option linter.unusedVariables false
namespace Go.Al
inductive AV where
 | int (k:IntKind) (n:Int)
 | bool (b:Bool)
 | str (s:ByteArray)
 | raw (v:Value)
 | junk
 | bad
 | agg (xs:List AV)
 | tup (xs:List AV)
 | view (sz:Nat) (xs:List AV)
 | vp (cs:List AV)
 | mview (ks vs:List AV)
 | slc (id sz n:Nat)
 | op (id off:Nat)
 | ep (id sz i off:Nat)
 | mp (id:Nat)
 | itr (id:Nat)
 | fn (f:Fn) (first caps:List AV)
 | ifc (t:TypeId) (x:AV)
 | yld (id:Nat)
 | sub (id sz off n:Nat)
 | full (sz:Nat) (xs:List AV)
 deriving Inhabited
inductive AObj where
 | box (cs:List AV)
 | arr (E:TypeId) (sz:Nat) (xs:List AV)
 | map (ks vs:List AV) (bs:List Nat) (c:Nat)
 | mit (mid:Option Nat) (since:Nat) (seen:List Nat) (last:Nat)
 | lost
 | sit (s:ByteArray) (pos:Nat)
 | dead
 | loop (st:LoopState) (pend:Option Code) (fr:List (Nat × AV)) (n:Nat) (fn:FuncId) (ps:Array Tmp) (as bd:Code)
 deriving Inhabited
abbrev Gm:=Nat→Option Obj
abbrev Sg:=List (Option (Option Nat × Nat))
def CellsAt (o:Option Obj) (off:Nat) (cs:List Value):Prop:=∃ c E fr,o=some (.cells c E fr)∧∀ j u,cs[j]?=some u→c[off+j]?=some u
def flat (vs:List Value):List Value:=vs.flatMap fun v=>v.cells.toList
def onec (v:Value):Prop:=v.oneCell'=true
def okEl (sz:Nat) (u:Value):Prop:=u.cells.size=sz∧∀ z ∈ u.cells.toList,onec z
def SameMap (l l':List MapEntry):Prop:=l'=l∨(l.Perm l'∧(l'.map (·.key)).Nodup∧∃ kd,∀ e ∈ l',∃ n,e.key=.int kd n)
def MapAt (o:Option Obj) (ks vs:List Value):Prop :=
 ∃ es clock es',o=some (.map es clock)∧es'.map (·.key)=ks∧es'.map (·.val)=vs∧SameMap es.toList es'
def MapAtB (o:Option Obj) (ks vs:List Value) (bs:List Nat) (c:Nat):Prop :=
 ∃ es,o=some (.map es c)∧es.toList.map (·.key)=ks∧es.toList.map (·.val)=vs∧es.toList.map (·.born)=bs∧(∀ b ∈ bs,b<c)∧bs.Pairwise (· < ·)
theorem MapAtB.at {o:Option Obj} {ks vs:List Value} {bs:List Nat} {c:Nat} (h:MapAtB o ks vs bs c):MapAt o ks vs:=by
 obtain ⟨es,h1,h2,h3,h4,h5,h6⟩:=h
 exact ⟨es,c,es.toList,h1,h2,h3,.inl rfl⟩
mutual
def RepV (γ:Gm) (σ:Sg):AV→Value→Prop
 | .int k n,v=>v=.int k n
 | .bool b,v=>v=.bool b
 | .str s,v=>v=.string s
 | .raw u,v=>v=u
 | .junk,_=>True
 | .bad,_=>False
 | .agg xs,v=>∃ vs,v=.agg vs.toArray∧RepVs γ σ xs vs∧∀ u ∈ vs,onec u
 | .tup xs,v=>∃ vs,v=.tuple vs.toArray∧RepVs γ σ xs vs
 | .view sz xs,v=>∃ a n c vs,v=.slice a n c∧RepVs γ [] xs vs∧vs.length=n∧n≤c∧c≤maxLen∧(∀ u ∈ vs,okEl sz u) ∧
    (n≠0→∃ b off,a=some ⟨b,off,none⟩∧CellsAt (γ b) off (flat vs))
 | .vp cs,v=>∃ b off vs,v=.pointer (some ⟨b,off,none⟩)∧RepVs γ [] cs vs∧(∀ u ∈ vs,onec u)∧CellsAt (γ b) off vs
 | .mview ks vs,v=>∃ kv vv,RepVs γ [] ks kv∧RepVs γ [] vs vv∧((v=.map none∧kv=[]∧vv=[])∨∃ b,v=.map (some b)∧MapAt (γ b) kv vv)
 | .slc id sz n,v=>∃ e,σ[id]?=some e∧onec v∧∀ blk cap,e=some (blk,cap)→v=.slice (blk.map (⟨·,0,none⟩)) n cap∧n≤cap∧cap≤maxLen
 | .op id off,v=>∃ e,σ[id]?=some e∧onec v∧∀ b cap,e=some (some b,cap)→v=.pointer (some ⟨b,off,none⟩)
 | .ep id sz i off,v=>∃ e,σ[id]?=some e∧onec v∧∀ b cap,e=some (some b,cap)→v=.pointer (some ⟨b,i * sz+off,none⟩)
 | .mp id,v=>∃ e,σ[id]?=some e∧onec v∧∀ b cap,e=some (some b,cap)→v=.map (some b)
 | .itr id,v=>∃ e,σ[id]?=some e∧onec v∧∀ b cap,e=some (some b,cap)→v=.pointer (some ⟨b,0,none⟩)
 | .fn f first caps,v=>∃ fv cv,v=.func f fv.toArray cv.toArray∧RepVs γ σ first fv∧RepVs γ σ caps cv
 | .ifc t x,v=>∃ u,v=.iface t u∧RepV γ σ x u
 | .yld id,v=>∃ e,σ[id]?=some e∧onec v∧∀ b cap,e=some (some b,cap)→v=.func (.yield b) #[] #[]
 | .sub id sz off n,v=>∃ e,σ[id]?=some e∧onec v∧∀ blk cap,e=some (blk,cap)→∃ a,v=.slice a n (cap - off)∧off+n≤cap∧cap≤maxLen∧(cap≠off→∃ b,blk=some b∧a=some ⟨b,off * sz,none⟩)∧(off=0→a=blk.map (⟨·,0,none⟩))
 | .full sz xs,v=>∃ a n vs,v=.slice a n n∧RepVs γ [] xs vs∧vs.length=n∧n≤maxLen∧(∀ u ∈ vs,okEl sz u) ∧
    (n≠0→∃ b off,a=some ⟨b,off,none⟩∧CellsAt (γ b) off (flat vs))
def RepVs (γ:Gm) (σ:Sg):List AV→List Value→Prop
 | [],vs=>vs=[]
 | x::xs,vs=>∃ v vs',vs=v::vs'∧RepV γ σ x v∧RepVs γ σ xs vs'
end
def Gm.le (γ γ':Gm):Prop:=∀ b o,γ b=some o→γ' b=some o
def Sg.le (σ σ':Sg):Prop:=∀ (i:Nat) (e:Option (Option Nat × Nat)),σ[i]?=some e→σ'[i]?=some e∨σ'[i]?=some none
theorem Sg.le_refl (σ:Sg):Sg.le σ σ:=fun _ _ h=>.inl h
theorem Sg.le_ref {σ σ':Sg} (h:Sg.le σ σ') {id:Nat} {R:Option (Option Nat × Nat)→Prop} (hn:∀ e,R e→R none) (hr:∃ e,σ[id]?=some e∧R e):∃ e,σ'[id]?=some e∧R e:=by
 obtain ⟨e,h1,h2⟩:=hr
 rcases h id e h1 with h3 | h3
 · exact ⟨e,h3,h2⟩
 · exact ⟨none,h3,hn e h2⟩
theorem CellsAt.mono {o o':Option Obj} {off:Nat} {cs:List Value} (h:CellsAt o off cs) (ho:∀ x,o=some x→o'=some x):CellsAt o' off cs:=by
 obtain ⟨c,E,fr,h1,h2⟩:=h
 exact ⟨c,E,fr,ho _ h1,h2⟩
theorem MapAt.mono {o o':Option Obj} {ks vs:List Value} (h:MapAt o ks vs) (ho:∀ x,o=some x→o'=some x):MapAt o' ks vs:=by
 obtain ⟨es,c,es',h1,h2⟩:=h
 exact ⟨es,c,es',ho _ h1,h2⟩
mutual
theorem RepV.mono {γ γ':Gm} (hg:γ.le γ'):∀ (x:AV) (σ σ':Sg) (v:Value),Sg.le σ σ'→RepV γ σ x v→RepV γ' σ' x v
 | .int ..,_,_,_,_,h=>h
 | .bool ..,_,_,_,_,h=>h
 | .str ..,_,_,_,_,h=>h
 | .raw ..,_,_,_,_,h=>h
 | .junk,_,_,_,_,h=>h
 | .bad,_,_,_,_,h=>h
 | .agg xs,σ,σ',v,hs,h=>by
   obtain ⟨vs,h1,h2,h3⟩:=h
   exact ⟨vs,h1,RepVs.mono hg xs σ σ' vs hs h2,h3⟩
 | .tup xs,σ,σ',v,hs,h=>by
   obtain ⟨vs,h1,h2⟩:=h
   exact ⟨vs,h1,RepVs.mono hg xs σ σ' vs hs h2⟩
 | .view sz xs,σ,σ',v,hs,h=>by
   obtain ⟨a,n,c,vs,h1,h2,h3,h4,h5,h6,h7⟩:=h
   refine ⟨a,n,c,vs,h1,RepVs.mono hg xs [] [] vs (Sg.le_refl []) h2,h3,h4,h5,h6,fun hn=>?_⟩
   obtain ⟨b,off,e,hc⟩:=h7 hn
   exact ⟨b,off,e,hc.mono (hg b)⟩
 | .vp cs,σ,σ',v,hs,h=>by
   obtain ⟨b,off,vs,h1,h2,h3,h4⟩:=h
   exact ⟨b,off,vs,h1,RepVs.mono hg cs [] [] vs (Sg.le_refl []) h2,h3,h4.mono (hg b)⟩
 | .mview ks vs,σ,σ',v,hs,h=>by
   obtain ⟨kv,vv,h1,h2,h3⟩:=h
   refine ⟨kv,vv,RepVs.mono hg ks [] [] kv (Sg.le_refl []) h1,RepVs.mono hg vs [] [] vv (Sg.le_refl []) h2,?_⟩
   rcases h3 with h3 | ⟨b,e,hm⟩
   · exact .inl h3
   · exact .inr ⟨b,e,hm.mono (hg b)⟩
 | .slc id sz n,σ,σ',v,hs,h=>Sg.le_ref hs (fun _ h=>⟨h.1,by simp⟩) h
 | .op id off,σ,σ',v,hs,h=>Sg.le_ref hs (fun _ h=>⟨h.1,by simp⟩) h
 | .ep id sz i off,σ,σ',v,hs,h=>Sg.le_ref hs (fun _ h=>⟨h.1,by simp⟩) h
 | .mp id,σ,σ',v,hs,h=>Sg.le_ref hs (fun _ h=>⟨h.1,by simp⟩) h
 | .itr id,σ,σ',v,hs,h=>Sg.le_ref hs (fun _ h=>⟨h.1,by simp⟩) h
 | .fn f first caps,σ,σ',v,hs,h=>by
   obtain ⟨fv,cv,h1,h2,h3⟩:=h
   exact ⟨fv,cv,h1,RepVs.mono hg first σ σ' fv hs h2,RepVs.mono hg caps σ σ' cv hs h3⟩
 | .ifc t x,σ,σ',v,hs,h=>by
   obtain ⟨u,h1,h2⟩:=h
   exact ⟨u,h1,RepV.mono hg x σ σ' u hs h2⟩
 | .yld id,σ,σ',v,hs,h=>Sg.le_ref hs (fun _ h=>⟨h.1,by simp⟩) h
 | .sub id sz off n,σ,σ',v,hs,h=>Sg.le_ref hs (fun _ h=>⟨h.1,by simp⟩) h
 | .full sz xs,σ,σ',v,hs,h=>by
   obtain ⟨a,n,vs,h1,h2,h3,h4,h5,h6⟩:=h
   refine ⟨a,n,vs,h1,RepVs.mono hg xs [] [] vs (Sg.le_refl []) h2,h3,h4,h5,fun hn=>?_⟩
   obtain ⟨b,off,e,hc⟩:=h6 hn
   exact ⟨b,off,e,hc.mono (hg b)⟩
theorem RepVs.mono {γ γ':Gm} (hg:γ.le γ'):∀ (xs:List AV) (σ σ':Sg) (vs:List Value),Sg.le σ σ'→RepVs γ σ xs vs→RepVs γ' σ' xs vs
 | [],_,_,_,_,h=>h
 | x::xs,σ,σ',vs,hs,h=>by
   obtain ⟨v,vs',h1,h2,h3⟩:=h
   exact ⟨v,vs',h1,RepV.mono hg x σ σ' v hs h2,RepVs.mono hg xs σ σ' vs' hs h3⟩
end
end Go.Al
namespace Go.Al
def glob:Nat→Option AV
 | 0=>some (.mview [.int .i64 3,.int .i64 4,.int .i64 5] [.fn (.func 194) [] [],.fn (.func 196) [] [],.fn (.func 197) [] []])
 | _=>none
end Go.Al
namespace Go.Al
def get:List (Nat × AV)→Nat→AV
 | [],_=>.junk
 | (d,v)::r,t=>if d=t then v else get r t
structure AS where
 fr:List (Nat × AV)
 H:List AObj
def AS.put (s:AS) (dst:Option Tmp) (v:AV):AS:=match dst with | some d=>⟨(d,v)::s.fr,s.H⟩ | none=>s
def RepF (γ:Gm) (σ:Sg) (fr:List (Nat × AV)) (tmps:Array Value):Prop:=∀ t,RepV γ σ (get fr t) (tmps.getD t undef)
def RepO (γ:Gm) (σ:Sg) (w:World):Option (Option Nat × Nat)→AObj→Prop
 | some (some b,_),.box cs=>∃ vs E,w.heap[b]?=some (.cells vs.toArray E (0,0))∧RepVs γ σ cs vs∧∀ u ∈ vs,onec u
 | some (blk,cap),.arr E sz xs=>∃ vs,RepVs γ σ xs vs∧(∀ u ∈ vs,okEl sz u)∧0<sz∧xs.length≤cap∧w.ownsRow 0 E sz (.slice (blk.map (⟨·,0,none⟩)) xs.length cap) xs.length (flat vs)
 | some (some b,_),.map ks vs bs c=>∃ kv vv,RepVs γ σ ks kv∧RepVs γ σ vs vv∧MapAtB w.heap[b]? kv vv bs c
 | some (some b,_),.sit s pos=>w.heap[b]?=some (.stringIter s pos)
 | none,.dead=>True
 | some (some b,_),.mit none since seen last=>w.heap[b]?=some (.mapIter none since seen.toArray last)
 | some (some b,_),.mit (some id) since seen last=>∃ e,σ[id]?=some e∧∀ bm cap,e=some (some bm,cap)→w.heap[b]?=some (.mapIter (some bm) since seen.toArray last)
 | some (some b,_),.loop st pend fr n fn ps as bd=>∃ tmps D,w.heap[b]?=some (.loop { state:=st,pending:=pend,fn:=fn,tmps:=tmps,params:=ps,assign:=as,body:=bd,defers:=D })∧RepF γ σ fr tmps∧tmps.size=n
 | some _,.lost=>True
 | _,_=>False
def GlobOk (γ:Gm):Prop:=∀ g x,glob g=some x→RepV γ [] (.vp [x]) (.pointer (some ⟨g,0,none⟩))
theorem GlobOk.mono {γ γ':Gm} (h:GlobOk γ) (hg:γ.le γ'):GlobOk γ':=fun g x hx=>RepV.mono hg _ _ _ _ (Sg.le_refl _) (h g x hx)
structure Inv (γ:Gm) (σ:Sg) (w:World) (H:List AObj):Prop where
 mem:∀ b o,γ b=some o→w.heap[b]?=some o
 own:∀ (i:Nat) b c,σ[i]?=some (some (some b,c))→γ b=none∧b<w.heap.size
 inj:∀ (i j:Nat) b c c',σ[i]?=some (some (some b,c))→σ[j]?=some (some (some b,c'))→i=j
 len:σ.length=H.length
 obj:∀ (i:Nat) o e,H[i]?=some o→σ[i]?=some e→RepO γ σ w e o
 glob:GlobOk γ
def Blks (σ:Sg) (b:Nat):Prop:=∃ (i:Nat) (c:Nat),σ[i]?=some (some (some b,c))
structure Step (m:Nat) (γ:Gm) (σ:Sg) (w:World) (γ':Gm) (σ':Sg) (w':World):Prop where
 le:γ.le γ'
 size:w.heap.size≤w'.heap.size
 keep:∀ b,b<w.heap.size→¬ Blks σ b→w'.heap[b]?=w.heap[b]?∧γ' b=γ b
 own:∀ b,Blks σ' b→Blks σ b∨w.heap.size≤b
 os:w'.os=w.os
 tape:w'.tape=w.tape
 output:w'.output=w.output
 drawn:w.drawn≤w'.drawn
 low:∀ (i:Nat) e,i<m→σ[i]?=some e→σ'[i]?=some e∨σ'[i]?=some none
theorem Step.refl {m:Nat} (γ:Gm) (σ:Sg) (w:World):Step m γ σ w γ σ w:=⟨fun _ _ h=>h,Nat.le_refl _,fun _ _ _=>⟨rfl,rfl⟩,fun _ h=>.inl h,rfl,rfl,rfl,Nat.le_refl _,fun _ _ _ h=>.inl h⟩
theorem Step.trans {m:Nat} {γ γ' γ'':Gm} {σ σ' σ'':Sg} {w w' w'':World} (h:Step m γ σ w γ' σ' w') (k:Step m γ' σ' w' γ'' σ'' w''):Step m γ σ w γ'' σ'' w'' where
 le:=fun b o hb=>k.le b o (h.le b o hb)
 size:=Nat.le_trans h.size k.size
 keep:=fun b hb hn=>by
  have h1:=h.keep b hb hn
  have h2:=k.keep b (Nat.lt_of_lt_of_le hb h.size) (fun hc=>by
   rcases h.own b hc with h3 | h3
   · exact hn h3
   · omega)
  exact ⟨h2.1.trans h1.1,h2.2.trans h1.2⟩
 own:=fun b hb=>by
  rcases k.own b hb with h1 | h1
  · exact h.own b h1
  · exact .inr (Nat.le_trans h.size h1)
 os:=k.os.trans h.os
 tape:=k.tape.trans h.tape
 output:=k.output.trans h.output
 drawn:=Nat.le_trans h.drawn k.drawn
 low:=fun i e hi he=>by
  rcases h.low i e hi he with h1 | h1
  · exact k.low i e hi h1
  · rcases k.low i none hi h1 with h2 | h2 <;> exact .inr h2
structure FN where
 n:Nat
 base:Nat
 ro:Option Nat:=none
def DefOk (B:Nat) (γ:Gm) (σ:Sg) (w:World):List Deferred→Prop
 | []=>B≤w.heap.size
 | d::ds=>(∃ D,d={ target:=.collected D,args:=#[] }∧B≤D∧¬ Blks σ D∧γ D=none∧w.heap[D]?=some (.deferred (some []))∧∀ d' ∈ ds,d'≠{ target:=.collected D,args:=#[] })∧DefOk B γ σ w ds
theorem DefOk.step {m B:Nat} {γ γ':Gm} {σ σ':Sg} {w w':World} (h:Step m γ σ w γ' σ' w'):∀ {ds:List Deferred},DefOk B γ σ w ds→DefOk B γ' σ' w' ds
 | [],hb=>Nat.le_trans hb h.size
 | d::ds,⟨⟨D,h1,h2,h3,h4,h5,h6⟩,hr⟩=>by
   have hlt:D<w.heap.size:=(Array.getElem?_eq_some_iff.1 h5).1
   obtain ⟨k1,k2⟩:=h.keep D hlt h3
   refine ⟨⟨D,h1,h2,fun hb=>?_,k2.trans h4,k1.trans h5,h6⟩,DefOk.step h hr⟩
   rcases h.own D hb with h7 | h7
   · exact h3 h7
   · omega
theorem DefOk.base {B:Nat} {γ:Gm} {σ:Sg} {w:World}:∀ {ds:List Deferred},DefOk B γ σ w ds→B≤w.heap.size
 | [],h=>h
 | _::_,h=>DefOk.base h.2
theorem DefOk.lt {B D:Nat} {γ:Gm} {σ:Sg} {w:World}:∀ {ds:List Deferred},DefOk B γ σ w ds→{ target:=.collected D,args:=#[] } ∈ ds→D<w.heap.size
 | d::ds,⟨⟨D',h1,_,_,_,h5,_⟩,hr⟩,hm=>by
   rcases List.mem_cons.1 hm with e | e
   · rw [h1] at e
     simp only [Deferred.mk.injEq,Target.collected.injEq,and_true] at e
     rw [e]
     exact (Array.getElem?_eq_some_iff.1 h5).1
   · exact DefOk.lt hr e
structure Rep (N:FN) (γ:Gm) (σ:Sg) (w:World) (a:Act) (s:AS):Prop where
 inv:Inv γ σ w s.H
 fr:RepF γ σ s.fr a.tmps
 defers:DefOk N.base γ σ w a.defers
 size:a.tmps.size=N.n
def lift (m:Nat) (N:FN) (γ:Gm) (σ:Sg) (w:World) (Q:Exit→AS→Prop) (e:Exit) (a':Act) (w':World):Prop :=
 match e with
 | .normal | .exit _ | .ret=>∃ γ' σ' s',Step m γ σ w γ' σ' w'∧Rep N γ' σ' w' a' s'∧Q e s'
 | _=>False
theorem lift_step {m:Nat} {N:FN} {γ γ':Gm} {σ σ':Sg} {w w':World} (h:Step m γ σ w γ' σ' w') {Q:Exit→AS→Prop} {e:Exit} {a:Act} {v:World} (hq:lift m N γ' σ' w' Q e a v):lift m N γ σ w Q e a v:=by
 cases e <;> simp only [lift] at * <;> first | exact hq | (obtain ⟨g,s,t,h1,h2⟩:=hq;exact ⟨g,s,t,h.trans h1,h2⟩)
def FW (ro:Option Nat):Fence:={ fn:=fun _=>True,depth:=none,alive:=false,round:=ro }
def ACode (P:Program) (m:Nat) (N:FN) (c:Code) (Q:Exit→AS→Prop) (s:AS):Prop :=
 ∀ γ σ w a,Rep N γ σ w a s→c.wpIn (FW N.ro) 0 P (lift m N γ σ w Q) a w
def Ent (m:Nat) (N:FN) (s s':AS):Prop:=∀ γ σ w a,Rep N γ σ w a s→∃ γ' σ',Step m γ σ w γ' σ' w∧Rep N γ' σ' w a s'
theorem Ent.refl (m:Nat) (N:FN) (s:AS):Ent m N s s:=fun γ σ w a h=>⟨γ,σ,.refl _ _ _,h⟩
theorem Ent.trans {m:Nat} {N:FN} {s s' s'':AS} (h:Ent m N s s') (k:Ent m N s' s''):Ent m N s s'':=fun γ σ w a hr=>by
 obtain ⟨γ1,σ1,st1,r1⟩:=h γ σ w a hr
 obtain ⟨γ2,σ2,st2,r2⟩:=k γ1 σ1 w a r1
 exact ⟨γ2,σ2,st1.trans st2,r2⟩
def seqQ (k:AS→Prop) (Q:Exit→AS→Prop):Exit→AS→Prop
 | .normal,s=>k s
 | e,s=>Q e s
def blockQ (id:Nat) (Q:Exit→AS→Prop):Exit→AS→Prop
 | .exit id',s=>if id'=id then Q .normal s else Q (.exit id') s
 | e,s=>Q e s
section
variable {P:Program} {m:Nat} {N:FN} {Q:Exit→AS→Prop} {s:AS}
theorem ACode.mono {c:Code} {Q':Exit→AS→Prop} (h:ACode P m N c Q s) (hq:∀ e s,Q e s→Q' e s):ACode P m N c Q' s:=fun γ σ w a hr =>
 wpIn_mono (h γ σ w a hr) fun e a' w' hl=>by
  cases e <;> simp only [lift] at * <;> first | exact hl | (obtain ⟨g,x,t,h1,h2,h3⟩:=hl;exact ⟨g,x,t,h1,h2,hq _ _ h3⟩)
theorem ACode.ent {c:Code} {s':AS} (he:Ent m N s s') (h:ACode P m N c Q s'):ACode P m N c Q s:=fun γ σ w a hr=>by
 obtain ⟨γ',σ',st,r⟩:=he γ σ w a hr
 exact wpIn_mono (h γ' σ' w a r) fun e a' w' hl=>lift_step st hl
theorem acode_skip (h:Q .normal s):ACode P m N .skip Q s:=fun γ σ w a hr=>wpIn_skip ⟨γ,σ,s,.refl _ _ _,hr,h⟩
theorem acode_label {l:Nat} (h:Q .normal s):ACode P m N (.label l) Q s:=fun γ σ w a hr=>wpIn_label ⟨γ,σ,s,.refl _ _ _,hr,h⟩
theorem acode_ret (h:Q .ret s):ACode P m N .ret Q s:=fun γ σ w a hr=>wpIn_ret ⟨γ,σ,s,.refl _ _ _,hr,h⟩
theorem acode_exit {id:Nat} (h:Q (.exit id) s):ACode P m N (.exit id) Q s:=fun γ σ w a hr=>wpIn_exit ⟨γ,σ,s,.refl _ _ _,hr,h⟩
theorem acode_seq {x y:Code} (h:ACode P m N x (seqQ (ACode P m N y Q) Q) s):ACode P m N (.seq x y) Q s:=fun γ σ w a hr =>
 wpIn_seq (wpIn_mono (h γ σ w a hr) fun e a' w' hl=>by
  cases e <;> simp only [lift,seqQ,Exit.then] at * <;> try exact hl
  obtain ⟨g,x,t,h1,h2,h3⟩:=hl
  exact wpIn_mono (h3 g x w' a' h2) fun e a'' w'' hl=>lift_step h1 hl)
theorem acode_block {id:Nat} {c:Code} (h:ACode P m N c (blockQ id Q) s):ACode P m N (.block id c) Q s:=fun γ σ w a hr =>
 wpIn_block (wpIn_mono (h γ σ w a hr) fun e a' w' hl=>by
  cases e <;> simp only [lift,blockQ,Exit.inBlock] at * <;> try exact hl
  obtain ⟨g,x,t,h1,h2,h3⟩:=hl
  split
  · rename_i he;rw [if_pos he] at h3;exact ⟨g,x,t,h1,h2,h3⟩
  · rename_i he;rw [if_neg he] at h3;exact ⟨g,x,t,h1,h2,h3⟩)
def Loop (m:Nat) (N:FN) (body:(Exit→AS→Prop)→AS→Prop) (Q:Exit→AS→Prop) (s:AS):Prop :=
 ∃ (X:Type) (inv:X→Prop) (st:X→AS) (μ:X→Nat) (x0:X),inv x0∧Ent m N s (st x0) ∧
   ∀ x,inv x→body (seqQ (fun s'=>∃ x',inv x'∧μ x'<μ x∧Ent m N s' (st x')) Q) (st x)
theorem acode_loop {c:Code} (h:Loop m N (ACode P m N c) Q s):ACode P m N (.loop c) Q s:=by
 obtain ⟨X,inv,st,μ,x0,h0,he,hr⟩:=h
 refine ACode.ent he ?_
 intro γ σ w a hrep
 refine wpIn_loop_ghost (fun n a' w'=>∃ x γ' σ',inv x∧μ x=n∧Step m γ σ w γ' σ' w'∧Rep N γ' σ' w' a' (st x)) (μ x0) ⟨x0,γ,σ,h0,rfl,.refl _ _ _,hrep⟩ ?_
 rintro n a' w' ⟨x,γ',σ',hi,hn,hst,hrep'⟩
 refine wpIn_mono (hr x hi γ' σ' w' a' hrep') fun e a2 w2 hl=>?_
 cases e <;> simp only [lift,seqQ,Exit.then] at * <;> first | exact hl | skip
 · obtain ⟨γ2,σ2,s2,st2,r2,x',hi',hlt,he'⟩:=hl
   obtain ⟨γ3,σ3,st3,r3⟩:=he' γ2 σ2 w2 a2 r2
   exact ⟨μ x',by omega,x',γ3,σ3,hi',rfl,hst.trans (st2.trans st3),r3⟩
 · obtain ⟨g,x,t,h1,h2⟩:=hl;exact ⟨g,x,t,hst.trans h1,h2⟩
 · obtain ⟨g,x,t,h1,h2⟩:=hl;exact ⟨g,x,t,hst.trans h1,h2⟩
end
def Bodied (P : Program) (f : FuncId) : Prop := ∃ fn, P.funcs[f]? = some fn ∧ (fn.name == "runtime.NumGoroutine") = false ∧ fn.body.isNone = false
def ACalls (P:Program) (f:FuncId) (args:List AV) (H:List AObj) (Q:AV→List AObj→Prop):Prop :=
 Bodied P f∧∀ γ σ w vs,Inv γ σ w H→RepVs γ σ args vs→Calls P f vs.toArray w fun e w' =>
  ∃ v γ' σ' r H',e=.returned v∧Step H.length γ σ w γ' σ' w'∧Inv γ' σ' w' H'∧RepV γ' σ' r v∧Q r H'
def AYield (P:Program) (id:Nat) (args:List AV) (H:List AObj) (Q:AV→List AObj→Prop):Prop :=
 ∀ γ σ w vs,Inv γ σ w H→RepVs γ σ args vs→∃ b c f tmps as bd,σ[id]?=some (some (some b,c))∧(Instr.yield b vs.toArray).run P w=.ok (.round b f tmps as bd) w ∧
   RoundIn (FW none) 0 P b f tmps as bd w fun e w'=>∃ v γ' σ' r H',e=.returned v∧Step H.length γ σ w γ' σ' w'∧Inv γ' σ' w' H'∧RepV γ' σ' r v∧Q r H'
theorem AYield.mono {P:Program} {id:Nat} {args:List AV} {H:List AObj} {Q Q':AV→List AObj→Prop} (h:AYield P id args H Q) (hq:∀ r H,Q r H→Q' r H):AYield P id args H Q' :=
 fun γ σ w vs hi hv=>let ⟨b,c,f,tmps,as,bd,h1,h2,h3⟩:=h γ σ w vs hi hv
  ⟨b,c,f,tmps,as,bd,h1,h2,h3.mono fun e w' ⟨v,γ',σ',r,H',h1,h2,h3,h4,h5⟩=>⟨v,γ',σ',r,H',h1,h2,h3,h4,hq _ _ h5⟩⟩
theorem ACalls.mono {P:Program} {f:FuncId} {args:List AV} {H:List AObj} {Q Q':AV→List AObj→Prop} (h:ACalls P f args H Q) (hq:∀ r H,Q r H→Q' r H):ACalls P f args H Q' :=
 ⟨h.1,fun γ σ w vs hi hv=>(h.2 γ σ w vs hi hv).mono fun e w' ⟨v,γ',σ',r,H',h1,h2,h3,h4,h5⟩=>⟨v,γ',σ',r,H',h1,h2,h3,h4,hq _ _ h5⟩⟩
end Go.Al
namespace Go.Al
inductive KL where
 | int (q:IntKind)
 | bool
 | str
 | none
 deriving DecidableEq
def klOf:Value→KL
 | .int q _=>.int q
 | .bool _=>.bool
 | .string _=>.str
 | _=>.none
def KL.fits:KL→Value→Prop
 | .int q,.int q' n=>q'=q∧(Lit.int q n).wf=true
 | .bool,.bool _=>True
 | .str,.string s=>s.size≤maxLen
 | _,_=>False
def KMatch:List KL→List Value→Prop
 | [],[]=>True
 | q::qs,v::vs=>q.fits v∧KMatch qs vs
 | _,_=>False
def plainKL (P:Program) (t:TypeId):KL:=match P.underlying t with
 | some .bool=>.bool
 | some (.int q)=>.int q
 | some .string=>.str
 | _=>.none
def flatKeyB (P:Program) (t:TypeId) (ls:List KL):Bool:=match P.underlying t with
 | some (.array n e)=>P.cellsOf e == 1 && P.cellsOf t == n && ls.length == n && ls.all (fun q=>plainKL P e == q)
 | some (.struct fs) => P.cellsOf t == ls.length && fs.toList.length == ls.length && fs.all (·.name != "_") && (List.range ls.length).all fun i => match fs[i]?, ls[i]? with
    | some f,some q=>f.offset == i && P.cellsOf f.type == 1 && plainKL P f.type == q
    | _,_=>false
 | _=>false
def keyOkB (P:Program) (t:TypeId) (ls:List KL):Bool:=P.keyType t && P.keyTypeAt 2 t && P.tiled 2 t && flatKeyB P t ls && decide (1≤P.types.size)
theorem KMatch.length:∀ {ls:List KL} {vs:List Value},KMatch ls vs→ls.length=vs.length
 | [],[],_=>rfl
 | q::qs,v::vs,h=>by simp [h.2.length]
theorem KMatch.get:∀ {ls:List KL} {vs:List Value} (i:Nat) {q:KL},KMatch ls vs→ls[i]?=some q→∃ v,vs[i]?=some v∧q.fits v
 | q::qs,v::vs,0,p,h,hp=>by simp at hp;subst hp;exact ⟨v,rfl,h.1⟩
 | q::qs,v::vs,i+1,p,h,hp=>by simpa using h.2.get i (by simpa using hp)
theorem keyLits_one {P:Program} {e:TypeId} {q:KL} (hq:plainKL P e=q) {v:Value} (hv:q.fits v) (d:Nat):∃ l,P.keyLits (d+1) e [v]=some l:=by
 unfold plainKL at hq
 unfold Program.keyLits
 split at hq <;> rename_i hu <;> subst hq
 · cases v <;> simp [KL.fits] at hv
   exact ⟨_,by simp [hu];rfl⟩
 · cases v <;> simp [KL.fits] at hv
   obtain ⟨rfl,hv⟩:=hv
   exact ⟨_,by simp [hu,hv];rfl⟩
 · cases v <;> simp [KL.fits] at hv
   exact ⟨_,by simp [hu,hv];rfl⟩
 · cases v <;> simp [KL.fits] at hv
theorem mapM_ex {α β:Type} {f:α→Option β}:∀ {L:List α},(∀ x ∈ L,∃ y,f x=some y)→∃ ys,L.mapM f=some ys
 | [],_=>⟨[],rfl⟩
 | x::L,h=>by
   obtain ⟨y,hy⟩:=h x (by simp)
   obtain ⟨ys,hys⟩:=mapM_ex (L:=L) fun z hz=>h z (by simp [hz])
   exact ⟨y::ys,by simp [List.mapM_cons,hy,hys]⟩
theorem take_one {vs:List Value} {i:Nat} {v:Value} (h:vs[i]?=some v):(vs.drop i).take 1=[v]:=by
 obtain ⟨hi,rfl⟩:=List.getElem?_eq_some_iff.1 h
 rw [List.drop_eq_getElem_cons hi]
 rfl
theorem keyOf_flat {P:Program} {t:TypeId} {ls:List KL} (hk:keyOkB P t ls=true) {cs:Array Value} (hm:KMatch ls cs.toList):∃ l,keyOf P t (.agg cs)=some l:=by
 simp only [keyOkB,Bool.and_eq_true,decide_eq_true_eq] at hk
 obtain ⟨⟨⟨⟨h1,_⟩,_⟩,h2⟩,h3⟩:=hk
 obtain ⟨d,hd⟩:∃ d,P.types.size=d+1:=⟨P.types.size - 1,by omega⟩
 have hlen:=hm.length
 have hcs:cs.toList.length=cs.size:=Array.length_toList
 unfold flatKeyB at h2
 unfold keyOf
 split at h2
 · rename_i n e hu
   simp only [Bool.and_eq_true,beq_iff_eq,List.all_eq_true] at h2
   obtain ⟨⟨⟨h4,h5⟩,h6⟩,h7⟩:=h2
   have hf:(Value.agg cs).formed P t=true:=by simp [Value.formed,hu,h5];omega
   have:∃ l,P.keyLits (P.types.size+1) t cs.toList=some l:=by
    rw [hd]
    unfold Program.keyLits
    rw [hu]
    simp only [h4,h5,Nat.mul_one]
    rw [if_pos (by omega)]
    obtain ⟨ys,hys⟩:=mapM_ex (f:=fun i=>P.keyLits (d+1) e (List.take 1 (List.drop i cs.toList))) (L:=List.range n) fun i hi=>by
     have hi:i<n:=List.mem_range.1 hi
     obtain ⟨v,hv,hq⟩:=hm.get i (q:=ls[i]'(by omega)) (by simp)
     rw [take_one hv]
     exact keyLits_one (h7 _ (List.getElem_mem _)) hq d
    exact ⟨_,by rw [hys];rfl⟩
   obtain ⟨l,hl⟩:=this
   refine ⟨.string (keyBytes l),?_⟩
   simp only [hu,h1,hf,Bool.and_self,if_true]
   show Option.map _ (P.keyLits (P.types.size+1) t cs.toList)=_
   rw [hl];rfl
 · rename_i fs hu
   simp only [Bool.and_eq_true,beq_iff_eq,List.all_eq_true] at h2
   obtain ⟨⟨⟨h4,h5⟩,h6⟩,h7⟩:=h2
   have hf:(Value.agg cs).formed P t=true:=by simp [Value.formed,hu,h4];omega
   have:∃ l,P.keyLits (P.types.size+1) t cs.toList=some l:=by
    rw [hd]
    unfold Program.keyLits
    rw [hu]
    simp only [h4]
    rw [if_pos ⟨by omega,h6⟩]
    obtain ⟨ys,hys⟩:=mapM_ex (f:=fun (f:Field)=>P.keyLits (d+1) f.type (List.take (P.cellsOf f.type) (List.drop f.offset cs.toList))) (L:=fs.toList) fun f hf=>by
     obtain ⟨i,hi⟩:=List.getElem?_of_mem hf
     have hlt:=(List.getElem?_eq_some_iff.1 hi).1
     have h8:=h7 i (List.mem_range.2 (by omega))
     rw [Array.getElem?_toList] at hi
     rw [hi] at h8
     cases hq:ls[i]? with
     | none=>rw [hq] at h8;cases h8
     | some q =>
       rw [hq] at h8
       simp only [Bool.and_eq_true,beq_iff_eq] at h8
       obtain ⟨⟨h9,h10⟩,h11⟩:=h8
       obtain ⟨v,hv,hqv⟩:=hm.get i hq
       rw [h9,h10,take_one hv]
       exact keyLits_one h11 hqv d
    exact ⟨_,by rw [hys];rfl⟩
   obtain ⟨l,hl⟩:=this
   refine ⟨.string (keyBytes l),?_⟩
   simp only [hu,h1,hf,Bool.and_self,if_true]
   show Option.map _ (P.keyLits (P.types.size+1) t cs.toList)=_
   rw [hl];rfl
 · cases h2
theorem keyLaw_flat {P:Program} {t:TypeId} {ls:List KL} (hk:keyOkB P t ls=true):WideMaps.KeyLaw P t:=by
 simp only [keyOkB,Bool.and_eq_true,decide_eq_true_eq] at hk
 obtain ⟨⟨⟨⟨_,h1⟩,h2⟩,h3⟩,_⟩:=hk
 refine deep_law (m:=2) (by omega) h1 h2 ?_
 unfold flatKeyB at h3
 split at h3
 · rename_i hu;rw [hu]
 · rename_i hu;rw [hu]
 · cases h3
end Go.Al
namespace Go.Al
theorem repVs_nil {γ:Gm} {σ:Sg} {vs:List Value}:RepVs γ σ [] vs↔vs=[]:=by simp [RepVs]
theorem repVs_cons {γ:Gm} {σ:Sg} {x:AV} {xs:List AV} {vs:List Value}:RepVs γ σ (x::xs) vs↔∃ v vs',vs=v::vs'∧RepV γ σ x v∧RepVs γ σ xs vs':=by simp [RepVs]
theorem RepVs.length {γ:Gm} {σ:Sg}:∀ {xs:List AV} {vs:List Value},RepVs γ σ xs vs→vs.length=xs.length
 | [],_,h=>by rw [repVs_nil] at h;simp [h]
 | x::xs,_,h=>by
   obtain ⟨v,vs',rfl,_,h2⟩:=repVs_cons.1 h
   simp [RepVs.length h2]
theorem RepVs.get {γ:Gm} {σ:Sg}:∀ {xs:List AV} {vs:List Value},RepVs γ σ xs vs→∀ (i:Nat) (x:AV),xs[i]?=some x→∃ v,vs[i]?=some v∧RepV γ σ x v
 | [],_,h,i,x,hx=>by simp at hx
 | y::xs,_,h,i,x,hx=>by
   obtain ⟨v,vs',rfl,h1,h2⟩:=repVs_cons.1 h
   cases i with
   | zero=>simp at hx;subst hx;exact ⟨v,by simp,h1⟩
   | succ i=>simp at hx;simpa using RepVs.get h2 i x hx
theorem RepVs.append {γ:Gm} {σ:Sg}:∀ {xs ys:List AV} {vs us:List Value},RepVs γ σ xs vs→RepVs γ σ ys us→RepVs γ σ (xs++ys) (vs++us)
 | [],_,_,_,h,k=>by rw [repVs_nil] at h;subst h;simpa using k
 | x::xs,ys,_,us,h,k=>by
   obtain ⟨v,vs',rfl,h1,h2⟩:=repVs_cons.1 h
   exact repVs_cons.2 ⟨v,vs'++us,rfl,h1,RepVs.append h2 k⟩
theorem RepVs.take {γ:Gm} {σ:Sg}:∀ {xs:List AV} {vs:List Value} (n:Nat),RepVs γ σ xs vs→RepVs γ σ (xs.take n) (vs.take n)
 | _,_,0,_=>by simp [RepVs]
 | [],_,n+1,h=>by rw [repVs_nil] at h;subst h;simp [RepVs]
 | x::xs,_,n+1,h=>by
   obtain ⟨v,vs',rfl,h1,h2⟩:=repVs_cons.1 h
   exact repVs_cons.2 ⟨v,vs'.take n,rfl,h1,RepVs.take n h2⟩
theorem RepVs.drop {γ:Gm} {σ:Sg}:∀ {xs:List AV} {vs:List Value} (n:Nat),RepVs γ σ xs vs→RepVs γ σ (xs.drop n) (vs.drop n)
 | _,_,0,h=>by simpa using h
 | [],_,n+1,h=>by rw [repVs_nil] at h;subst h;simp [RepVs]
 | x::xs,_,n+1,h=>by
   obtain ⟨v,vs',rfl,h1,h2⟩:=repVs_cons.1 h
   simpa using RepVs.drop n h2
theorem RepVs.set {γ:Gm} {σ:Sg} {y:AV} {u:Value} (hy:RepV γ σ y u):∀ {xs:List AV} {vs:List Value} (n:Nat),RepVs γ σ xs vs→RepVs γ σ (xs.set n y) (vs.set n u)
 | [],_,n,h=>by rw [repVs_nil] at h;subst h;simp [RepVs]
 | x::xs,_,0,h=>by
   obtain ⟨v,vs',rfl,h1,h2⟩:=repVs_cons.1 h
   exact repVs_cons.2 ⟨u,vs',rfl,hy,h2⟩
 | x::xs,_,n+1,h=>by
   obtain ⟨v,vs',rfl,h1,h2⟩:=repVs_cons.1 h
   exact repVs_cons.2 ⟨v,vs'.set n u,rfl,h1,RepVs.set hy n h2⟩
theorem RepVs.map {γ:Gm} {σ:Sg} {α:Type} {f:α→AV} {g:α→Value}:∀ {l:List α},(∀ x ∈ l,RepV γ σ (f x) (g x))→RepVs γ σ (l.map f) (l.map g)
 | [],_=>by simp [RepVs]
 | x::l,h=>repVs_cons.2 ⟨_,_,rfl,h x (by simp),RepVs.map fun y hy=>h y (by simp [hy])⟩
def ofV:Value→AV
 | .int k n=>.int k n
 | .bool b=>.bool b
 | .string s=>.str s
 | v=>.raw v
theorem repV_ofV (γ:Gm) (σ:Sg) (v:Value):RepV γ σ (ofV v) v:=by cases v <;> simp [ofV,RepV]
def ev (fr:List (Nat × AV)):Operand→AV
 | .tmp t=>get fr t
 | .const v=>ofV v
 | .global g=>.raw (.pointer (some ⟨g,0,none⟩))
 | .func f=>.fn (.func f) [] []
theorem repV_ev {γ:Gm} {σ:Sg} {fr:List (Nat × AV)} {a:Act} (h:RepF γ σ fr a.tmps) (x:Operand):RepV γ σ (ev fr x) (a.eval x):=by
 cases x with
 | tmp t=>exact h t
 | const v=>exact repV_ofV _ _ v
 | global g=>simp [ev,Act.eval,RepV]
 | func f=>simp [ev,Act.eval,RepV,RepVs]
inductive D where
 | int (k:IntKind)
 | bool
 | string
 | slice (e:TypeId)
 | array (n:Nat) (e:TypeId)
 | struct (fs:List (Nat × TypeId))
 | map (k e:TypeId)
 | pointer (e:TypeId)
 | iface (plain:Bool)
 | func
 | other
 | wide (ls:List KL)
 deriving DecidableEq
def toD:TypeDesc→D
 | .int k=>.int k
 | .bool=>.bool
 | .string=>.string
 | .slice e=>.slice e
 | .array n e=>.array n e
 | .struct fs=>.struct (fs.toList.map fun f=>(f.offset,f.type))
 | .map k e=>.map k e
 | .pointer e=>.pointer e
 | .interface ms=>.iface ms.isEmpty
 | .func ..=>.func
 | _=>.other
structure TInfo where
 desc:D
 size:Nat
 bytes:Nat
 zero:List Value
 agg:Bool
 eq:Bool
 key:Bool
def kdOf (i:TInfo):D:=if i.key then .wide (i.zero.map klOf) else i.desc
structure Env where
 P:Program
 TI:TypeId→Option TInfo
def isAggD:D→Bool
 | .struct _ | .array _ _=>true
 | _=>false
def eqOk (P : Program) (t : TypeId) : Bool := !P.eqGuardType P.depth t && !P.stoodInHeld t && (P.fieldsOf t).toList.all (fun f => f.name != "_")
structure InfoOk (P:Program) (t:TypeId) (i:TInfo):Prop where
 desc:∃ d,P.underlying t=some d∧toD d=i.desc
 info:∃ inf z,P.info? t=some inf∧inf.size=i.size∧inf.bytes=i.bytes∧inf.zero=some z∧z.cells.toList=i.zero∧(∀ u ∈ i.zero,u.oneCell'=true)∧(i.agg=true→∃ cs,z=.agg cs)∧(i.agg=false→z.oneCell'=true)∧i.zero.length=i.size
 agg:isAggD i.desc=i.agg
 eq:i.eq=true→eqOk P t=true
 key:i.key=true→keyOkB P t (i.zero.map klOf)=true
def Env.ok (E:Env):Prop:=∀ t i,E.TI t=some i→InfoOk E.P t i
def tinfoOk (P:Program) (t:TypeId) (i:TInfo):Prop :=
 (P.underlying t).map toD=some i.desc∧(P.info? t).map (fun x=>(x.size,x.bytes,x.zero.map (·.cells.toList)))=some (i.size,i.bytes,some i.zero) ∧
   (P.info? t).map (fun x=>x.zero.map fun z=>match z with | .agg _=>true | _=>false)=some (some i.agg) ∧
   (i.zero.all Value.oneCell' && (isAggD i.desc == i.agg) && (i.zero.length == i.size) && (!i.eq || eqOk P t) && (!i.key || keyOkB P t (i.zero.map klOf)))=true
theorem InfoOk.of {P:Program} {t:TypeId} {i:TInfo} (h:tinfoOk P t i):InfoOk P t i:=by
 obtain ⟨h1,h2,h3,h4⟩:=h
 simp only [Bool.and_eq_true,beq_iff_eq] at h4
 obtain ⟨⟨⟨⟨h4,h5⟩,h6⟩,h7⟩,h8⟩:=h4
 have hall:∀ u ∈ i.zero,u.oneCell'=true:=by simpa using h4
 refine ⟨by simpa [Option.map_eq_some_iff] using h1,?_,h5,fun he=>by simpa [he] using h7,fun he=>by simpa [he] using h8⟩
 cases hi:P.info? t with
 | none=>simp [hi] at h2
 | some inf =>
   simp only [hi,Option.map_some,Option.some.injEq,Prod.mk.injEq] at h2 h3
   obtain ⟨h2a,h2b,h2c⟩:=h2
   cases hz:inf.zero with
   | none=>simp [hz] at h2c
   | some z =>
     simp only [hz,Option.map_some,Option.some.injEq] at h2c h3
     refine ⟨inf,z,rfl,h2a,h2b,hz,h2c,hall,fun ha=>?_,fun ha=>?_,h6⟩
     · rw [ha] at h3
       cases z <;> simp at h3 <;> exact ⟨_,rfl⟩
     · rw [ha] at h3
       cases z with
       | agg cs=>simp at h3
       | _=>exact hall _ (by rw [← h2c];simp [Value.cells])
section
variable {P:Program} {t:TypeId} {i:TInfo}
theorem InfoOk.int (h:InfoOk P t i) {k:IntKind} (hd:i.desc=.int k):P.underlying t=some (.int k):=by
 obtain ⟨d,h1,h2⟩:=h.desc
 rw [hd] at h2
 cases d <;> simp [toD] at h2 <;> simp [h1,h2]
theorem InfoOk.bool (h:InfoOk P t i) (hd:i.desc=.bool):P.underlying t=some .bool:=by
 obtain ⟨d,h1,h2⟩:=h.desc
 rw [hd] at h2
 cases d <;> simp [toD] at h2 <;> simp [h1]
theorem InfoOk.string (h:InfoOk P t i) (hd:i.desc=.string):P.underlying t=some .string:=by
 obtain ⟨d,h1,h2⟩:=h.desc
 rw [hd] at h2
 cases d <;> simp [toD] at h2 <;> simp [h1]
theorem InfoOk.slice (h:InfoOk P t i) {e:TypeId} (hd:i.desc=.slice e):P.underlying t=some (.slice e):=by
 obtain ⟨d,h1,h2⟩:=h.desc
 rw [hd] at h2
 cases d <;> simp [toD] at h2 <;> simp [h1,h2]
theorem InfoOk.array (h:InfoOk P t i) {n:Nat} {e:TypeId} (hd:i.desc=.array n e):P.underlying t=some (.array n e):=by
 obtain ⟨d,h1,h2⟩:=h.desc
 rw [hd] at h2
 cases d <;> simp [toD] at h2 <;> simp [h1,h2]
theorem InfoOk.map (h:InfoOk P t i) {k e:TypeId} (hd:i.desc=.map k e):P.underlying t=some (.map k e):=by
 obtain ⟨d,h1,h2⟩:=h.desc
 rw [hd] at h2
 cases d <;> simp [toD] at h2 <;> simp [h1,h2]
theorem InfoOk.struct (h:InfoOk P t i) {fs:List (Nat × TypeId)} (hd:i.desc=.struct fs):∃ fs',P.underlying t=some (.struct fs')∧fs'.toList.map (fun f=>(f.offset,f.type))=fs:=by
 obtain ⟨d,h1,h2⟩:=h.desc
 rw [hd] at h2
 cases d <;> simp [toD] at h2
 exact ⟨_,h1,h2⟩
theorem fields_get {fs':Array Field} {fs:List (Nat × TypeId)} (h:fs'.toList.map (fun f=>(f.offset,f.type))=fs) {k off:Nat} {ty:TypeId} (hk:fs[k]?=some (off,ty)):∃ f,fs'[k]?=some f∧f.offset=off∧f.type=ty:=by
 subst h
 simp only [List.getElem?_map,Option.map_eq_some_iff,Prod.mk.injEq,Array.getElem?_toList] at hk
 exact hk
end
end Go.Al
namespace Go.Al
theorem ownsRow_of_block {w w':World} {E:TypeId} {sz n:Nat} {blk:Option Nat} {m cap:Nat} {xs:List Value} (h:w.ownsRow 0 E sz (.slice (blk.map (⟨·,0,none⟩)) m cap) n xs)
 (hb:∀ b,blk=some b→w'.heap[b]?=w.heap[b]?):w'.ownsRow 0 E sz (.slice (blk.map (⟨·,0,none⟩)) m cap) n xs:=by
 obtain ⟨h1,h2⟩:=h
 refine ⟨h1,?_⟩
 rcases h2 with h2 | ⟨g,cap',cur,hv,hg,hh,r⟩
 · exact .inl h2
 · refine .inr ⟨g,cap',cur,hv,hg,?_,r⟩
   cases blk with
   | none=>simp at hv
   | some b =>
     simp only [Option.map_some,Value.slice.injEq,Option.some.injEq,Addr.mk.injEq] at hv
     rw [← hv.1.1,hb b rfl,hv.1.1]
     exact hh
theorem RepO.mono {γ γ':Gm} {σ σ':Sg} {w w':World} {e:Option (Option Nat × Nat)} {o:AObj} (h:RepO γ σ w e o) (hg:γ.le γ') (hs:Sg.le σ σ')
 (hb:∀ b c,e=some (some b,c)→w'.heap[b]?=w.heap[b]?):RepO γ' σ' w' e o:=by
 unfold RepO at *
 split at h
 · rename_i b c cs
   obtain ⟨vs,E,h1,h2,h3⟩:=h
   exact ⟨vs,E,by rw [hb b c rfl];exact h1,RepVs.mono hg _ _ _ _ hs h2,h3⟩
 · rename_i blk cap E sz xs
   obtain ⟨vs,h1,h2,h3,h4,h5⟩:=h
   exact ⟨vs,RepVs.mono hg _ _ _ _ hs h1,h2,h3,h4,ownsRow_of_block h5 fun b hb'=>hb b cap (by rw [hb'])⟩
 · rename_i b c ks vs bs cl
   obtain ⟨kv,vv,h1,h2,h3⟩:=h
   exact ⟨kv,vv,RepVs.mono hg _ _ _ _ hs h1,RepVs.mono hg _ _ _ _ hs h2,by rw [hb b c rfl];exact h3⟩
 · rename_i b c s pos
   rw [hb b c rfl];exact h
 · trivial
 · rename_i b c since seen last
   rw [hb b c rfl];exact h
 · rename_i b c id since seen last
   rw [hb b c rfl]
   exact Sg.le_ref hs (fun e he bm cap hc=>by cases hc) h
 · rename_i b c st pend fr n fn ps as bd
   obtain ⟨tmps,D,h1,h2,h3⟩:=h
   exact ⟨tmps,D,by rw [hb b c rfl];exact h1,fun t=>RepV.mono hg _ _ _ _ hs (h2 t),h3⟩
 · trivial
 · exact h.elim
theorem Sg.le_append (σ τ:Sg):Sg.le σ (σ++τ):=fun i e h=>.inl (by
 have:=(List.getElem?_eq_some_iff.1 h).1
 rw [List.getElem?_append_left this];exact h)
theorem Sg.le_kill (σ τ:Sg) (id:Nat):Sg.le σ (σ.set id none++τ):=fun i e h=>by
 have hi:=(List.getElem?_eq_some_iff.1 h).1
 rw [List.getElem?_append_left (by simpa using hi),List.getElem?_set]
 by_cases he:id=i
 · subst he;simp [hi]
 · simp [he,h]
theorem lt_of_block {w:World} {b:Nat} {o:Obj} (h:w.heap[b]?=some o):b<w.heap.size:=by
 rcases Nat.lt_or_ge b w.heap.size with h1 | h1
 · exact h1
 · simp [Array.getElem?_eq_none h1] at h
theorem Inv.gm_lt {γ:Gm} {σ:Sg} {w:World} {H:List AObj} (h:Inv γ σ w H) {b:Nat} {o:Obj} (hb:γ b=some o):b<w.heap.size:=lt_of_block (h.mem b o hb)
theorem heap_alloc_lt (w:World) (o:Obj) {b:Nat} (hb:b<w.heap.size):(w.alloc o).heap[b]?=w.heap[b]?:=by
 show (w.heap.push o)[b]?=_
 rw [Array.getElem?_push,if_neg (by omega)]
theorem heap_alloc_at (w:World) (o:Obj):(w.alloc o).heap[w.heap.size]?=some o:=by
 show (w.heap.push o)[w.heap.size]?=_
 simp
theorem Inv.alloc {m:Nat} {γ:Gm} {σ:Sg} {w:World} {H:List AObj} (h:Inv γ σ w H) (o:Obj) (obj:AObj) (cap:Nat)
 (hobj:RepO γ (σ++[some (some w.heap.size,cap)]) (w.alloc o) (some (some w.heap.size,cap)) obj) :
 Inv γ (σ++[some (some w.heap.size,cap)]) (w.alloc o) (H++[obj])∧Step m γ σ w γ (σ++[some (some w.heap.size,cap)]) (w.alloc o):=by
 have hnew:∀ (i:Nat) e,(σ++[some (some w.heap.size,cap)])[i]?=some e→σ[i]?=some e∨(i=σ.length∧e=some (some w.heap.size,cap)):=by
  intro i e hi
  rw [List.getElem?_append] at hi
  split at hi
  · exact .inl hi
  · rename_i hge
    have:i - σ.length=0:=by
     rcases Nat.eq_zero_or_pos (i - σ.length) with h0 | h0
     · exact h0
     · rw [List.getElem?_eq_none (by simp;omega)] at hi;cases hi
    rw [this] at hi
    simp at hi
    exact .inr ⟨by omega,hi.symm⟩
 refine ⟨⟨?_,?_,?_,?_,?_,h.glob⟩,⟨fun _ _ h=>h,by simp,?_,?_,rfl,rfl,rfl,Nat.le_refl _,fun i e _ h=>Sg.le_append _ _ i e h⟩⟩
 · intro b x hb
   rw [heap_alloc_lt _ _ (h.gm_lt hb)];exact h.mem b x hb
 · intro i b c hi
   rcases hnew i _ hi with h1 | ⟨_,h1⟩
   · have:=h.own i b c h1;exact ⟨this.1,by simp;omega⟩
   · simp only [Option.some.injEq,Prod.mk.injEq] at h1
     obtain ⟨rfl,rfl⟩:=h1
     refine ⟨?_,by simp⟩
     cases hg:γ w.heap.size with
     | none=>rfl
     | some x=>have:=h.gm_lt hg;omega
 · intro i j b c c' hi hj
   rcases hnew i _ hi with h1 | ⟨e1,h1⟩ <;> rcases hnew j _ hj with h2 | ⟨e2,h2⟩
   · exact h.inj i j b c c' h1 h2
   · simp only [Option.some.injEq,Prod.mk.injEq] at h2
     have:=(h.own i b c h1).2;omega
   · simp only [Option.some.injEq,Prod.mk.injEq] at h1
     have:=(h.own j b c' h2).2;omega
   · omega
 · simp [h.len]
 · intro i ob e hi he
   rcases hnew i _ he with h1 | ⟨e1,rfl⟩
   · have hlt:i<H.length:=by rw [← h.len];exact (List.getElem?_eq_some_iff.1 h1).1
     rw [List.getElem?_append_left hlt] at hi
     refine (h.obj i ob e hi h1).mono (fun _ _ h=>h) (Sg.le_append _ _) fun b c hb=>?_
     subst hb
     exact heap_alloc_lt _ _ (h.own i b c h1).2
   · subst e1
     rw [h.len] at hi
     simp at hi
     subst hi
     exact hobj
 · intro b hb _
   exact ⟨heap_alloc_lt _ _ hb,rfl⟩
 · rintro b ⟨i,c,hi⟩
   rcases hnew i _ hi with h1 | ⟨_,h1⟩
   · exact .inl ⟨i,c,h1⟩
   · simp only [Option.some.injEq,Prod.mk.injEq] at h1
     exact .inr (by omega)
theorem Inv.touch {m:Nat} {γ:Gm} {σ:Sg} {w w':World} {H:List AObj} (h:Inv γ σ w H) {id β cap:Nat} (hid:σ[id]?=some (some (some β,cap)))
 (hsize:w'.heap.size=w.heap.size) (hkeep:∀ b,b≠β→w'.heap[b]?=w.heap[b]?) (hos:w'.os=w.os) (htape:w'.tape=w.tape) (hout:w'.output=w.output)
 {o':AObj} (hobj:RepO γ σ w' (some (some β,cap)) o') (hdr:w.drawn≤w'.drawn:=by first | exact Nat.le_refl _ | assumption | omega):Inv γ σ w' (H.set id o')∧Step m γ σ w γ σ w':=by
 refine ⟨⟨?_,?_,h.inj,by simp [h.len],?_,h.glob⟩,⟨fun _ _ h=>h,by omega,?_,fun b hb=>.inl hb,hos,htape,hout,hdr,fun i e _ h=>.inl h⟩⟩
 · intro b o hb
   rw [hkeep b (fun e=>by subst e;have:=(h.own id b cap hid).1;rw [this] at hb;cases hb)]
   exact h.mem b o hb
 · intro i b c hi
   have:=h.own i b c hi
   exact ⟨this.1,by omega⟩
 · intro i o e hi he
   by_cases hii:id=i
   · subst hii
     rw [hid] at he
     cases he
     rw [List.getElem?_set] at hi
     simp at hi
     obtain ⟨_,rfl⟩:=hi
     exact hobj
   · rw [List.getElem?_set,if_neg hii] at hi
     refine (h.obj i o e hi he).mono (fun _ _ h=>h) (Sg.le_refl _) fun b c hb=>?_
     subst hb
     exact hkeep b fun e=>hii (by subst e;exact h.inj id i b cap c hid he)
 · intro b hb hn
   exact ⟨hkeep b fun e=>hn ⟨id,cap,by rw [e];exact hid⟩,rfl⟩
theorem Inv.move {m:Nat} {γ:Gm} {σ:Sg} {w w':World} {H:List AObj} (h:Inv γ σ w H) {id:Nat} {blk blk':Option Nat} {cap cap':Nat} (hid:σ[id]?=some (some (blk,cap)))
 (hsize:w.heap.size≤w'.heap.size) (hkeep:∀ b,b<w.heap.size→some b≠blk→w'.heap[b]?=w.heap[b]?) (hos:w'.os=w.os) (htape:w'.tape=w.tape) (hout:w'.output=w.output)
 (hblk:∀ b,blk'=some b→(blk=some b∨w.heap.size≤b)∧b<w'.heap.size)
 {o':AObj} (hobj:RepO γ (σ.set id none++[some (blk',cap')]) w' (some (blk',cap')) o') (hdr:w.drawn≤w'.drawn:=by first | exact Nat.le_refl _ | assumption | omega) :
 Inv γ (σ.set id none++[some (blk',cap')]) w' (H.set id .dead++[o'])∧Step m γ σ w γ (σ.set id none++[some (blk',cap')]) w':=by
 have hidlt:=(List.getElem?_eq_some_iff.1 hid).1
 have hnew:∀ (i:Nat) e,(σ.set id none++[some (blk',cap')])[i]?=some e→(i≠id∧σ[i]?=some e)∨(i=id∧e=none)∨(i=σ.length∧e=some (blk',cap')):=by
  intro i e hi
  rw [List.getElem?_append] at hi
  split at hi
  · rw [List.getElem?_set] at hi
    by_cases hii:id=i
    · subst hii;simp at hi;exact .inr (.inl ⟨rfl,hi.2.symm⟩)
    · rw [if_neg hii] at hi;exact .inl ⟨fun e=>hii e.symm,hi⟩
  · rename_i hge
    simp at hge hi
    have:i - σ.length=0:=by
     rcases Nat.eq_zero_or_pos (i - σ.length) with h0 | h0
     · exact h0
     · rw [List.getElem?_eq_none (by simp;omega)] at hi;cases hi
    rw [this] at hi
    simp at hi
    exact .inr (.inr ⟨by omega,hi.symm⟩)
 have hother:∀ i b c,i≠id→σ[i]?=some (some (some b,c))→some b≠blk:=by
  intro i b c hne hi he
  subst he
  exact hne (h.inj i id b c cap hi hid)
 refine ⟨⟨?_,?_,?_,by simp [h.len],?_,h.glob⟩,⟨fun _ _ h=>h,hsize,?_,?_,hos,htape,hout,hdr,fun i e _ h=>Sg.le_kill _ _ _ i e h⟩⟩
 · intro b o hb
   rw [hkeep b (h.gm_lt hb) (fun e=>by subst e;have:=(h.own id b cap hid).1;rw [this] at hb;cases hb)]
   exact h.mem b o hb
 · intro i b c hi
   rcases hnew i _ hi with ⟨_,h1⟩ | ⟨_,h1⟩ | ⟨_,h1⟩
   · have:=h.own i b c h1
     exact ⟨this.1,by omega⟩
   · cases h1
   · simp only [Option.some.injEq,Prod.mk.injEq] at h1
     have h2:=hblk b h1.1.symm
     refine ⟨?_,h2.2⟩
     rcases h2.1 with h3 | h3
     · subst h3;exact (h.own id b cap hid).1
     · cases hg:γ b with
       | none=>rfl
       | some x=>have:=h.gm_lt hg;omega
 · intro i j b c c' hi hj
   rcases hnew i _ hi with ⟨n1,h1⟩ | ⟨_,h1⟩ | ⟨e1,h1⟩ <;> rcases hnew j _ hj with ⟨n2,h2⟩ | ⟨_,h2⟩ | ⟨e2,h2⟩ <;> (try (cases h1;done)) <;> (try (cases h2;done))
   · exact h.inj i j b c c' h1 h2
   · simp only [Option.some.injEq,Prod.mk.injEq] at h2
     rcases (hblk b h2.1.symm).1 with h3 | h3
     · exact absurd h3.symm (hother i b c n1 h1)
     · have:=(h.own i b c h1).2;omega
   · simp only [Option.some.injEq,Prod.mk.injEq] at h1
     rcases (hblk b h1.1.symm).1 with h3 | h3
     · exact absurd h3.symm (hother j b c' n2 h2)
     · have:=(h.own j b c' h2).2;omega
   · omega
 · intro i o e hi he
   rcases hnew i _ he with ⟨n1,h1⟩ | ⟨e1,rfl⟩ | ⟨e1,rfl⟩
   · have hlt:i<H.length:=by rw [← h.len];exact (List.getElem?_eq_some_iff.1 h1).1
     rw [List.getElem?_append_left (by simpa using hlt),List.getElem?_set,if_neg (Ne.symm n1)] at hi
     refine (h.obj i o e hi h1).mono (fun _ _ h=>h) (Sg.le_kill _ _ _) fun b c hb=>?_
     subst hb
     exact hkeep b (h.own i b c h1).2 (hother i b c n1 h1)
   · subst e1
     have hlt:i<H.length:=by rw [← h.len];exact hidlt
     rw [List.getElem?_append_left (by simpa using hlt),List.getElem?_set] at hi
     simp at hi
     obtain ⟨_,rfl⟩:=hi
     simp [RepO]
   · subst e1
     rw [h.len] at hi
     simp at hi
     subst hi
     exact hobj
 · intro b hb hn
   refine ⟨hkeep b hb fun e=>hn ⟨id,cap,by rw [e];exact hid⟩,rfl⟩
 · rintro b ⟨i,c,hi⟩
   rcases hnew i _ hi with ⟨_,h1⟩ | ⟨_,h1⟩ | ⟨_,h1⟩
   · exact .inl ⟨i,c,h1⟩
   · cases h1
   · simp only [Option.some.injEq,Prod.mk.injEq] at h1
     rcases (hblk b h1.1.symm).1 with h3 | h3
     · subst h3;exact .inl ⟨id,cap,hid⟩
     · exact .inr h3
theorem Inv.new {m:Nat} {γ:Gm} {σ:Sg} {w w':World} {H:List AObj} (h:Inv γ σ w H) {blk':Option Nat} {cap':Nat}
 (hsize:w.heap.size≤w'.heap.size) (hkeep:∀ b,b<w.heap.size→w'.heap[b]?=w.heap[b]?) (hos:w'.os=w.os) (htape:w'.tape=w.tape) (hout:w'.output=w.output)
 (hblk:∀ b,blk'=some b→w.heap.size≤b∧b<w'.heap.size)
 {o':AObj} (hobj:RepO γ (σ++[some (blk',cap')]) w' (some (blk',cap')) o') (hdr:w.drawn≤w'.drawn:=by first | exact Nat.le_refl _ | assumption | omega) :
 Inv γ (σ++[some (blk',cap')]) w' (H++[o'])∧Step m γ σ w γ (σ++[some (blk',cap')]) w':=by
 have hnew:∀ (i:Nat) e,(σ++[some (blk',cap')])[i]?=some e→σ[i]?=some e∨(i=σ.length∧e=some (blk',cap')):=by
  intro i e hi
  rw [List.getElem?_append] at hi
  split at hi
  · exact .inl hi
  · rename_i hge
    have:i - σ.length=0:=by
     rcases Nat.eq_zero_or_pos (i - σ.length) with h0 | h0
     · exact h0
     · rw [List.getElem?_eq_none (by simp;omega)] at hi;cases hi
    rw [this] at hi
    simp at hi
    exact .inr ⟨by omega,hi.symm⟩
 refine ⟨⟨?_,?_,?_,by simp [h.len],?_,h.glob⟩,⟨fun _ _ h=>h,hsize,fun b hb _=>⟨hkeep b hb,rfl⟩,?_,hos,htape,hout,hdr,fun i e _ h=>Sg.le_append _ _ i e h⟩⟩
 · intro b x hb
   rw [hkeep b (h.gm_lt hb)];exact h.mem b x hb
 · intro i b c hi
   rcases hnew i _ hi with h1 | ⟨_,h1⟩
   · have:=h.own i b c h1;exact ⟨this.1,by omega⟩
   · simp only [Option.some.injEq,Prod.mk.injEq] at h1
     have h2:=hblk b h1.1.symm
     refine ⟨?_,h2.2⟩
     cases hg:γ b with
     | none=>rfl
     | some x=>have:=h.gm_lt hg;omega
 · intro i j b c c' hi hj
   rcases hnew i _ hi with h1 | ⟨e1,h1⟩ <;> rcases hnew j _ hj with h2 | ⟨e2,h2⟩
   · exact h.inj i j b c c' h1 h2
   · simp only [Option.some.injEq,Prod.mk.injEq] at h2
     have:=(h.own i b c h1).2
     have:=hblk b h2.1.symm
     omega
   · simp only [Option.some.injEq,Prod.mk.injEq] at h1
     have:=(h.own j b c' h2).2
     have:=hblk b h1.1.symm
     omega
   · omega
 · intro i ob e hi he
   rcases hnew i _ he with h1 | ⟨e1,rfl⟩
   · have hlt:i<H.length:=by rw [← h.len];exact (List.getElem?_eq_some_iff.1 h1).1
     rw [List.getElem?_append_left hlt] at hi
     refine (h.obj i ob e hi h1).mono (fun _ _ h=>h) (Sg.le_append _ _) fun b c hb=>?_
     subst hb
     exact hkeep b (h.own i b c h1).2
   · subst e1
     rw [h.len] at hi
     simp at hi
     subst hi
     exact hobj
 · rintro b ⟨i,c,hi⟩
   rcases hnew i _ hi with h1 | ⟨_,h1⟩
   · exact .inl ⟨i,c,h1⟩
   · simp only [Option.some.injEq,Prod.mk.injEq] at h1
     exact .inr (hblk b h1.1.symm).1
theorem repO_lost {γ:Gm} {σ:Sg} {w:World} (e:Option Nat × Nat):RepO γ σ w (some e) .lost:=by
 rcases e with ⟨_ | b,c⟩ <;> trivial
theorem repO_arr {γ:Gm} {σ:Sg} {w:World} {blk:Option Nat} {cap:Nat} {E:TypeId} {sz:Nat} {xs:List AV} :
 RepO γ σ w (some (blk,cap)) (.arr E sz xs)↔∃ vs,RepVs γ σ xs vs∧(∀ u ∈ vs,okEl sz u)∧0<sz∧xs.length≤cap∧w.ownsRow 0 E sz (.slice (blk.map (⟨·,0,none⟩)) xs.length cap) xs.length (flat vs):=by
 cases blk <;> exact Iff.rfl
theorem Inv.drew {γ:Gm} {σ:Sg} {w:World} {H:List AObj} (h:Inv γ σ w H):Inv γ σ w.drew H :=
 ⟨h.mem,h.own,h.inj,h.len,fun i o e hi he=>(h.obj i o e hi he).mono (fun _ _ h=>h) (Sg.le_refl _) fun _ _ _=>rfl,h.glob⟩
theorem Step.drew {m:Nat} (γ:Gm) (σ:Sg) (w:World):Step m γ σ w γ σ w.drew:=⟨fun _ _ h=>h,Nat.le_refl _,fun _ _ _=>⟨rfl,rfl⟩,fun _ h=>.inl h,rfl,rfl,rfl,Nat.le_succ _,fun _ _ _ h=>.inl h⟩
end Go.Al
namespace Go.Al
def cellsO:AV→Option (List AV)
 | .agg xs=>some xs
 | .junk | .bad | .tup _=>none
 | .raw v=>if v.oneCell' then some [.raw v] else none
 | x=>some [x]
theorem cells_of_onec {v:Value} (h:onec v):v.cells = #[v]:=by cases v <;> simp [onec,Value.oneCell'] at h <;> rfl
theorem cellsO_spec {γ:Gm} {σ:Sg} {x:AV} {v:Value} {cs:List AV} (h:RepV γ σ x v) (hc:cellsO x=some cs):RepVs γ σ cs v.cells.toList∧∀ u ∈ v.cells.toList,onec u:=by
 have one:∀ {y:AV},RepV γ σ y v→v.cells = #[v]→onec v→RepVs γ σ [y] v.cells.toList∧∀ u ∈ v.cells.toList,onec u:=by
  intro y hy hv h1
  rw [hv]
  exact ⟨repVs_cons.2 ⟨v,[],rfl,hy,repVs_nil.2 rfl⟩,by simpa using h1⟩
 cases x <;> simp only [cellsO,Option.some.injEq] at hc <;> try subst hc
 case agg xs =>
  obtain ⟨vs,rfl,h2,h3⟩:=h
  simpa [Value.cells] using ⟨h2,h3⟩
 case raw u =>
  split at hc
  · rename_i ho
    simp only [Option.some.injEq] at hc
    subst hc
    have:v=u:=h
    subst this
    refine one h ?_ ho
    cases v <;> simp [Value.oneCell'] at ho <;> rfl
  · cases hc
 case int=>have h':=h;simp only [RepV] at h';subst h';exact one h rfl rfl
 case bool=>have h':=h;simp only [RepV] at h';subst h';exact one h rfl rfl
 case str=>have h':=h;simp only [RepV] at h';subst h';exact one h rfl rfl
 case junk=>cases hc
 case bad=>cases hc
 case tup=>cases hc
 case view=>have h':=h;obtain ⟨_,_,_,_,rfl,_⟩:=h';exact one h rfl rfl
 case vp=>have h':=h;obtain ⟨_,_,_,rfl,_⟩:=h';exact one h rfl rfl
 case full=>have h':=h;obtain ⟨_,_,_,rfl,_⟩:=h';exact one h rfl rfl
 case mview =>
  have h':=h
  obtain ⟨_,_,_,_,h5⟩:=h'
  rcases h5 with ⟨rfl,_⟩ | ⟨_,rfl,_⟩ <;> exact one h rfl rfl
 case slc=>have h':=h;obtain ⟨_,_,h3,_⟩:=h';exact one h (cells_of_onec h3) h3
 case op=>have h':=h;obtain ⟨_,_,h3,_⟩:=h';exact one h (cells_of_onec h3) h3
 case ep=>have h':=h;obtain ⟨_,_,h3,_⟩:=h';exact one h (cells_of_onec h3) h3
 case mp=>have h':=h;obtain ⟨_,_,h3,_⟩:=h';exact one h (cells_of_onec h3) h3
 case itr=>have h':=h;obtain ⟨_,_,h3,_⟩:=h';exact one h (cells_of_onec h3) h3
 case yld=>have h':=h;obtain ⟨_,_,h3,_⟩:=h';exact one h (cells_of_onec h3) h3
 case sub=>have h':=h;obtain ⟨_,_,h3,_⟩:=h';exact one h (cells_of_onec h3) h3
 case fn=>have h':=h;obtain ⟨_,_,rfl,_⟩:=h';exact one h rfl rfl
 case ifc=>have h':=h;obtain ⟨_,rfl,_⟩:=h';exact one h rfl rfl
theorem Sg.le_nil (σ:Sg):Sg.le [] σ:=fun i e h=>by simp at h
def ptrCells (H:List AObj):AV→Option (List AV)
 | .vp cs=>some cs
 | .op id off=>match H[id]? with | some (.box cs)=>some (cs.drop off) | _=>none
 | .ep id sz i off=>match H[id]? with
   | some (.arr _ sz' xs)=>if sz=sz' then (match xs[i]? with | some x=>(cellsO x).map (·.drop off) | none=>none) else none
   | _=>none
 | _=>none
theorem cellsAt_cell {w:World} {b off:Nat} {vs:List Value} (h:CellsAt w.heap[b]? off vs):∀ (j:Nat) u,vs[j]?=some u→w.cell? ⟨b,off+j,none⟩=some u:=by
 obtain ⟨c,E,fr,h1,h2⟩:=h
 intro j u hj
 simp [World.cell?,h1,h2 j u hj]
theorem flat_cons (v:Value) (vs:List Value):flat (v::vs)=v.cells.toList++flat vs:=by simp [flat]
theorem flat_append (vs us:List Value):flat (vs++us)=flat vs++flat us:=by simp [flat]
theorem flat_get {sz:Nat}:∀ {vs:List Value} (_:∀ u ∈ vs,okEl sz u) (i:Nat) (v:Value),vs[i]?=some v→∀ (j:Nat) u,v.cells.toList[j]?=some u→(flat vs)[i * sz+j]?=some u
 | [],_,i,v,h,_,_,_=>by simp at h
 | y::vs,hs,0,v,h,j,u,hu=>by
   simp at h;subst h
   rw [flat_cons,List.getElem?_append_left]
   · simpa using hu
   · have:=(List.getElem?_eq_some_iff.1 hu).1;simpa using this
 | y::vs,hs,i+1,v,h,j,u,hu=>by
   simp at h
   have hy:=(hs y (by simp)).1
   rw [flat_cons,List.getElem?_append_right (by simp [hy,Nat.add_mul];omega)]
   have:=flat_get (fun u hu=>hs u (by simp [hu])) i v h j u hu
   simp only [Array.length_toList,hy]
   rwa [show (i+1) * sz+j - sz=i * sz+j by rw [Nat.add_mul];omega]
theorem flat_length {sz:Nat}:∀ {vs:List Value} (_:∀ u ∈ vs,okEl sz u),(flat vs).length=vs.length * sz
 | [],_=>by simp [flat]
 | y::vs,hs=>by
   rw [flat_cons,List.length_append,flat_length fun u hu=>hs u (by simp [hu])]
   simp [(hs y (by simp)).1,Nat.add_mul];omega
theorem inv_entry {γ:Gm} {σ:Sg} {w:World} {H:List AObj} (hi:Inv γ σ w H) {id:Nat} {o:AObj} (h:H[id]?=some o):∃ e,σ[id]?=some e∧RepO γ σ w e o:=by
 have hlt:id<σ.length:=by rw [hi.len];exact (List.getElem?_eq_some_iff.1 h).1
 exact ⟨σ[id],List.getElem?_eq_getElem hlt,hi.obj id o _ h (List.getElem?_eq_getElem hlt)⟩
theorem ownsRow_cells {w:World} {E:TypeId} {sz n m cap:Nat} {blk:Option Nat} {xs:List Value} (h:w.ownsRow 0 E sz (.slice (blk.map (⟨·,0,none⟩)) m cap) n xs) :
 xs≠[]→∃ b,blk=some b∧CellsAt w.heap[b]? 0 xs:=by
 obtain ⟨h1,h2⟩:=h
 intro hne
 rcases h2 with ⟨h2,h3⟩ | ⟨g,cap',cur,hv,hg,hh,r1,r2,r3,r4⟩
 · subst h3;simp at h1;exact absurd h1 hne
 · cases blk with
   | none=>simp at hv
   | some b =>
     simp only [Option.map_some,Value.slice.injEq,Option.some.injEq,Addr.mk.injEq] at hv
     obtain ⟨⟨rfl,_⟩,_,_⟩:=hv
     refine ⟨b,rfl,cur,E,_,hh,fun j u hj=>?_⟩
     rw [← r4,List.getElem?_take] at hj
     split at hj
     · simpa using hj
     · cases hj
theorem ptrCells_spec {γ:Gm} {σ:Sg} {w:World} {H:List AObj} (hi:Inv γ σ w H) {p:AV} {v:Value} {cs:List AV} (h:RepV γ σ p v) (hc:ptrCells H p=some cs) :
 ∃ b off vs,v=.pointer (some ⟨b,off,none⟩)∧RepVs γ σ cs vs∧(∀ u ∈ vs,onec u)∧∀ (j:Nat) u,vs[j]?=some u→w.cell? ⟨b,off+j,none⟩=some u:=by
 cases p <;> simp only [ptrCells] at hc <;> try (cases hc;done)
 case vp cs' =>
  cases hc
  obtain ⟨b,off,vs,rfl,h2,h3,h4⟩:=h
  exact ⟨b,off,vs,rfl,RepVs.mono (fun _ _ h=>h) _ _ _ _ (Sg.le_nil σ) h2,h3,cellsAt_cell (h4.mono (hi.mem b))⟩
 case op id off =>
  split at hc
  · rename_i cs' hH
    cases hc
    obtain ⟨e,he,ho⟩:=inv_entry hi hH
    obtain ⟨e',he',h1,h2⟩:=h
    rw [he] at he';cases he'
    unfold RepO at ho
    split at ho
    · rename_i b c cs2 heq
      cases heq
      obtain ⟨vs,E,h3,h4,h5⟩:=ho
      refine ⟨b,off,vs.drop off,h2 b c rfl,RepVs.drop off h4,fun u hu=>h5 u (List.mem_of_mem_drop hu),fun j u hj=>?_⟩
      rw [List.getElem?_drop] at hj
      simp [World.cell?,h3,hj]
    all_goals first | (rename_i heq;cases heq;done) | exact ho.elim | skip
  · cases hc
 case ep id sz i off =>
  split at hc
  · rename_i E sz' xs hH
    split at hc
    · rename_i hsz
      subst hsz
      split at hc
      · rename_i x hx
        obtain ⟨e,he,ho⟩:=inv_entry hi hH
        obtain ⟨e',he',h1,h2⟩:=h
        rw [he] at he';cases he'
        obtain ⟨cs',hcs,rfl⟩:=Option.map_eq_some_iff.1 hc
        unfold RepO at ho
        split at ho
        · rename_i heq;cases heq
        · rename_i blk cap E' sz' xs' heq
          cases heq
          obtain ⟨vs,h3,h4,h5,h6,h7⟩:=ho
          obtain ⟨u,hu,hxu⟩:=h3.get i x hx
          obtain ⟨h8,h9⟩:=cellsO_spec hxu hcs
          have hus:=h4 u (List.mem_of_getElem? hu)
          have hne:flat vs≠[]:=by
           intro h0
           have hfl:=flat_length h4
           rw [h0] at hfl
           have hl:=(List.getElem?_eq_some_iff.1 hu).1
           have:0<vs.length * sz:=Nat.mul_pos (by omega) h5
           simp only [List.length_nil] at hfl
           omega
          obtain ⟨b,rfl,hcell⟩:=ownsRow_cells h7 hne
          refine ⟨b,i * sz+off,u.cells.toList.drop off,h2 b cap rfl,RepVs.drop off h8,fun z hz=>h9 z (List.mem_of_mem_drop hz),fun j z hz=>?_⟩
          rw [List.getElem?_drop] at hz
          have:=cellsAt_cell hcell (i * sz+(off+j)) z (flat_get h4 i u hu _ z hz)
          rw [show i * sz+off+j=0+(i * sz+(off+j)) by omega]
          exact this
        all_goals first | (rename_i heq;cases heq;done) | exact ho.elim
      · cases hc
    · cases hc
  · cases hc
def loadA (i:TInfo) (cs:List AV):Option AV:=if i.agg then (if i.size≤cs.length then some (.agg (cs.take i.size)) else none) else cs.head?
section
variable {E:Env} {γ:Gm} {σ:Sg} {w:World} {H:List AObj}
theorem run_isAgg {T:TypeId} {i:TInfo} (h:InfoOk E.P T i):(isAgg T).run E.P w=.ok i.agg w:=by
 have h2:=h.agg
 obtain ⟨d,h1,h3⟩:=h.desc
 simp only [isAgg,Sem.run_bind,run_underlying h1,Result.andThen_ok]
 rw [← h3] at h2
 rw [← h2]
 cases d <;> rfl
theorem run_sizeOf {T:TypeId} {i:TInfo} (h:InfoOk E.P T i):(sizeOf T).run E.P w=.ok i.size w:=by
 obtain ⟨inf,z,h1,h2,_⟩:=h.info
 simp [sizeOf,typeInfo,h1,h2]
theorem addr_add (b off j:Nat):(⟨b,off,none⟩:Addr).add j=⟨b,off+j,none⟩:=by
 unfold Addr.add;split <;> simp_all
def hide:List Nat→List AObj→List AObj
 | [],H=>H
 | i::L,H=>(hide L H).set i .dead
theorem hide_get:∀ {L:List Nat} {H:List AObj} {id:Nat} {o:AObj},(hide L H)[id]?=some o→o≠.dead→H[id]?=some o∧id ∉ L
 | [],_,_,_,h,_=>⟨h,by simp⟩
 | i::L,H,id,o,h,hd=>by
   simp only [hide,List.getElem?_set] at h
   split at h
   · split at h
     · cases h;exact absurd rfl hd
     · cases h
   · rename_i hne
     obtain ⟨h1,h2⟩:=hide_get h hd
     exact ⟨h1,by simp only [List.mem_cons,not_or];exact ⟨fun h=>hne h.symm,h2⟩⟩
theorem ptrCells_hide {L:List Nat} {H:List AObj} {p:AV} {cs:List AV} (h:ptrCells (hide L H) p=some cs):ptrCells H p=some cs∧∀ id,(∃ off,p=.op id off)∨(∃ sz i off,p=.ep id sz i off)→id ∉ L:=by
 cases p <;> simp only [ptrCells] at h ⊢ <;> try (cases h;done)
 case vp cs'=>exact ⟨h,by simp⟩
 case op id off =>
  split at h
  · rename_i cs' hH
    obtain ⟨h1,h2⟩:=hide_get hH (by simp)
    simp only [h1]
    exact ⟨h,fun id' h'=>by simp at h';subst h';exact h2⟩
  · cases h
 case ep id sz i off =>
  split at h
  · rename_i E sz' xs hH
    obtain ⟨h1,h2⟩:=hide_get hH (by simp)
    simp only [h1]
    exact ⟨h,fun id' h'=>by simp at h';subst h';exact h2⟩
  · cases h
def ExtL (σ:Sg) (L:List Nat) (w w':World):Prop:=∀ (b:Nat) (o:Obj),w.heap[b]?=some o→(∀ id ∈ L,∀ c,σ[id]?≠some (some (some b,c)))→w'.heap[b]?=some o
theorem ExtL.refl (σ:Sg) (L:List Nat) (w:World):ExtL σ L w w:=fun _ _ h _=>h
theorem ExtL.cell {L:List Nat} {w w':World} (h:ExtL σ L w w') {a:Addr} {v:Value} (ha:∀ id ∈ L,∀ c,σ[id]?≠some (some (some a.block,c))) (hc:w.cell? a=some v):w'.cell? a=some v:=by
 unfold World.cell? at *
 cases hb:w.heap[a.block]? with
 | none=>simp [hb] at hc
 | some o=>rw [h _ _ hb ha];rwa [hb] at hc
theorem ptr_far (hi:Inv γ σ w H) {L:List Nat} {p:AV} {v:Value} {cs:List AV} (h:RepV γ σ p v) (hc:ptrCells (hide L H) p=some cs) {b off:Nat} (hv:v=.pointer (some ⟨b,off,none⟩)):∀ id ∈ L,∀ c,σ[id]?≠some (some (some b,c)):=by
 have hcL:=ptrCells_hide hc
 clear hc
 obtain ⟨hc,hL⟩:=hcL
 intro id hid c hs
 cases p <;> simp only [ptrCells] at hc <;> try (cases hc;done)
 case vp cs' =>
  obtain ⟨b',off',vs,h1,_,_,_,_,_,hg,_⟩:=h
  rw [hv] at h1
  simp only [Value.pointer.injEq,Option.some.injEq,Addr.mk.injEq] at h1
  obtain ⟨rfl,_⟩:=h1
  rw [(hi.own id b c hs).1] at hg
  cases hg
 case op id' off' =>
  have hne:=hL id' (.inl ⟨off',rfl⟩)
  obtain ⟨e,he,_,h2⟩:=h
  split at hc
  · rename_i cs' hH
    obtain ⟨e',he',ho⟩:=inv_entry hi hH
    rw [he] at he';cases he'
    unfold RepO at ho
    split at ho
    · rename_i b' c' cs2 heq
      have:=h2 b' c' rfl
      rw [hv] at this
      simp only [Value.pointer.injEq,Option.some.injEq,Addr.mk.injEq] at this
      obtain ⟨rfl,_⟩:=this
      have:=hi.inj id id' b c c' hs he
      subst this
      exact hne hid
    all_goals first | (rename_i heq;cases heq;done) | exact ho.elim
  · cases hc
 case ep id' sz i off' =>
  have hne:=hL id' (.inr ⟨sz,i,off',rfl⟩)
  have hc':=hc
  obtain ⟨b2,off2,vs2,hv2,_,_,_⟩:=ptrCells_spec hi (p:=.ep id' sz i off') (cs:=cs) h (by simp only [ptrCells];exact hc)
  obtain ⟨e,he,_,h2⟩:=h
  split at hc
  · rename_i E sz' xs hH
    obtain ⟨e',he',ho⟩:=inv_entry hi hH
    rw [he] at he';cases he'
    cases e with
    | none=>unfold RepO at ho;exact ho.elim
    | some e =>
      obtain ⟨blk,cap⟩:=e
      cases blk with
      | some b' =>
        have:=h2 b' cap rfl
        rw [hv] at this
        simp only [Value.pointer.injEq,Option.some.injEq,Addr.mk.injEq] at this
        obtain ⟨rfl,_⟩:=this
        have:=hi.inj id id' b c cap hs he
        subst this
        exact hne hid
      | none =>
        split at hc
        · rename_i hsz
          subst hsz
          split at hc
          · rename_i x hx
            obtain ⟨vs,h3,h4,h5,h6,h7⟩:=ho
            obtain ⟨u,hu,_⟩:=h3.get i x hx
            have hne:flat vs≠[]:=by
             intro h0
             have hfl:=flat_length h4
             rw [h0] at hfl
             have hl:=(List.getElem?_eq_some_iff.1 hu).1
             have:0<vs.length * sz:=Nat.mul_pos (by omega) h5
             simp only [List.length_nil] at hfl
             omega
            obtain ⟨b',hb',_⟩:=ownsRow_cells h7 hne
            cases hb'
          · cases hc
        · cases hc
  · cases hc
theorem load_run {T:TypeId} {i:TInfo} (hT:InfoOk E.P T i) (hi:Inv γ σ w H) {p x:AV} {v:Value} {cs:List AV} {L:List Nat} (hp:RepV γ σ p v) (hc:ptrCells (hide L H) p=some cs) (hl:loadA i cs=some x) :
 ∃ u,RepV γ σ x u∧∀ w',ExtL σ L w w'→(Instr.loadAt T v).run E.P w'=.ok u w':=by
 obtain ⟨b,off,vs,rfl,h1,h2,h3⟩:=ptrCells_spec hi hp (ptrCells_hide hc).1
 have hfar:=ptr_far hi hp hc rfl
 have h3:∀ w',ExtL σ L w w'→∀ (j:Nat) u,vs[j]?=some u→w'.cell? ⟨b,off+j,none⟩=some u:=fun w' hw j u hj=>hw.cell hfar (h3 j u hj)
 simp only [Instr.loadAt,Instr.sureAddr,loadVar,Sem.run_bind,Sem.run_pure,Result.andThen_ok,run_isAgg hT]
 unfold loadA at hl
 cases ha:i.agg with
 | true =>
   rw [ha] at hl
   simp only [if_true] at hl
   split at hl
   · rename_i hle
     cases hl
     have hlen:(vs.take i.size).length=i.size:=by have:=h1.length;simp;omega
     refine ⟨_,⟨_,rfl,RepVs.take i.size h1,fun u hu=>h2 u (List.mem_of_mem_take hu)⟩,fun w' hw=>?_⟩
     have hld:=run_loadCells_list (P:=E.P) w' ⟨b,off,none⟩ (vs.take i.size) (fun j u hj=>by
      rw [addr_add]
      exact h3 w' hw j u (by rw [List.getElem?_take] at hj;split at hj <;> simp_all))
     rw [hlen] at hld
     simp only [if_true,Sem.run_bind,run_sizeOf hT,Result.andThen_ok,hld,Sem.run_pure]
   · cases hl
 | false =>
   rw [ha] at hl
   simp only [Bool.false_eq_true,if_false] at hl ⊢
   cases cs with
   | nil=>simp at hl
   | cons c cs =>
     simp at hl;subst hl
     obtain ⟨u,vs',rfl,h4,h5⟩:=repVs_cons.1 h1
     refine ⟨u,h4,fun w' hw=>?_⟩
     have:=h3 w' hw 0 u (by simp)
     simp only [Nat.add_zero] at this
     simp only [run_load,this]
end
end Go.Al
namespace Go.Al
def ptrAdd (n:Nat):AV→AV
 | .vp cs=>.vp (cs.drop n)
 | .op id off=>.op id (off+n)
 | .ep id sz i off=>.ep id sz i (off+n)
 | _=>.bad
def Idx (xs:List AV) (i:Int) (k:AV→Prop):Prop:=∃ x,0≤i∧xs[i.toNat]?=some x∧k x
def boolA (op:BinOp) (a b:Bool):Option AV:=match op with
 | .eql=>some (.bool (a == b))
 | .neq=>some (.bool (a != b))
 | _=>none
def intA (op:BinOp) (k:IntKind) (a b:Int):Option AV:=match op with
 | .add=>some (.int k (k.wrap (a+b)))
 | .sub=>some (.int k (k.wrap (a - b)))
 | .mul=>some (.int k (k.wrap (a * b)))
 | .and=>some (.int k (k.wrap (BitVec.ofInt k.bits a &&& BitVec.ofInt k.bits b).toNat))
 | .or=>some (.int k (k.wrap (BitVec.ofInt k.bits a ||| BitVec.ofInt k.bits b).toNat))
 | .xor=>some (.int k (k.wrap (BitVec.ofInt k.bits a ^^^ BitVec.ofInt k.bits b).toNat))
 | .andNot=>some (.int k (k.wrap (BitVec.ofInt k.bits a &&& ~~~ BitVec.ofInt k.bits b).toNat))
 | .eql=>some (.bool (decide (a=b)))
 | .neq=>some (.bool (!decide (a=b)))
 | .lss=>some (.bool (decide (a<b)))
 | .leq=>some (.bool (decide (a≤b)))
 | .gtr=>some (.bool (decide (b<a)))
 | .geq=>some (.bool (decide (b≤a)))
 | _=>none
def strA (op:BinOp) (a b:ByteArray):Option AV:=match op with
 | .eql=>some (.bool (decide (a=b)))
 | .neq=>some (.bool (!decide (a=b)))
 | .lss=>some (.bool (Op.bytesLess a.toList b.toList))
 | .leq=>some (.bool (Op.bytesLess a.toList b.toList || decide (a=b)))
 | .gtr=>some (.bool (!(Op.bytesLess a.toList b.toList || decide (a=b))))
 | .geq=>some (.bool (!Op.bytesLess a.toList b.toList))
 | _=>none
def flatEq:List AV→List AV→Option Bool
 | [],[]=>some true
 | .int k a::xs,.int k' b::ys=>if k=k' then (flatEq xs ys).map (decide (a=b) && ·) else none
 | .bool a::xs,.bool b::ys=>(flatEq xs ys).map ((a == b) && ·)
 | .str a::xs,.str b::ys=>(flatEq xs ys).map (decide (a=b) && ·)
 | _,_=>none
def partA (i:TInfo) (xs:List AV) (off:Nat):Option AV:=if i.agg then (if off+i.size≤xs.length then some (.agg ((xs.drop off).take i.size)) else none) else xs[off]?
def optP (o:Option AV) (k:AV→Prop):Prop:=match o with | some x=>k x | none=>False
def isIface:D→Bool | .iface _ | .other=>true | _=>false
end Go.Al
namespace Go.Al
section
variable {E:Env} {γ:Gm} {σ:Sg} {w:World} {H:List AObj} {fr:List (Nat × AV)} {a:Act} {R:World→Prop}
def Yields (E:Env) (γ:Gm) (σ:Sg) (R:World→Prop) (a:Act) (o:Oper) (k:AV→Prop):Prop :=
 ∃ x u,RepV γ σ x u∧k x∧∀ w',R w'→(execOp a.eval o).run E.P w'=.ok (.value u) w'
theorem Yields.of {o:Oper} {k:AV→Prop} {x:AV} {u:Value} (hx:RepV γ σ x u) (hk:k x) {m:Sem Value} (he:execOp a.eval o=(do pure (.value (← m)))) (hm:∀ w',R w'→m.run E.P w'=.ok u w'):Yields E γ σ R a o k :=
 ⟨x,u,hx,hk,fun w' hw=>by rw [he,Sem.run_bind,hm w' hw];rfl⟩
theorem y_move {o:Oper} {k:AV→Prop} {x:Operand} (ho:o.op=.move x∨o.op=.assign x) (hf:RepF γ σ fr a.tmps) (h:k (ev fr x)):Yields E γ σ R a o k:=by
 refine ⟨_,a.eval x,repV_ev hf x,h,fun w' _=>?_⟩
 rcases ho with ho | ho <;> simp [execOp,ho]
theorem y_pick {o:Oper} {k:AV→Prop} {c x y:Operand} {b:Bool} (ho:o.op=.pick c x y) (hf:RepF γ σ fr a.tmps) (hc:ev fr c=.bool b) (h:k (if b then ev fr x else ev fr y)):Yields E γ σ R a o k:=by
 have h1:=repV_ev hf c
 rw [hc] at h1
 refine ⟨_,if b then a.eval x else a.eval y,?_,h,fun w' _=>?_⟩
 · cases b <;> simp <;> exact repV_ev hf _
 · simp only [RepV] at h1
   cases b <;> simp [execOp,ho,h1,asBool]
theorem y_load {o:Oper} {k:AV→Prop} {T:TypeId} {p:Operand} {i:TInfo} {cs:List AV} (ho:o.op=.load T p) (hE:E.ok) (hi:Inv γ σ w H) (hf:RepF γ σ fr a.tmps) (hT:E.TI T=some i) {L:List Nat} (hR:∀ w',R w'→ExtL σ L w w')
 (hc:ptrCells (hide L H) (ev fr p)=some cs) (h:optP (loadA i cs) k):Yields E γ σ R a o k:=by
 unfold optP at h
 split at h
 · rename_i x hx
   obtain ⟨u,h1,h2⟩:=load_run (hE T i hT) hi (repV_ev hf p) hc hx
   exact .of h1 h (by simp only [execOp,ho]) fun w' hw=>h2 w' (hR w' hw)
 · exact h.elim
theorem y_gload {o:Oper} {k:AV→Prop} {T:TypeId} {g:Nat} {i:TInfo} {x:AV} (ho:o.op=.load T (.global g)) (hE:E.ok) (hi:Inv γ σ w H) (hT:E.TI T=some i) (ha:i.agg=false) (hg:glob g=some x) {L:List Nat} (hR:∀ w',R w'→ExtL σ L w w') (h:k x):Yields E γ σ R a o k:=by
 have hp:RepV γ σ (.vp [x]) (a.eval (.global g)):=RepV.mono (fun _ _ h=>h) _ _ _ _ (Sg.le_nil _) (hi.glob g x hg)
 obtain ⟨u,h1,h2⟩:=load_run (L:=L) (cs:=[x]) (x:=x) (hE T i hT) hi hp rfl (by simp [loadA,ha])
 exact .of h1 h (by simp only [execOp,ho]) fun w' hw=>h2 w' (hR w' hw)
theorem ptrAdd_spec (hi:Inv γ σ w H) {p:AV} {v:Value} {cs:List AV} (h:RepV γ σ p v) (hc:ptrCells H p=some cs) (n:Nat) :
 ∃ b off,v=.pointer (some ⟨b,off,none⟩)∧RepV γ σ (ptrAdd n p) (.pointer (some ⟨b,off+n,none⟩)):=by
 cases p <;> simp only [ptrCells] at hc <;> try (cases hc;done)
 case vp cs' =>
  obtain ⟨b,off,vs,rfl,h2,h3,c,E',fr',h5,h6⟩:=h
  refine ⟨b,off,rfl,b,off+n,vs.drop n,rfl,RepVs.drop n h2,fun u hu=>h3 u (List.mem_of_mem_drop hu),c,E',fr',h5,fun j u hj=>?_⟩
  rw [List.getElem?_drop] at hj
  rw [show off+n+j=off+(n+j) by omega]
  exact h6 _ _ hj
 case op id off =>
  obtain ⟨b,off',vs,hv,_⟩:=ptrCells_spec hi h (p:=.op id off) (cs:=cs) (by simpa only [ptrCells] using hc)
  obtain ⟨e,he,h1,h2⟩:=h
  refine ⟨b,off',hv,e,he,rfl,fun b' c' hb=>?_⟩
  have:=h2 b' c' hb
  rw [hv] at this
  simp only [Value.pointer.injEq,Option.some.injEq,Addr.mk.injEq] at this ⊢
  exact ⟨this.1,by omega,trivial⟩
 case ep id sz i off =>
  obtain ⟨b,off',vs,hv,_⟩:=ptrCells_spec hi h (p:=.ep id sz i off) (cs:=cs) (by simpa only [ptrCells] using hc)
  obtain ⟨e,he,h1,h2⟩:=h
  refine ⟨b,off',hv,e,he,rfl,fun b' c' hb=>?_⟩
  have:=h2 b' c' hb
  rw [hv] at this
  simp only [Value.pointer.injEq,Option.some.injEq,Addr.mk.injEq] at this ⊢
  exact ⟨this.1,by omega,trivial⟩
theorem y_fieldAddr {o:Oper} {k:AV→Prop} {T f:Nat} {p:Operand} {i fi:TInfo} {fs:List (Nat × TypeId)} {fo ft:Nat} {cs:List AV} (ho:o.op=.fieldAddr T p f) (hE:E.ok) (hi:Inv γ σ w H) (hf:RepF γ σ fr a.tmps)
 (hT:E.TI T=some i) (hd:i.desc=.struct fs) (hfd:fs[f]?=some (fo,ft)) (hfi:E.TI ft=some fi) (hsz:fi.size≠0) (hc:ptrCells H (ev fr p)=some cs) (h:k (ptrAdd fo (ev fr p))):Yields E γ σ R a o k:=by
 obtain ⟨b,off,hv,hr⟩:=ptrAdd_spec hi (repV_ev hf p) hc fo
 refine .of hr h (by simp only [execOp,ho];rfl) fun w' _=>?_
 obtain ⟨fs',hu,hfs⟩:=(hE T i hT).struct hd
 obtain ⟨fd,hfd',rfl,rfl⟩:=fields_get hfs hfd
 have hu:=run_underlying (P:=E.P) (w:=w') hu
 have hs:=run_sizeOf (w:=w') (hE _ _ hfi)
 simp only [Instr.fieldAt,Sem.run_bind,hu,Result.andThen_ok,hfd',hv,Instr.sureAddr,Sem.run_pure,fieldPlace,hs,Sem.run_ite,if_neg hsz,addr_add]
theorem part_run {T:TypeId} {i:TInfo} (hT:InfoOk E.P T i) {xs:List AV} {vs:List Value} (hx:RepVs γ σ xs vs) (h1:∀ u ∈ vs,onec u) {off:Nat} {x:AV} (hp:partA i xs off=some x) :
 ∃ u,RepV γ σ x u∧∀ w',(part T vs.toArray off).run E.P w'=.ok u w':=by
 unfold partA at hp
 split at hp
 · rename_i ha
   split at hp
   · rename_i hle
     cases hp
     refine ⟨_,⟨_,rfl,RepVs.take i.size (RepVs.drop off hx),fun u hu=>h1 u (List.mem_of_mem_drop (List.mem_of_mem_take hu))⟩,fun w'=>?_⟩
     simp only [part,Sem.run_bind,run_isAgg hT,ha,Result.andThen_ok,if_true,run_sizeOf hT,Sem.run_pure]
     simp [List.take_drop]
   · cases hp
 · rename_i ha
   obtain ⟨u,hu,hr⟩:=hx.get off x hp
   refine ⟨u,hr,fun w'=>?_⟩
   simp only [part,Sem.run_bind,run_isAgg hT,ha,Result.andThen_ok,List.getElem?_toArray,hu]
   rfl
theorem y_field {o:Oper} {k:AV→Prop} {T f:Nat} {p:Operand} {i fi:TInfo} {fs:List (Nat × TypeId)} {fo ft:Nat} {xs:List AV} (ho:o.op=.field T p f) (hE:E.ok) (hf:RepF γ σ fr a.tmps)
 (hT:E.TI T=some i) (hd:i.desc=.struct fs) (hfd:fs[f]?=some (fo,ft)) (hfi:E.TI ft=some fi) (hx:ev fr p=.agg xs) (h:optP (partA fi xs fo) k):Yields E γ σ R a o k:=by
 unfold optP at h
 split at h
 · rename_i x hpx
   have hv:=repV_ev hf p
   rw [hx] at hv
   obtain ⟨vs,hv,hvs,h1⟩:=hv
   obtain ⟨u,hu,hr⟩:=part_run (hE _ _ hfi) hvs h1 hpx
   refine .of hu h (by simp only [execOp,ho];rfl) fun w' _=>?_
   obtain ⟨fs',hun,hfs⟩:=(hE T i hT).struct hd
   obtain ⟨fd,hfd',rfl,rfl⟩:=fields_get hfs hfd
   have hun:=run_underlying (P:=E.P) (w:=w') hun
   simp only [Instr.field,Sem.run_bind,hun,Result.andThen_ok,hfd',hv,asAgg,Sem.run_pure,hr]
 · exact h.elim
theorem y_extract {o:Oper} {k:AV→Prop} {t:Operand} {i:Nat} {xs:List AV} (ho:o.op=.extract t i) (hf:RepF γ σ fr a.tmps) (hx:ev fr t=.tup xs) (h:optP xs[i]? k):Yields E γ σ R a o k:=by
 unfold optP at h
 split at h
 · rename_i x hpx
   have hv:=repV_ev hf t
   rw [hx] at hv
   obtain ⟨vs,hv,hvs⟩:=hv
   obtain ⟨u,hu,hr⟩:=hvs.get i x hpx
   refine .of hr h (by simp only [execOp,ho];rfl) fun w' _=>?_
   simp [hv,Instr.extract,hu]
 · exact h.elim
theorem y_not {o:Oper} {k:AV→Prop} {x:Operand} {T:TypeId} {b:Bool} (ho:o.op=.unOp .not T x) (hf:RepF γ σ fr a.tmps) (hx:ev fr x=.bool b) (h:k (.bool (!b))):Yields E γ σ R a o k:=by
 have hv:=repV_ev hf x
 rw [hx] at hv
 simp only [RepV] at hv
 exact .of (x:=.bool (!b)) rfl h (by simp only [execOp,ho];rfl) fun w' _=>by simp [hv,Op.unary]
theorem y_neg {o:Oper} {k:AV→Prop} {x:Operand} {T:TypeId} {ki:IntKind} {n:Int} (ho:o.op=.unOp .neg T x) (hf:RepF γ σ fr a.tmps) (hx:ev fr x=.int ki n) (h:k (.int ki (ki.wrap (0 - n)))):Yields E γ σ R a o k:=by
 have hv:=repV_ev hf x
 rw [hx] at hv
 simp only [RepV] at hv
 exact .of (x:=.int ki (ki.wrap (0 - n))) rfl h (by simp only [execOp,ho];rfl) fun w' _=>by simp [hv,Op.unary,Op.intArith]
theorem y_convert {o:Oper} {k:AV→Prop} {x:Operand} {S T:TypeId} {si ti:TInfo} {ki kt:IntKind} {n:Int} (ho:o.op=.convert S T x) (hE:E.ok) (hf:RepF γ σ fr a.tmps)
 (hS:E.TI S=some si) (hT:E.TI T=some ti) (hx:ev fr x=.int ki n) (hd:ti.desc=.int kt) (h:k (.int kt (kt.wrap n))):Yields E γ σ R a o k:=by
 have hv:=repV_ev hf x
 rw [hx] at hv
 simp only [RepV] at hv
 refine .of (x:=.int kt (kt.wrap n)) rfl h (by simp only [execOp,ho];rfl) fun w' _=>?_
 have h1:=run_underlying (P:=E.P) (w:=w') ((hE T ti hT).int hd)
 obtain ⟨ds,h2,_⟩:=(hE S si hS).desc
 have h2:=run_underlying (P:=E.P) (w:=w') h2
 simp only [convert,Sem.run_bind,h1,h2,Result.andThen_ok,hv]
 simp [Conv.intToInt]
theorem repVs_evs (hf:RepF γ σ fr a.tmps):∀ (xs:List Operand),RepVs γ σ (xs.map (ev fr)) (xs.map a.eval)
 | []=>by simp [RepVs]
 | x::xs=>repVs_cons.2 ⟨_,_,rfl,repV_ev hf x,repVs_evs hf xs⟩
theorem y_makeFunc {o:Oper} {k:AV→Prop} {f:Fn} {first caps:Array Operand} (ho:o.op=.makeFunc f first caps) (hf:RepF γ σ fr a.tmps) (h:k (.fn f (first.toList.map (ev fr)) (caps.toList.map (ev fr)))):Yields E γ σ R a o k:=by
 have e:RepV γ σ (.fn f (first.toList.map (ev fr)) (caps.toList.map (ev fr))) (.func f (first.map a.eval) (caps.map a.eval)) :=
  ⟨_,_,by congr 1 <;> (apply Array.ext';simp),repVs_evs hf _,repVs_evs hf _⟩
 exact .of e h (by simp only [execOp,ho];rfl) fun w' _=>by simp [Instr.makeFunc]
theorem y_makeInterface {o:Oper} {k:AV→Prop} {T:TypeId} {x:Operand} {i:TInfo} (ho:o.op=.makeInterface T x) (hE:E.ok) (hf:RepF γ σ fr a.tmps) (hT:E.TI T=some i) (hd:¬ isIface i.desc=true) (h:k (.ifc T (ev fr x))):Yields E γ σ R a o k:=by
 refine .of (x:=.ifc T (ev fr x)) (u:=.iface T (a.eval x)) ⟨_,rfl,repV_ev hf x⟩ h (by simp only [execOp,ho];rfl) fun w' _=>?_
 obtain ⟨d,h1,h2⟩:=(hE T i hT).desc
 simp only [Instr.makeInterface,Sem.run_bind,run_underlying h1,Result.andThen_ok]
 rw [← h2] at hd
 cases d <;> simp_all [isIface,toD]
theorem size_of_rep_view {sz:Nat} {xs:List AV} {v:Value} (h:RepV γ σ (.view sz xs) v):∃ ad c,v=.slice ad xs.length c∧xs.length≤c∧c≤maxLen:=by
 obtain ⟨ad,n,c,vs,rfl,h1,h2,h3,h4,_⟩:=h
 have:=h1.length
 exact ⟨ad,c,by rw [← h2,this],by omega,h4⟩
theorem y_indexAddr_view {o:Oper} {k:AV→Prop} {T e:TypeId} {x i:Operand} {ti ei:TInfo} {ki:IntKind} {n:Int} {xs:List AV} (ho:o.op=.indexAddr T x i) (hE:E.ok) (hi:Inv γ σ w H) (hf:RepF γ σ fr a.tmps)
 (hT:E.TI T=some ti) (hn:ev fr i=.int ki n) (hd:ti.desc=.slice e) (he:E.TI e=some ei) (hx:ev fr x=.view ei.size xs)
 (h:Idx xs n (fun y=>match cellsO y with | some cs=>k (.vp cs) | none=>False)):Yields E γ σ R a o k:=by
 obtain ⟨y,h0,hy,hk⟩:=h
 split at hk
 · rename_i cs hcs
   have hv:=repV_ev hf x
   rw [hx] at hv
   have hvi:=repV_ev hf i
   rw [hn] at hvi
   simp only [RepV] at hvi
   obtain ⟨ad,m,c,vs,hv,hvs,hm,_,_,hsz,hcell⟩:=hv
   obtain ⟨u,hu,hyu⟩:=hvs.get _ _ hy
   have hlt:=(List.getElem?_eq_some_iff.1 hu).1
   obtain ⟨b,off,rfl,hat⟩:=hcell (by omega)
   obtain ⟨h1,h2⟩:=cellsO_spec hyu hcs
   obtain ⟨c',E',fr',hg,hat'⟩:=hat
   have hlt':n<(m:Int):=by omega
   refine .of (x:=.vp cs) (u:=.pointer (some ⟨b,off+n.toNat * ei.size,none⟩)) ⟨b,off+n.toNat * ei.size,u.cells.toList,rfl,h1,h2,c',E',fr',hg,fun j z hz=>?_⟩ hk (by simp only [execOp,ho];rfl) fun w' hw=>?_
   · rw [show off+n.toNat * ei.size+j=off+(n.toNat * ei.size+j) by omega]
     exact hat' _ _ (flat_get hsz n.toNat u hu j z hz)
   · have hun:=run_underlying (P:=E.P) (w:=w') ((hE T ti hT).slice hd)
     simp only [Instr.indexAt,asIntOf,hvi,hv,Sem.run_bind,Sem.run_pure,Result.andThen_ok,hun]
     rw [if_pos ⟨h0,hlt'⟩]
     simp only [Sem.run_bind,run_sizeOf (hE e ei he),Result.andThen_ok,Sem.run_pure,addr_add]
 · exact hk.elim
theorem y_indexAddr_slc {o:Oper} {k:AV→Prop} {T e E':TypeId} {x i:Operand} {ti ei:TInfo} {ki:IntKind} {n:Int} {id m sz':Nat} {y:AV} {ys:List AV} (ho:o.op=.indexAddr T x i) (hE:E.ok) (hi:Inv γ σ w H) (hf:RepF γ σ fr a.tmps)
 (hT:E.TI T=some ti) (hn:ev fr i=.int ki n) (hd:ti.desc=.slice e) (he:E.TI e=some ei) (hx:ev fr x=.slc id ei.size m) (hH:H[id]?=some (.arr E' sz' (y::ys)))
 (h0:0≤n) (hlt:n<m) (hk:k (.ep id ei.size n.toNat 0)):Yields E γ σ R a o k:=by
 have hv:=repV_ev hf x
 rw [hx] at hv
 have hvi:=repV_ev hf i
 rw [hn] at hvi
 simp only [RepV] at hvi
 obtain ⟨en,hen,h1,h2⟩:=hv
 obtain ⟨en',hen',hob⟩:=inv_entry hi hH
 rw [hen] at hen';cases hen'
 unfold RepO at hob
 split at hob
 · rename_i heq;cases heq
 · rename_i blk cap E'' sz'' xs'' heq
   cases heq
   obtain ⟨vs,h3,h4,h5,h6,h7⟩:=hob
   obtain ⟨hv,h8,h9⟩:=h2 blk cap rfl
   have hne:flat vs≠[]:=by
    intro hz
    have hfl:=flat_length h4
    rw [hz,h3.length] at hfl
    simp only [List.length_nil,List.length_cons] at hfl
    have:0<(ys.length+1) * sz':=Nat.mul_pos (by omega) h5
    omega
   obtain ⟨b,rfl,_⟩:=ownsRow_cells h7 hne
   refine .of (x:=.ep id ei.size n.toNat 0) (u:=.pointer (some ⟨b,n.toNat * ei.size,none⟩)) ⟨_,hen,rfl,fun b' c' hb=>by cases hb;rfl⟩ hk (by simp only [execOp,ho];rfl) fun w' hw=>?_
   have hun:=run_underlying (P:=E.P) (w:=w') ((hE T ti hT).slice hd)
   simp only [Instr.indexAt,asIntOf,hvi,hv,Sem.run_bind,Sem.run_pure,Result.andThen_ok,hun,Option.map_some]
   rw [if_pos ⟨h0,hlt⟩]
   simp only [Sem.run_bind,run_sizeOf (hE e ei he),Result.andThen_ok,Sem.run_pure,addr_add,Nat.zero_add]
 all_goals first | (rename_i heq;cases heq;done) | exact hob.elim
theorem y_indexAddr_sub {o:Oper} {k:AV→Prop} {T e:TypeId} {x i:Operand} {ti ei:TInfo} {ki:IntKind} {n:Int} {id off m:Nat} (ho:o.op=.indexAddr T x i) (hE:E.ok) (hf:RepF γ σ fr a.tmps)
 (hT:E.TI T=some ti) (hn:ev fr i=.int ki n) (hd:ti.desc=.slice e) (he:E.TI e=some ei) (hx:RepV γ σ (.sub id ei.size off m) (a.eval x)) (hen:∃ blk cap,σ[id]?=some (some (blk,cap)))
 (h0:0≤n) (hlt:n<m) (hk:k (.ep id ei.size (off+n.toNat) 0)):Yields E γ σ R a o k:=by
 have hvi:=repV_ev hf i
 rw [hn] at hvi
 simp only [RepV] at hvi
 obtain ⟨blk,cap,hs⟩:=hen
 obtain ⟨en,hen,h1,h2⟩:=hx
 rw [hs] at hen;cases hen
 obtain ⟨ad,hv,h3,h4,h5,_⟩:=h2 blk cap rfl
 obtain ⟨b,rfl,rfl⟩:=h5 (by omega)
 refine .of (x:=.ep id ei.size (off+n.toNat) 0) (u:=.pointer (some ⟨b,off * ei.size+n.toNat * ei.size,none⟩)) ⟨_,hs,rfl,fun b' c' hb=>by cases hb;simp [Nat.add_mul]⟩ hk (by simp only [execOp,ho];rfl) fun w' hw=>?_
 have hun:=run_underlying (P:=E.P) (w:=w') ((hE T ti hT).slice hd)
 simp only [Instr.indexAt,asIntOf,hvi,hv,Sem.run_bind,Sem.run_pure,Result.andThen_ok,hun,Option.map_some]
 rw [if_pos ⟨h0,hlt⟩]
 simp only [Sem.run_bind,run_sizeOf (hE e ei he),Result.andThen_ok,Sem.run_pure,addr_add]
theorem y_indexAddr_arr {o:Oper} {k:AV→Prop} {T e:TypeId} {x i:Operand} {ti ei:TInfo} {ki:IntKind} {n:Int} {len:Nat} {cs:List AV} (ho:o.op=.indexAddr T x i) (hE:E.ok) (hi:Inv γ σ w H) (hf:RepF γ σ fr a.tmps)
 (hT:E.TI T=some ti) (hn:ev fr i=.int ki n) (hd:ti.desc=.array len e) (he:E.TI e=some ei) (hc:ptrCells H (ev fr x)=some cs)
 (h0:0≤n) (hlt:n<len) (hk:k (ptrAdd (n.toNat * ei.size) (ev fr x))):Yields E γ σ R a o k:=by
 obtain ⟨b,off,hv,hr⟩:=ptrAdd_spec hi (repV_ev hf x) hc (n.toNat * ei.size)
 have hvi:=repV_ev hf i
 rw [hn] at hvi
 simp only [RepV] at hvi
 refine .of hr hk (by simp only [execOp,ho];rfl) fun w' hw=>?_
 have hun:=run_underlying (P:=E.P) (w:=w') ((hE T ti hT).array hd)
 simp only [Instr.indexAt,asIntOf,hvi,hv,Sem.run_bind,Sem.run_pure,Result.andThen_ok,hun,Instr.sureAddr]
 rw [if_pos ⟨h0,hlt⟩]
 simp only [Sem.run_bind,run_sizeOf (hE e ei he),Result.andThen_ok,Sem.run_pure,addr_add]
theorem y_index_arr {o:Oper} {k:AV→Prop} {T e:TypeId} {x i:Operand} {ti ei:TInfo} {ki:IntKind} {n:Int} {len:Nat} {xs:List AV} (ho:o.op=.index T x i) (hE:E.ok) (hf:RepF γ σ fr a.tmps)
 (hT:E.TI T=some ti) (hn:ev fr i=.int ki n) (hd:ti.desc=.array len e) (he:E.TI e=some ei) (hx:ev fr x=.agg xs)
 (h0:0≤n) (hlt:n<len) (h:optP (partA ei xs (n.toNat * ei.size)) k):Yields E γ σ R a o k:=by
 unfold optP at h
 split at h
 · rename_i y hpx
   have hv:=repV_ev hf x
   rw [hx] at hv
   obtain ⟨vs,hv,hvs,h1⟩:=hv
   have hvi:=repV_ev hf i
   rw [hn] at hvi
   simp only [RepV] at hvi
   obtain ⟨u,hu,hr⟩:=part_run (hE _ _ he) hvs h1 hpx
   refine .of hu h (by simp only [execOp,ho];rfl) fun w' _=>?_
   have hun:=run_underlying (P:=E.P) (w:=w') ((hE T ti hT).array hd)
   simp only [Instr.index,asIntOf,hvi,hv,Sem.run_bind,Sem.run_pure,Result.andThen_ok,hun]
   rw [if_pos ⟨h0,hlt⟩]
   simp only [Sem.run_bind,run_sizeOf (hE e ei he),Result.andThen_ok,hr]
 · exact h.elim
theorem y_index_str {o:Oper} {k:AV→Prop} {T:TypeId} {x i:Operand} {ti:TInfo} {ki:IntKind} {n:Int} {s:ByteArray} (ho:o.op=.index T x i) (hE:E.ok) (hf:RepF γ σ fr a.tmps)
 (hT:E.TI T=some ti) (hn:ev fr i=.int ki n) (hd:ti.desc=.string) (hx:ev fr x=.str s)
 (h0:0≤n) (hlt:n.toNat<s.size) (h:k (.int .u8 s[n.toNat].toNat)):Yields E γ σ R a o k:=by
 have hv:=repV_ev hf x
 rw [hx] at hv
 have hvi:=repV_ev hf i
 rw [hn] at hvi
 simp only [RepV] at hvi hv
 refine .of (x:=.int .u8 s[n.toNat].toNat) rfl h (by simp only [execOp,ho];rfl) fun w' _=>?_
 have hun:=run_underlying (P:=E.P) (w:=w') ((hE T ti hT).string hd)
 simp only [Instr.index,asIntOf,hvi,hv,Sem.run_bind,Sem.run_pure,Result.andThen_ok,hun,if_pos h0]
 simp [hlt]
theorem eqGuard_run {op:BinOp} {T:TypeId} {x y:Operand} {u v:Value} (w':World) (h:(∀ cs,u≠.agg cs)∧u≠.nilIface):(eqGuard op T x y u v).run E.P w'=.ok () w':=by
 unfold eqGuard
 cases op <;> simp <;> (cases u <;> simp_all)
theorem y_binop {o:Oper} {k:AV→Prop} {op:BinOp} {T yT:TypeId} {x y:Operand} {u v r:Value} {z:AV} (ho:o.op=.binOp op T x y yT) (hu:a.eval x=u) (hv:a.eval y=v) (h1:(∀ cs,u≠.agg cs)∧u≠.nilIface)
 (hk:k z) (hz:RepV γ σ z r) (hr:∀ w',(binOp op T u v).run E.P w'=.ok r w'):Yields E γ σ R a o k :=
 .of hz hk (by simp only [execOp,ho];rfl) fun w' _=>by simp only [hu,hv,Sem.run_bind,eqGuard_run w' h1,Result.andThen_ok,hr]
theorem y_int {o:Oper} {k:AV→Prop} {op:BinOp} {T yT:TypeId} {x y:Operand} {ki:IntKind} {p q:Int} (ho:o.op=.binOp op T x y yT) (hf:RepF γ σ fr a.tmps)
 (hx:ev fr x=.int ki p) (hy:ev fr y=.int ki q) (h:optP (intA op ki p q) k):Yields E γ σ R a o k:=by
 have hvx:=repV_ev hf x
 have hvy:=repV_ev hf y
 rw [hx] at hvx
 rw [hy] at hvy
 simp only [RepV] at hvx hvy
 cases op <;> simp only [intA,optP] at h
 all_goals first | exact h.elim | skip
 all_goals refine y_binop ho hvx hvy ⟨by simp,by simp⟩ h rfl fun w'=>?_
 all_goals simp [binOp,Op.intArith,Op.intBits,Op.intCmp]
 all_goals rfl
theorem y_quo {o:Oper} {k:AV→Prop} {T yT:TypeId} {x y:Operand} {ki:IntKind} {p q:Int} (ho:o.op=.binOp .quo T x y yT) (hf:RepF γ σ fr a.tmps)
 (hx:ev fr x=.int ki p) (hy:ev fr y=.int ki q) (h0:q≠0) (h:k (.int ki (ki.wrap (p.tdiv q)))):Yields E γ σ R a o k:=by
 have hvx:=repV_ev hf x
 have hvy:=repV_ev hf y
 rw [hx] at hvx
 rw [hy] at hvy
 simp only [RepV] at hvx hvy
 exact y_binop (z:=.int ki (ki.wrap (p.tdiv q))) ho hvx hvy ⟨by simp,by simp⟩ h rfl fun w'=>by simp [binOp,Op.intDiv,h0]
theorem y_rem {o:Oper} {k:AV→Prop} {T yT:TypeId} {x y:Operand} {ki:IntKind} {p q:Int} (ho:o.op=.binOp .rem T x y yT) (hf:RepF γ σ fr a.tmps)
 (hx:ev fr x=.int ki p) (hy:ev fr y=.int ki q) (h0:q≠0) (h:k (.int ki (p.tmod q))):Yields E γ σ R a o k:=by
 have hvx:=repV_ev hf x
 have hvy:=repV_ev hf y
 rw [hx] at hvx
 rw [hy] at hvy
 simp only [RepV] at hvx hvy
 exact y_binop (z:=.int ki (p.tmod q)) ho hvx hvy ⟨by simp,by simp⟩ h rfl fun w'=>by simp [binOp,Op.intDiv,h0]
theorem y_shl {o:Oper} {k:AV→Prop} {T yT:TypeId} {x y:Operand} {ki kj:IntKind} {p q:Int} (ho:o.op=.binOp .shl T x y yT) (hf:RepF γ σ fr a.tmps)
 (hx:ev fr x=.int ki p) (hy:ev fr y=.int kj q) (h0:0≤q) (h:k (.int ki (ki.wrap (p * 2 ^ (min q.toNat ki.bits))))):Yields E γ σ R a o k:=by
 have hvx:=repV_ev hf x
 have hvy:=repV_ev hf y
 rw [hx] at hvx
 rw [hy] at hvy
 simp only [RepV] at hvx hvy
 have h0':¬ q<0:=by omega
 exact y_binop (z:=.int ki (ki.wrap (p * 2 ^ (min q.toNat ki.bits)))) ho hvx hvy ⟨by simp,by simp⟩ h rfl fun w'=>by simp [binOp,Op.shift,h0']
theorem y_shr {o:Oper} {k:AV→Prop} {T yT:TypeId} {x y:Operand} {ki kj:IntKind} {p q:Int} (ho:o.op=.binOp .shr T x y yT) (hf:RepF γ σ fr a.tmps)
 (hx:ev fr x=.int ki p) (hy:ev fr y=.int kj q) (h0:0≤q) (h:k (.int ki (p.fdiv (2 ^ (min q.toNat ki.bits))))):Yields E γ σ R a o k:=by
 have hvx:=repV_ev hf x
 have hvy:=repV_ev hf y
 rw [hx] at hvx
 rw [hy] at hvy
 simp only [RepV] at hvx hvy
 have h0':¬ q<0:=by omega
 exact y_binop (z:=.int ki (p.fdiv (2 ^ (min q.toNat ki.bits)))) ho hvx hvy ⟨by simp,by simp⟩ h rfl fun w'=>by simp [binOp,Op.shift,h0']
theorem y_bool {o:Oper} {k:AV→Prop} {op:BinOp} {T yT:TypeId} {x y:Operand} {p q:Bool} {ti:TInfo} (ho:o.op=.binOp op T x y yT) (hE:E.ok) (hf:RepF γ σ fr a.tmps)
 (hT:E.TI T=some ti) (hd:ti.desc=.bool) (hx:ev fr x=.bool p) (hy:ev fr y=.bool q) (h:optP (boolA op p q) k):Yields E γ σ R a o k:=by
 have hvx:=repV_ev hf x
 have hvy:=repV_ev hf y
 rw [hx] at hvx
 rw [hy] at hvy
 simp only [RepV] at hvx hvy
 have hun:=(hE T ti hT).bool hd
 cases op <;> simp only [boolA,optP] at h
 all_goals first | exact h.elim | skip
 all_goals refine y_binop ho hvx hvy ⟨by simp,by simp⟩ h rfl fun w'=>?_
 all_goals simp only [binOp,Op.equal,show Op.maxDepth=9999+1 from rfl,Sem.run_bind,run_equalIn_bool w' 9999 T p q hun,Result.andThen_ok,Sem.run_pure]
 all_goals rfl
theorem toList_inj {a b:ByteArray} (h:a.toList=b.toList):a=b:=by
 rw [ByteArray.toList_eq,ByteArray.toList_eq] at h
 obtain ⟨⟨x⟩⟩:=a
 obtain ⟨⟨y⟩⟩:=b
 have:x=y:=h
 rw [this]
theorem beq_bytes (a b:ByteArray):(a.toList == b.toList)=decide (a=b):=by
 by_cases h:a=b
 · subst h;simp
 · simp [h];exact fun e=>h (toList_inj e)
theorem y_str {o:Oper} {k:AV→Prop} {op:BinOp} {T yT:TypeId} {x y:Operand} {p q:ByteArray} (ho:o.op=.binOp op T x y yT) (hf:RepF γ σ fr a.tmps)
 (hx:ev fr x=.str p) (hy:ev fr y=.str q) (h:optP (strA op p q) k):Yields E γ σ R a o k:=by
 have hvx:=repV_ev hf x
 have hvy:=repV_ev hf y
 rw [hx] at hvx
 rw [hy] at hvy
 simp only [RepV] at hvx hvy
 cases op <;> simp only [strA,optP] at h
 all_goals first | exact h.elim | skip
 all_goals refine y_binop ho hvx hvy ⟨by simp,by simp⟩ h rfl fun w'=>?_
 all_goals simp [binOp,Op.stringOp,beq_bytes]
end
end Go.Al
namespace Go.Al
section
variable {E:Env} {γ:Gm} {σ:Sg} {w:World} {H:List AObj} {fr:List (Nat × AV)} {a:Act} {R:World→Prop}
theorem y_nilCheck {o:Oper} {k:AV→Prop} {x:Operand} {z:AV} (ho:o.op=.nilCheck x) (hf:RepF γ σ fr a.tmps) (hz:ev fr x=z) (hk:k z)
 (h:∀ v,RepV γ σ z v→(∃ ad,v=.pointer (some ad))∨(∃ f c d,v=.func (.func f) c d)):Yields E γ σ R a o k:=by
 have hv:=repV_ev hf x
 rw [hz] at hv
 refine ⟨z,_,hv,hk,fun w' _=>?_⟩
 rcases h _ hv with ⟨ad,e⟩ | ⟨f,c,d,e⟩ <;> simp [execOp,ho,e]
theorem op_pointer (hi:Inv γ σ w H) {p:AV} {v:Value} {cs:List AV} (hc:ptrCells H p=some cs) (hv:RepV γ σ p v):∃ ad,v=.pointer (some ad):=by
 obtain ⟨b,off,vs,e,_⟩:=ptrCells_spec hi hv hc
 exact ⟨_,e⟩
theorem ep_pointer (hi:Inv γ σ w H) {id sz i off sz':Nat} {E':TypeId} {y:AV} {ys:List AV} {v:Value} (hH:H[id]?=some (.arr E' sz' (y::ys))) (hv:RepV γ σ (.ep id sz i off) v):∃ ad,v=.pointer (some ad):=by
 obtain ⟨en,hen,h1,h2⟩:=hv
 obtain ⟨en',hen',hob⟩:=inv_entry hi hH
 rw [hen] at hen';cases hen'
 unfold RepO at hob
 split at hob
 · rename_i heq;cases heq
 · rename_i blk cap E'' sz'' xs'' heq
   cases heq
   obtain ⟨vs,h3,h4,h5,h6,h7⟩:=hob
   have hne:flat vs≠[]:=by
    intro hz
    have hfl:=flat_length h4
    rw [hz,h3.length] at hfl
    simp only [List.length_nil,List.length_cons] at hfl
    have:0<(ys.length+1) * sz':=Nat.mul_pos (by omega) h5
    omega
   obtain ⟨b,rfl,_⟩:=ownsRow_cells h7 hne
   exact ⟨_,h2 b cap rfl⟩
 all_goals first | (rename_i heq;cases heq;done) | exact hob.elim
theorem slc_value (hi:Inv γ σ w H) {id sz m sz':Nat} {E':TypeId} {xs:List AV} {v:Value} (hH:H[id]?=some (.arr E' sz' xs)) (hv:RepV γ σ (.slc id sz m) v) :
 ∃ blk cap,σ[id]?=some (some (blk,cap))∧v=.slice (blk.map (⟨·,0,none⟩)) m cap∧m≤cap∧cap≤maxLen∧RepO γ σ w (some (blk,cap)) (.arr E' sz' xs):=by
 obtain ⟨en,hen,h1,h2⟩:=hv
 obtain ⟨en',hen',hob⟩:=inv_entry hi hH
 rw [hen] at hen';cases hen'
 have hob':=hob
 unfold RepO at hob
 split at hob
 · rename_i heq;cases heq
 · rename_i blk cap E'' sz'' xs'' heq
   cases heq
   obtain ⟨h3,h4,h5⟩:=h2 blk cap rfl
   exact ⟨blk,cap,hen,h3,h4,h5,hob'⟩
 all_goals first | (rename_i heq;cases heq;done) | exact hob.elim
theorem slc_sub (hi:Inv γ σ w H) {id sz m sz':Nat} {E':TypeId} {xs:List AV} {v:Value} (hH:H[id]?=some (.arr E' sz' xs)) (hv:RepV γ σ (.slc id sz m) v):RepV γ σ (.sub id sz 0 m) v:=by
 obtain ⟨blk,cap,hs,rfl,hmc,hcm,hob⟩:=slc_value hi hH hv
 refine ⟨_,hs,rfl,fun blk' cap' e=>?_⟩
 cases e
 refine ⟨_,rfl,by omega,hcm,fun hm=>?_,fun _=>rfl⟩
 cases blk with
 | some b=>exact ⟨b,rfl,by simp⟩
 | none =>
   simp only [RepO] at hob
   obtain ⟨vs,_,_,_,_,h6⟩:=hob
   rcases h6.2 with ⟨h7,_⟩ | ⟨g,cap',cur,h7,_⟩
   · simp at h7;omega
   · simp at h7
theorem sub_value (hi:Inv γ σ w H) {id sz off m sz':Nat} {E':TypeId} {xs:List AV} {v:Value} (hH:H[id]?=some (.arr E' sz' xs)) (hv:RepV γ σ (.sub id sz off m) v) :
 ∃ blk cap a,σ[id]?=some (some (blk,cap))∧v=.slice a m (cap - off)∧off+m≤cap∧cap≤maxLen∧(cap≠off→∃ b,blk=some b∧a=some ⟨b,off * sz,none⟩)∧(off=0→a=blk.map (⟨·,0,none⟩))∧RepO γ σ w (some (blk,cap)) (.arr E' sz' xs):=by
 obtain ⟨en,hen,h1,h2⟩:=hv
 obtain ⟨en',hen',hob⟩:=inv_entry hi hH
 rw [hen] at hen';cases hen'
 have hob':=hob
 unfold RepO at hob
 split at hob
 · rename_i heq;cases heq
 · rename_i blk cap E'' sz'' xs'' heq
   cases heq
   obtain ⟨a,h3,h4,h5,h6,h7⟩:=h2 blk cap rfl
   exact ⟨blk,cap,a,hen,h3,h4,h5,h6,h7,hob'⟩
 all_goals first | (rename_i heq;cases heq;done) | exact hob.elim
theorem bound_run {x:Value} {ki:IntKind} {n:Int} {y:Nat} {c:BoundsCode} {P:Program} (w':World) (hx:x=.int ki n) (h:0≤n∧n≤y):(Instr.sliceBound x y c).run P w'=.ok n.toNat w':=by
 subst hx
 simp [Instr.sliceBound,asIntOf,h]
theorem sliceBounds_run {P:Program} (w':World) {len cap:Nat} {lo hi:Option Value} {l h:Int} (hlo:(lo=none∧l=0)∨∃ ki,lo=some (.int ki l)) (hhi:(hi=none∧h=len)∨∃ ki,hi=some (.int ki h))
 (h0:0≤l) (h1:l≤h) (h2:h≤cap):(Instr.sliceBounds true len cap lo hi none).run P w'=.ok (l.toNat,h.toNat,cap) w':=by
 rcases hlo with ⟨rfl,rfl⟩ | ⟨kl,rfl⟩ <;> rcases hhi with ⟨rfl,rfl⟩ | ⟨kh,rfl⟩ <;>
  simp only [Instr.sliceBounds,Sem.run_bind,Sem.run_pure,Result.andThen_ok,Option.isSome_none,Bool.false_eq_true,if_false,if_true]
 · simp
 · rw [bound_run w' rfl ⟨by omega,h2⟩];simp
 · rw [bound_run w' rfl ⟨h0,by omega⟩];simp
 · rw [bound_run w' rfl ⟨by omega,h2⟩]
   simp only [Result.andThen_ok]
   rw [bound_run w' rfl ⟨h0,by omega⟩];simp
theorem y_slice_view {o:Oper} {k:AV→Prop} {T e:TypeId} {x:Operand} {lo hi:Option Operand} {ti ei:TInfo} {kl kh:IntKind} {l h:Int} {xs:List AV} (ho:o.op=.slice T x lo hi none) (hE:E.ok) (hf:RepF γ σ fr a.tmps)
 (hT:E.TI T=some ti) (hd:ti.desc=.slice e) (he:E.TI e=some ei) (hx:ev fr x=.view ei.size xs)
 (hl:lo.elim (AV.int .i64 0) (ev fr)=.int kl l) (hh:hi.elim (AV.int .i64 xs.length) (ev fr)=.int kh h)
 (h0:0≤l) (h1:l≤h) (h2:h≤xs.length) (hk:k (.view ei.size ((xs.take h.toNat).drop l.toNat))):Yields E γ σ R a o k:=by
 have hv:=repV_ev hf x
 rw [hx] at hv
 obtain ⟨ad,m,c,vs,hv,hvs,hm,hmc,hcm,hsz,hcell⟩:=hv
 have hlen:=hvs.length
 have hlo:((lo.map a.eval)=none∧l=0)∨∃ ki,(lo.map a.eval)=some (.int ki l):=by
  cases lo with
  | none=>simp at hl;exact .inl ⟨rfl,hl.2.symm⟩
  | some y =>
    simp at hl
    have:=repV_ev hf y
    rw [hl] at this
    simp only [RepV] at this
    exact .inr ⟨kl,by simp [this]⟩
 have hhi:((hi.map a.eval)=none∧h=m)∨∃ ki,(hi.map a.eval)=some (.int ki h):=by
  cases hi with
  | none=>simp at hh;exact .inl ⟨rfl,by omega⟩
  | some y =>
    simp at hh
    have:=repV_ev hf y
    rw [hh] at this
    simp only [RepV] at this
    exact .inr ⟨kh,by simp [this]⟩
 have hrep:RepV γ σ (.view ei.size ((xs.take h.toNat).drop l.toNat)) (.slice (if c=l.toNat then ad else ad.map (·.add (l.toNat * ei.size))) (h.toNat - l.toNat) (c - l.toNat)):=by
  refine ⟨_,_,_,(vs.take h.toNat).drop l.toNat,rfl,RepVs.drop _ (RepVs.take _ hvs),by simp;omega,by omega,by omega,fun u hu=>hsz u (List.mem_of_mem_take (List.mem_of_mem_drop hu)),fun hn=>?_⟩
  obtain ⟨b,off,rfl,c',E',fr',hg,hat⟩:=hcell (by omega)
  rw [if_neg (by omega)]
  refine ⟨b,off+l.toNat * ei.size,by simp [addr_add],c',E',fr',hg,fun j u hj=>?_⟩
  rw [show off+l.toNat * ei.size+j=off+(l.toNat * ei.size+j) by omega]
  apply hat
  have h3:flat vs=flat (vs.take l.toNat)++flat (vs.drop l.toNat):=by rw [← flat_append,List.take_append_drop]
  have h4:(flat (vs.take l.toNat)).length=l.toNat * ei.size:=by
   rw [flat_length fun u hu=>hsz u (List.mem_of_mem_take hu)]
   simp;rw [Nat.min_eq_left (by omega)]
  rw [h3,List.getElem?_append_right (by omega),h4,show l.toNat * ei.size+j - l.toNat * ei.size=j by omega]
  have h5:vs.drop l.toNat=(vs.take h.toNat).drop l.toNat++vs.drop h.toNat:=by
   conv=>lhs;rw [← List.take_append_drop h.toNat vs]
   rw [List.drop_append_of_le_length (by simp;omega)]
  rw [h5,flat_append,List.getElem?_append_left (List.getElem?_eq_some_iff.1 hj).1]
  exact hj
 refine .of hrep hk (by simp only [execOp,ho];rfl) fun w' _=>?_
 have hun:=run_underlying (P:=E.P) (w:=w') ((hE T ti hT).slice hd)
 simp only [Instr.sliceAt,Instr.slice,hv,Sem.run_bind,hun,Result.andThen_ok,Option.map_none]
 rw [sliceBounds_run w' hlo hhi h0 h1 (by omega)]
 simp only [Result.andThen_ok,run_sizeOf (hE e ei he),Sem.run_pure]
theorem y_slice3_view {o:Oper} {k:AV→Prop} {T e:TypeId} {x hi mx:Operand} {ti ei:TInfo} {kh kq:IntKind} {h:Int} {xs:List AV} (ho:o.op=.slice T x none (some hi) (some mx)) (hE:E.ok) (hf:RepF γ σ fr a.tmps)
 (hT:E.TI T=some ti) (hd:ti.desc=.slice e) (he:E.TI e=some ei) (hx:ev fr x=.view ei.size xs)
 (hh:ev fr hi=.int kh h) (hq:ev fr mx=.int kq h) (h0:0≤h) (h2:h≤xs.length) (hk:k (.full ei.size (xs.take h.toNat))):Yields E γ σ R a o k:=by
 have hv:=repV_ev hf x
 rw [hx] at hv
 obtain ⟨ad,m,c,vs,hv,hvs,hm,hmc,hcm,hsz,hcell⟩:=hv
 have hlen:=hvs.length
 have hhv:=repV_ev hf hi
 rw [hh] at hhv
 simp only [RepV] at hhv
 have hqv:=repV_ev hf mx
 rw [hq] at hqv
 simp only [RepV] at hqv
 have hrep:RepV γ σ (.full ei.size (xs.take h.toNat)) (.slice (if h.toNat=0 then ad else ad.map (·.add (0 * ei.size))) (h.toNat - 0) (h.toNat - 0)):=by
  refine ⟨_,_,vs.take h.toNat,rfl,RepVs.take _ hvs,by simp;omega,by omega,fun u hu=>hsz u (List.mem_of_mem_take hu),fun hn=>?_⟩
  obtain ⟨b,off,rfl,c',E',fr',hg,hat⟩:=hcell (by omega)
  rw [if_neg (by omega)]
  refine ⟨b,off,by simp [addr_add],c',E',fr',hg,fun j u hj=>hat j u ?_⟩
  have h8:flat vs=flat (vs.take h.toNat)++flat (vs.drop h.toNat):=by rw [← flat_append,List.take_append_drop]
  rw [h8,List.getElem?_append_left (List.getElem?_eq_some_iff.1 hj).1]
  exact hj
 refine .of hrep hk (by simp only [execOp,ho];rfl) fun w' _=>?_
 have hun:=run_underlying (P:=E.P) (w:=w') ((hE T ti hT).slice hd)
 have hb:(Instr.sliceBounds true m c none (some (.int kh h)) (some (.int kq h))).run E.P w'=.ok (0,h.toNat,h.toNat) w':=by
  simp only [Instr.sliceBounds,Sem.run_bind,Sem.run_pure,Result.andThen_ok,Option.isSome_some,if_true]
  rw [bound_run w' rfl ⟨h0,by omega⟩]
  simp only [Result.andThen_ok]
  rw [bound_run w' rfl ⟨h0,by omega⟩]
  simp
 simp only [Instr.sliceAt,Instr.slice,hv,hhv,hqv,Sem.run_bind,hun,Result.andThen_ok,Option.map_none,Option.map_some]
 rw [hb]
 simp only [Result.andThen_ok,run_sizeOf (hE e ei he),Sem.run_pure]
theorem y_slice_slc {o:Oper} {k:AV→Prop} {T e E':TypeId} {x:Operand} {hi:Option Operand} {ti ei:TInfo} {kh:IntKind} {h:Int} {id m sz':Nat} {xs:List AV} (ho:o.op=.slice T x none hi none) (hE:E.ok) (hi':Inv γ σ w H) (hf:RepF γ σ fr a.tmps)
 (hT:E.TI T=some ti) (hd:ti.desc=.slice e) (he:E.TI e=some ei) (hx:ev fr x=.slc id ei.size m) (hH:H[id]?=some (.arr E' sz' xs))
 (hh:hi.elim (AV.int .i64 m) (ev fr)=.int kh h)
 (h0:0≤h) (h1:h≤m) (hk:k (.slc id ei.size h.toNat)):Yields E γ σ R a o k:=by
 have hv:=repV_ev hf x
 rw [hx] at hv
 obtain ⟨blk,cap,hs,hv',hmc,hcm,hob⟩:=slc_value hi' hH hv
 have hhi:((hi.map a.eval)=none∧h=m)∨∃ ki,(hi.map a.eval)=some (.int ki h):=by
  cases hi with
  | none=>simp at hh;exact .inl ⟨rfl,by omega⟩
  | some y =>
    simp at hh
    have:=repV_ev hf y
    rw [hh] at this
    simp only [RepV] at this
    exact .inr ⟨kh,by simp [this]⟩
 have hrep:RepV γ σ (.slc id ei.size h.toNat) (.slice (if cap=(0:Int).toNat then blk.map (fun b=>(⟨b,0,none⟩:Addr)) else (blk.map (fun b=>(⟨b,0,none⟩:Addr))).map (·.add ((0:Int).toNat * ei.size))) (h.toNat - (0:Int).toNat) (cap - (0:Int).toNat)):=by
  refine ⟨_,hs,rfl,fun blk' cap' hb=>?_⟩
  cases hb
  refine ⟨?_,by omega,hcm⟩
  cases blk <;> simp [addr_add]
 refine .of hrep hk (by simp only [execOp,ho];rfl) fun w' _=>?_
 have hun:=run_underlying (P:=E.P) (w:=w') ((hE T ti hT).slice hd)
 simp only [Instr.sliceAt,Instr.slice,hv',Sem.run_bind,hun,Result.andThen_ok,Option.map_none]
 rw [sliceBounds_run w' (.inl ⟨rfl,rfl⟩) hhi (Int.le_refl 0) h0 (by omega)]
 simp only [Result.andThen_ok,run_sizeOf (hE e ei he),Sem.run_pure]
theorem y_slice_sub {o:Oper} {k:AV→Prop} {T e E':TypeId} {x:Operand} {lo hi:Option Operand} {ti ei:TInfo} {kl kh:IntKind} {l h:Int} {id off m sz':Nat} {xs:List AV} (ho:o.op=.slice T x lo hi none) (hE:E.ok) (hi':Inv γ σ w H) (hf:RepF γ σ fr a.tmps)
 (hT:E.TI T=some ti) (hd:ti.desc=.slice e) (he:E.TI e=some ei) (hx:RepV γ σ (.sub id ei.size off m) (a.eval x)) (hH:H[id]?=some (.arr E' sz' xs))
 (hl:lo.elim (AV.int .i64 0) (ev fr)=.int kl l) (hh:hi.elim (AV.int .i64 m) (ev fr)=.int kh h)
 (h0:0≤l) (h1:l≤h) (h2:h≤m) (hk:k (.sub id ei.size (off+l.toNat) (h.toNat - l.toNat))):Yields E γ σ R a o k:=by
 obtain ⟨blk,cap,ad,hs,hv',hmc,hcm,hadr,hz,hob⟩:=sub_value hi' hH hx
 have hlo:((lo.map a.eval)=none∧l=0)∨∃ ki,(lo.map a.eval)=some (.int ki l):=by
  cases lo with
  | none=>simp at hl;exact .inl ⟨rfl,by omega⟩
  | some y =>
    simp at hl
    have:=repV_ev hf y
    rw [hl] at this
    simp only [RepV] at this
    exact .inr ⟨kl,by simp [this]⟩
 have hhi:((hi.map a.eval)=none∧h=m)∨∃ ki,(hi.map a.eval)=some (.int ki h):=by
  cases hi with
  | none=>simp at hh;exact .inl ⟨rfl,by omega⟩
  | some y =>
    simp at hh
    have:=repV_ev hf y
    rw [hh] at this
    simp only [RepV] at this
    exact .inr ⟨kh,by simp [this]⟩
 have hrep:RepV γ σ (.sub id ei.size (off+l.toNat) (h.toNat - l.toNat)) (.slice (if cap - off=l.toNat then ad else ad.map (·.add (l.toNat * ei.size))) (h.toNat - l.toNat) (cap - off - l.toNat)):=by
  refine ⟨_,hs,rfl,fun blk' cap' hb=>?_⟩
  cases hb
  refine ⟨_,by rw [Nat.sub_sub],by omega,hcm,fun hn=>?_,fun h00=>?_⟩
  · obtain ⟨b,hb,hadb⟩:=hadr (by omega)
    refine ⟨b,hb,?_⟩
    rw [if_neg (by omega),hadb]
    simp only [Option.map_some,addr_add,Option.some.injEq,Addr.mk.injEq,and_true,true_and]
    rw [Nat.add_mul]
  · have h1:off=0:=by omega
    have h2:l.toNat=0:=by omega
    rw [hz h1,h2]
    cases blk <;> simp [addr_add]
 refine .of hrep hk (by simp only [execOp,ho];rfl) fun w' _=>?_
 have hun:=run_underlying (P:=E.P) (w:=w') ((hE T ti hT).slice hd)
 simp only [Instr.sliceAt,Instr.slice,hv',Sem.run_bind,hun,Result.andThen_ok,Option.map_none]
 rw [sliceBounds_run w' hlo hhi h0 h1 (by omega)]
 simp only [Result.andThen_ok,run_sizeOf (hE e ei he),Sem.run_pure]
theorem execOp_call_builtin (ρ:Operand→Value) (o:Oper) (b:Builtin) (args:Array Operand) (ats:Array TypeId) (ho:o.op=.call { callee:=.builtin b,args,argTypes:=ats }) :
 execOp ρ o=builtin b ats o.type (args.map fun | .const _=>true | _=>false) (args.map ρ):=by
 simp only [execOp,ho];rfl
theorem y_len {o:Oper} {k:AV→Prop} {args:Array Operand} {ats:Array TypeId} {T:TypeId} {x:Operand} {n:Nat} (ho:o.op=.call { callee:=.builtin .len,args,argTypes:=ats })
 (hT:ats[0]?=some T) (hx:args[0]?=some x) (hk:k (.int .i64 n))
 (h:∀ w',R w'→(Builtin.len_ ats o.type (args.map a.eval)).run E.P w'=.ok (goInt n) w'):Yields E γ σ R a o k :=
 ⟨.int .i64 n,goInt n,rfl,hk,fun w' hw=>by
   rw [execOp_call_builtin _ _ _ _ _ ho,builtin]
   simp only [Sem.run_bind,h w' hw,Result.andThen_ok,Sem.run_pure]⟩
theorem len_slice_run {args:Array Operand} {ats:Array TypeId} {ty T e:TypeId} {x:Operand} {ti:TInfo} {ad:Option Addr} {n c:Nat} (hE:E.ok) (hT:ats[0]?=some T) (hx:args[0]?=some x) (hti:E.TI T=some ti) (hd:ti.desc=.slice e)
 (hv:a.eval x=.slice ad n c) (w':World):(Builtin.len_ ats ty (args.map a.eval)).run E.P w'=.ok (goInt n) w':=by
 have hun:=run_underlying (P:=E.P) (w:=w') ((hE T ti hti).slice hd)
 simp [Builtin.len_,hT,hx,hun,hv]
theorem mapAt_ext {w w':World} (h:ExtL σ [] w w') {b:Nat} {ks vs:List Value} (hm:MapAt w.heap[b]? ks vs):∃ es c,w'.heap[b]?=some (.map es c)∧es.size=ks.length:=by
 obtain ⟨es,c,es',h1,h2,_,hs⟩:=hm
 refine ⟨es,c,h _ _ h1 (by simp),?_⟩
 rw [← h2,List.length_map,← Array.length_toList]
 rcases hs with rfl | ⟨hs,_⟩
 · rfl
 · exact hs.length_eq
theorem len_map_run {args:Array Operand} {ats:Array TypeId} {ty T kt et:TypeId} {x:Operand} {ti:TInfo} {b n:Nat} {es:Array MapEntry} {c:Nat} (hE:E.ok) (hT:ats[0]?=some T) (hx:args[0]?=some x) (hti:E.TI T=some ti) (hd:ti.desc=.map kt et)
 (hv:a.eval x=.map (some b)) {w':World} (hb:w'.heap[b]?=some (.map es c)) (hn:es.size=n):(Builtin.len_ ats ty (args.map a.eval)).run E.P w'=.ok (goInt n) w':=by
 have hun:=run_underlying (P:=E.P) (w:=w') ((hE T ti hti).map hd)
 simp [Builtin.len_,hT,hx,hun,hv,getObj,Sem.run,hb,hn]
theorem len_nilmap_run {args:Array Operand} {ats:Array TypeId} {ty T kt et:TypeId} {x:Operand} {ti:TInfo} (hE:E.ok) (hT:ats[0]?=some T) (hx:args[0]?=some x) (hti:E.TI T=some ti) (hd:ti.desc=.map kt et)
 (hv:a.eval x=.map none) (w':World):(Builtin.len_ ats ty (args.map a.eval)).run E.P w'=.ok (goInt 0) w':=by
 have hun:=run_underlying (P:=E.P) (w:=w') ((hE T ti hti).map hd)
 simp [Builtin.len_,hT,hx,hun,hv]
theorem len_str_run {args:Array Operand} {ats:Array TypeId} {ty T:TypeId} {x:Operand} {ti:TInfo} {s:ByteArray} (hE:E.ok) (hT:ats[0]?=some T) (hx:args[0]?=some x) (hti:E.TI T=some ti) (hd:ti.desc=.string)
 (hv:a.eval x=.string s) (w':World):(Builtin.len_ ats ty (args.map a.eval)).run E.P w'=.ok (goInt s.size) w':=by
 have hun:=run_underlying (P:=E.P) (w:=w') ((hE T ti hti).string hd)
 simp [Builtin.len_,hT,hx,hun,hv]
theorem y_minmax {o:Oper} {k:AV→Prop} {args:Array Operand} {ats:Array TypeId} {b:Builtin} {x:AV} {u:Value} (ho:o.op=.call { callee:=.builtin b,args,argTypes:=ats })
 (hb:(b=.max∧∀ w',(Builtin.max_ ats o.type (args.map a.eval)).run E.P w'=.ok u w')∨(b=.min∧∀ w',(Builtin.min_ ats o.type (args.map a.eval)).run E.P w'=.ok u w')) (hx:RepV γ σ x u) (hk:k x):Yields E γ σ R a o k :=
 ⟨x,u,hx,hk,fun w' hw=>by
   rw [execOp_call_builtin _ _ _ _ _ ho]
   rcases hb with ⟨rfl,hb⟩ | ⟨rfl,hb⟩ <;> simp only [builtin,Sem.run_bind,hb,Result.andThen_ok,Sem.run_pure]⟩
theorem args_eval {args:Array Operand} {zs:List AV} (hf:RepF γ σ fr a.tmps) (h:args.toList.map (ev fr)=zs):RepVs γ σ zs (args.map a.eval).toList:=by
 rw [← h];simpa using repVs_evs hf args.toList
end
end Go.Al
namespace Go.Al
def setAt (xs:List AV) (off:Nat) (cs:List AV):List AV:=xs.take off++cs++xs.drop (off+cs.length)
def ofCells (agg:Bool) (cs:List AV):AV:=if agg then .agg cs else cs.headD .junk
def isNilSlice:Value→Bool | .slice none 0 0=>true | _=>false
def isEmptySlice:Value→Bool | .slice _ 0 _=>true | _=>false
def srcOf (H:List AObj) (sz:Nat):AV→Option (List AV)
 | .view sz' xs=>if sz=sz' then some xs else none
 | .slc id sz' m=>if sz=sz' then (match H[id]? with | some (.arr _ sz'' xs)=>if sz=sz''∧m≤xs.length then some (xs.take m) else none | _=>none) else none
 | .sub id sz' off m=>if sz=sz' then (match H[id]? with | some (.arr _ sz'' xs)=>if sz=sz''∧off+m≤xs.length then some ((xs.drop off).take m) else none | _=>none) else none
 | .raw v=>if isEmptySlice v then some [] else none
 | _=>none
end Go.Al
namespace Go.Al
def Cont (X:Act→World→Prop) (m:Nat) (N:FN) (γ:Gm) (σ:Sg) (w:World) (K:AS→Prop) (next:Act→World→Prop):Prop :=
 ∀ γ' σ' w' a' s',X a' w'→Step m γ σ w γ' σ' w'→Rep N γ' σ' w' a' s'→K s'→next a' w'
section
variable {E:Env} {X:Act→World→Prop} {m:Nat} {N:FN} {γ:Gm} {σ:Sg} {w:World} {a:Act} {s:AS} {K:AS→Prop} {next:Act→World→Prop} {Q:Exit→Act→World→Prop} {o:Oper}
theorem repF_put {fr:List (Nat × AV)} {tmps:Array Value} (h:RepF γ σ fr tmps) {d:Nat} (hd:d<tmps.size) {x:AV} {v:Value} (hx:RepV γ σ x v):RepF γ σ ((d,x)::fr) (tmps.setIfInBounds d v):=by
 intro t
 simp only [get]
 by_cases ht:d=t
 · subst ht;simpa [Array.getD,hd] using hx
 · rw [if_neg ht]
   have:=h t
   simp only [Array.getD_eq_getD_getElem?] at *
   rwa [Array.getElem?_setIfInBounds_ne (by omega)]
theorem repF_mono {γ':Gm} {σ':Sg} {fr:List (Nat × AV)} {tmps:Array Value} (h:RepF γ σ fr tmps) (hg:γ.le γ') (hs:Sg.le σ σ'):RepF γ' σ' fr tmps:=fun t=>RepV.mono hg _ _ _ _ hs (h t)
theorem rep_put (hr:Rep N γ σ w a s) {γ':Gm} {σ':Sg} {w':World} {H':List AObj} {m':Nat} (hst:Step m' γ σ w γ' σ' w') (hs:Sg.le σ σ') (hi:Inv γ' σ' w' H') {dst:Option Tmp} (hd:∀ d,dst=some d→d<N.n) {x:AV} {v:Value} (hx:RepV γ' σ' x v) :
 Rep N γ' σ' w' (a.put dst v) (AS.put ⟨s.fr,H'⟩ dst x):=by
 cases dst with
 | none=>exact ⟨hi,repF_mono hr.fr hst.le hs,hr.defers.step hst,hr.size⟩
 | some d=>exact ⟨hi,repF_put (repF_mono hr.fr hst.le hs) (hr.size.symm ▸ hd d rfl) hx,hr.defers.step hst,by simp [Act.put,hr.size]⟩
theorem Step.gm {γ':Gm} {σ':Sg} {w':World} (h:Step m γ σ w γ' σ' w'):γ.le γ':=h.le
theorem done_value (hr:Rep N γ σ w a s) (hd:∀ d,o.dst=some d→d<N.n) (hk:Cont X m N γ σ w K next) {γ':Gm} {σ':Sg} {w':World} {H':List AObj} {x:AV} {u:Value}
 (hrun:(execOp a.eval o).run E.P w=.ok (.value u) w') (hX:X (a.put o.dst u) w') (hi:Inv γ' σ' w' H'∧Step m γ σ w γ' σ' w') (hs:Sg.le σ σ') (hx:RepV γ' σ' x u) (hK:K (AS.put ⟨s.fr,H'⟩ o.dst x)):o.wp E.P a w next Q:=by
 unfold Oper.wp
 rw [hrun,Oper.upon_value]
 exact hk _ _ _ _ _ hX hi.2 (rep_put hr hi.2 hs hi.1 hd hx) hK
theorem done_skip (hr:Rep N γ σ w a s) (hd:∀ d,o.dst=some d→d<N.n) (hk:Cont X m N γ σ w K next) {γ':Gm} {σ':Sg} {w':World} {H':List AObj}
 (hrun:(execOp a.eval o).run E.P w=.ok .skip w') (hX:X (a.put o.dst undef) w') (hi:Inv γ' σ' w' H'∧Step m γ σ w γ' σ' w') (hs:Sg.le σ σ') (hK:K (AS.put ⟨s.fr,H'⟩ o.dst .junk)):o.wp E.P a w next Q:=by
 unfold Oper.wp
 rw [hrun,Oper.upon_skip]
 exact hk _ _ _ _ _ hX hi.2 (rep_put hr hi.2 hs hi.1 hd (by simp [RepV])) hK
theorem repVs_ofV (γ:Gm) (σ:Sg) (vs:List Value):RepVs γ σ (vs.map ofV) vs:=by
 have:=RepVs.map (γ:=γ) (σ:=σ) (f:=ofV) (g:=id) (l:=vs) fun v _=>repV_ofV γ σ v
 simpa using this
theorem extL_alloc (σ:Sg) (w:World) (o:Obj):ExtL σ [] w (w.alloc o):=fun b x hb _=>by rw [heap_alloc_lt _ _ (lt_of_block hb)];exact hb
theorem op_new (σ:Sg) (b cap:Nat) (off:Nat) (γ:Gm):RepV γ (σ++[some (some b,cap)]) (.op σ.length off) (.pointer (some ⟨b,off,none⟩)) :=
 ⟨some (some b,cap),by simp,rfl,fun b' c' h=>by cases h;rfl⟩
theorem s_box {E':TypeId} {cs:List AV} {vs:List Value} (hr:Rep N γ σ w a s) (hd:∀ d,o.dst=some d→d<N.n) (hX:∀ w' v,ExtL σ [] w w'→X (a.put o.dst v) w') (hk:Cont X m N γ σ w K next)
 (hcs:∀ σ',Sg.le σ σ'→RepVs γ σ' cs vs) (h1:∀ u ∈ vs,onec u)
 (hrun:(execOp a.eval o).run E.P w=.ok (.value (.pointer (some ⟨w.heap.size,0,none⟩))) (w.alloc (.cells vs.toArray E')))
 (hK:K (AS.put ⟨s.fr,s.H++[.box cs]⟩ o.dst (.op s.H.length 0))):o.wp E.P a w next Q:=by
 refine done_value hr hd hk hrun (hX _ _ (extL_alloc _ _ _)) (hr.inv.alloc _ (.box cs) 0 ⟨vs,E',heap_alloc_at _ _,hcs _ (Sg.le_append _ _),h1⟩) (Sg.le_append _ _) ?_ hK
 rw [← hr.inv.len]
 exact op_new σ _ _ _ _
theorem zero_run {T:TypeId} {i:TInfo} (h:InfoOk E.P T i):∃ z,(zeroValue T).run E.P w=.ok z w∧z.cells.toList=i.zero:=by
 obtain ⟨inf,z,h1,h2,h3,h4,h5,_⟩:=h.info
 exact ⟨z,by simp [zeroValue,typeInfo,h1,h4],h5⟩
theorem s_alloc {T:TypeId} {i:TInfo} (ho:o.op=.alloc T) (hE:E.ok) (hT:E.TI T=some i) (hr:Rep N γ σ w a s) (hd:∀ d,o.dst=some d→d<N.n) (hX:∀ w' v,ExtL σ [] w w'→X (a.put o.dst v) w') (hk:Cont X m N γ σ w K next)
 (hK:K (AS.put ⟨s.fr,s.H++[.box (i.zero.map ofV)]⟩ o.dst (.op s.H.length 0))):o.wp E.P a w next Q:=by
 obtain ⟨z,hz,hz2⟩:=zero_run (E:=E) (w:=w) (hE T i hT)
 obtain ⟨inf,_,_,_,_,_,_,hone,_⟩:=(hE T i hT).info
 refine s_box (E':=T) (vs:=i.zero) hr hd hX hk (fun σ' _=>repVs_ofV _ _ _) (fun u hu=>hone u hu) ?_ hK
 have:z.cells=i.zero.toArray:=by rw [← hz2]
 simp only [execOp,ho,Instr.alloc,Sem.run_bind,hz,Result.andThen_ok,newVar,newRow,run_newObj,Sem.run_pure,this]
 rfl
theorem s_boxop {T:TypeId} {x:Operand} {cs:List AV} (ho:o.op=.box T x) (hc:cellsO (ev s.fr x)=some cs) (hr:Rep N γ σ w a s) (hd:∀ d,o.dst=some d→d<N.n) (hX:∀ w' v,ExtL σ [] w w'→X (a.put o.dst v) w') (hk:Cont X m N γ σ w K next)
 (hK:K (AS.put ⟨s.fr,s.H++[.box cs]⟩ o.dst (.op s.H.length 0))):o.wp E.P a w next Q:=by
 obtain ⟨h1,h2⟩:=cellsO_spec (repV_ev hr.fr x) hc
 refine s_box (E':=T) hr hd hX hk (fun σ' hs=>RepVs.mono (fun _ _ h=>h) _ _ _ _ hs h1) h2 ?_ hK
 simp only [execOp,ho,Instr.box,newVar,newRow,Sem.run_bind,run_newObj,Result.andThen_ok,Sem.run_pure]
 rfl
theorem s_makeMap {T:TypeId} (ho:o.op=.makeMap T none) (hr:Rep N γ σ w a s) (hd:∀ d,o.dst=some d→d<N.n) (hX:∀ w' v,ExtL σ [] w w'→X (a.put o.dst v) w') (hk:Cont X m N γ σ w K next)
 (hK:K (AS.put ⟨s.fr,s.H++[.map [] [] [] 0]⟩ o.dst (.mp s.H.length))):o.wp E.P a w next Q:=by
 refine done_value (u:=.map (some w.heap.size)) hr hd hk (w':=w.alloc (.map #[] 0)) ?_ (hX _ _ (extL_alloc _ _ _)) (hr.inv.alloc _ (.map [] [] [] 0) 0 ⟨[],[],by simp [RepVs],by simp [RepVs],#[],heap_alloc_at _ _,by simp⟩) (Sg.le_append _ _) ?_ hK
 · simp only [execOp,ho,Instr.makeMap,Option.map_none,Sem.run_bind,run_newObj,Result.andThen_ok,Sem.run_pure]
   rfl
 · rw [← hr.inv.len]
   exact ⟨some (some w.heap.size,0),by simp,rfl,fun b' c' h=>by cases h;rfl⟩
theorem setRow_eq (w:World) (g:Nat) (cur c:Array Value) (t:TypeId) (hg:w.heap[g]?=some (.cells cur t (0,0))):(w.setRow g c).heap[g]?=some (.cells c t (0,0)):=setRow_heap w g cur c t _ hg
theorem repVs_setAt {xs cs:List AV} {vs us:List Value} (h:RepVs γ σ xs vs) (k:RepVs γ σ cs us) (off:Nat):RepVs γ σ (setAt xs off cs) (vs.take off++us++vs.drop (off+us.length)):=by
 unfold setAt
 rw [k.length]
 exact RepVs.append (RepVs.append (RepVs.take _ h) k) (RepVs.drop _ h)
theorem store_run {T:TypeId} {i:TInfo} (hT:InfoOk E.P T i) {b off:Nat} {cur:Array Value} {t:TypeId} (hg:w.heap[b]?=some (.cells cur t (0,0))) {v:Value} (hv:∀ u ∈ v.cells.toList,onec u) (hl:v.cells.toList.length=i.size) (hfit:off+i.size≤cur.size) :
 (Instr.storeAt T (.pointer (some ⟨b,off,none⟩)) v).run E.P w=.ok () (w.setRow b (cur.toList.take off++v.cells.toList++cur.toList.drop (off+v.cells.toList.length)).toArray):=by
 have hsz:v.cells.size=i.size:=by simpa using hl
 have hst:=run_storeCells_at E.P b off t v.cells.toList 0 cur w hg (by omega) hv
 simp only [Nat.add_zero] at hst
 simp only [Instr.storeAt,Instr.sureAddr,storeVar,Sem.run_bind,Sem.run_pure,Result.andThen_ok,run_sizeOf hT]
 simp only [hsz,ne_eq,not_true_eq_false,if_false]
 exact hst
theorem s_store_op {T:TypeId} {p x:Operand} {i:TInfo} {cs bs:List AV} {id off:Nat} (ho:o.op=.store T p x) (hE:E.ok) (hT:E.TI T=some i) (hc:cellsO (ev s.fr x)=some cs) (hl:cs.length=i.size)
 (hp:ev s.fr p=.op id off) (hH:s.H[id]?=some (.box bs)) (hfit:off+cs.length≤bs.length) (hr:Rep N γ σ w a s) (hd:∀ d,o.dst=some d→d<N.n) (hX:∀ w' v,ExtL σ [id] w w'→X (a.put o.dst v) w') (hk:Cont X m N γ σ w K next)
 (hK:K (AS.put ⟨s.fr,s.H.set id (.box (setAt bs off cs))⟩ o.dst .junk)):o.wp E.P a w next Q:=by
 obtain ⟨h1,h2⟩:=cellsO_spec (repV_ev hr.fr x) hc
 have hv:=repV_ev hr.fr p
 rw [hp] at hv
 obtain ⟨en,hen,_,h4⟩:=hv
 obtain ⟨en',hen',hob⟩:=inv_entry hr.inv hH
 rw [hen] at hen';cases hen'
 unfold RepO at hob
 split at hob
 · rename_i b c cs2 heq
   cases heq
   obtain ⟨vs,E',h5,h6,h7⟩:=hob
   have hpv:=h4 b c rfl
   have hlen:(a.eval x).cells.toList.length=i.size:=by rw [h1.length];exact hl
   have hvl:=h6.length
   have hst:=store_run (off:=off) (hE T i hT) h5 h2 hlen (by simp;omega)
   refine done_skip hr hd hk (w':=w.setRow b (vs.take off++(a.eval x).cells.toList++vs.drop (off+(a.eval x).cells.toList.length)).toArray) ?_ (hX _ _ fun b' o' hb' hne=>by rw [setRow_other _ _ _ _ (fun e=>hne id (by simp) c (by rw [e];exact hen))];exact hb') (hr.inv.touch hen (by simp) (fun b' hb'=>setRow_other _ _ _ _ hb') rfl rfl rfl (o':=.box (setAt bs off cs)) ?_) (Sg.le_refl _) hK
   · simp only [execOp,ho,Sem.run_bind,hpv,hst,Result.andThen_ok,Sem.run_pure]
   · refine ⟨_,E',setRow_eq _ _ _ _ _ h5,repVs_setAt h6 h1 off,fun u hu=>?_⟩
     simp only [List.mem_append] at hu
     rcases hu with (hu | hu) | hu
     · exact h7 u (List.mem_of_mem_take hu)
     · exact h2 u hu
     · exact h7 u (List.mem_of_mem_drop hu)
 all_goals first | (rename_i heq;cases heq;done) | exact hob.elim
end
end Go.Al
namespace Go.Al
section
variable {E:Env} {X:Act→World→Prop} {m:Nat} {N:FN} {γ:Gm} {σ:Sg} {w:World} {a:Act} {s:AS} {K:AS→Prop} {next:Act→World→Prop} {Q:Exit→Act→World→Prop} {o:Oper}
theorem slc_new (σ:Sg) (γ:Gm) (blk:Option Nat) (cap sz n:Nat) (h1:n≤cap) (h2:cap≤maxLen):RepV γ (σ++[some (blk,cap)]) (.slc σ.length sz n) (.slice (blk.map (⟨·,0,none⟩)) n cap) :=
 ⟨some (blk,cap),by simp,rfl,fun b' c' h=>by cases h;exact ⟨rfl,h1,h2⟩⟩
theorem flat_replicate_get {sz:Nat} {v:Value} (hv:okEl sz v) (hsz:0<sz) {n j:Nat} (hj:j<n * sz):(flat (List.replicate n v))[j]?=v.cells.toList[j % sz]?:=by
 have h1:j / sz<n:=by rw [Nat.div_lt_iff_lt_mul hsz];exact hj
 have h2:j % sz<sz:=Nat.mod_lt _ hsz
 have h2':j % sz<v.cells.size:=by rw [hv.1];exact h2
 have hu:v.cells.toList[j % sz]?=some v.cells[j % sz]:=by rw [List.getElem?_eq_getElem (by have:=hv.1;simp;omega)];simp
 have:=flat_get (sz:=sz) (vs:=List.replicate n v) (fun u hu=>by rw [(List.mem_replicate.1 hu).2];exact hv) (j / sz) v (by simp [h1]) (j % sz) _ hu
 rw [hu,← this]
 congr 1
 have:=Nat.div_add_mod j sz
 rw [Nat.mul_comm] at this
 exact this.symm
theorem made_flat {v:Value} {sz c n:Nat} (hv':okEl sz v) (hsz:0<sz) (hn:n≤c):(madeCells v.cells (c * sz)).toList.take (n * sz)=flat (List.replicate n v):=by
 have hv:=hv'.1
 apply List.ext_getElem?
 intro j
 by_cases hj:j<n * sz
 · have h2:j % sz<v.cells.size:=by rw [hv];exact Nat.mod_lt _ hsz
   have h3:j<c * sz:=Nat.lt_of_lt_of_le hj (Nat.mul_le_mul_right _ hn)
   rw [flat_replicate_get hv' hsz hj,List.getElem?_take_of_lt hj]
   simp [madeCells,h3,hv]
   rw [getElem!_pos v.cells (j % sz) h2]
   simp [h2]
 · rw [List.getElem?_eq_none (by rw [List.length_take];omega),List.getElem?_eq_none]
   rw [flat_length (sz:=sz) (fun u hu=>by rw [(List.mem_replicate.1 hu).2];exact hv')]
   simp;omega
theorem repV_zero {T:TypeId} {i:TInfo} (h:InfoOk E.P T i):∃ inf z,E.P.info? T=some inf∧inf.size=i.size∧inf.bytes=i.bytes∧inf.zero=some z∧okEl i.size z∧∀ γ σ,RepV γ σ (ofCells i.agg (i.zero.map ofV)) z:=by
 obtain ⟨inf,z,h1,h2,h3,h4,h5,h6,h7,h8,h9⟩:=h.info
 refine ⟨inf,z,h1,h2,h3,h4,⟨by rw [← h9,← h5];simp,fun u hu=>h6 u (by rw [← h5];exact hu)⟩,fun γ σ=>?_⟩
 cases ha:i.agg with
 | true =>
   obtain ⟨cs,rfl⟩:=h7 ha
   simp only [ofCells,if_true]
   refine ⟨i.zero,by rw [← h5];simp [Value.cells],repVs_ofV _ _ _,h6⟩
 | false =>
   have:=h8 ha
   have hc:z.cells = #[z]:=cells_of_onec this
   have hz:i.zero=[z]:=by rw [← h5,hc]
   simp only [ofCells,hz,Bool.false_eq_true,if_false,List.map_cons,List.map_nil,List.headD_cons]
   exact repV_ofV _ _ _
theorem s_makeSlice {T e:TypeId} {l c:Operand} {ti ei:TInfo} {n k:Int} (ho:o.op=.makeSlice T l c) (hE:E.ok) (hT:E.TI T=some ti) (hl:ev s.fr l=.int .i64 n) (hc:ev s.fr c=.int .i64 k) (hdd:ti.desc=.slice e) (he:E.TI e=some ei)
 (h0:0<ei.size) (h1:0≤n) (h2:n≤k) (h3:k≤9223372036854775807) (h4:ei.bytes * k≤281474976710656) (hr:Rep N γ σ w a s) (hd:∀ d,o.dst=some d→d<N.n) (hX:∀ w' v,ExtL σ [] w w'→X (a.put o.dst v) w') (hk:Cont X m N γ σ w K next)
 (hK:K (AS.put ⟨s.fr,s.H++[.arr e ei.size (List.replicate n.toNat (ofCells ei.agg (ei.zero.map ofV)))]⟩ o.dst (.slc s.H.length ei.size n.toNat))):o.wp E.P a w next Q:=by
 have hvl:=repV_ev hr.fr l
 have hvc:=repV_ev hr.fr c
 rw [hl] at hvl
 rw [hc] at hvc
 simp only [RepV] at hvl hvc
 obtain ⟨inf,z,hi1,hi2,hi3,hi4,hzs,hz⟩:=repV_zero (E:=E) (hE e ei he)
 have hun:=(hE T ti hT).slice hdd
 have hrun:=run_make (P:=E.P) w T e inf z hun hi1 hi4 .i64 .i64 n k h1 h2 (by rw [hi3];exact h4) h3
 rw [hi2] at hrun
 have hcap:k.toNat≤maxLen:=by unfold maxLen;omega
 refine done_value (u:=.slice (some ⟨w.heap.size,0,none⟩) n.toNat k.toNat) hr hd hk (w':=w.alloc (.cells (madeCells z.cells (k.toNat * ei.size)) e)) (by simp only [execOp,ho,hvl,hvc,Sem.run_bind,hrun,Result.andThen_ok,Sem.run_pure]) (hX _ _ (extL_alloc _ _ _)) (hr.inv.alloc _ (.arr e ei.size (List.replicate n.toNat (ofCells ei.agg (ei.zero.map ofV)))) k.toNat ?_) (Sg.le_append _ _) ?_ hK
 · refine ⟨List.replicate n.toNat z,?_,fun u hu=>by rw [(List.mem_replicate.1 hu).2];exact hzs,h0,by simp;omega,?_⟩
   · have:=RepVs.map (γ:=γ) (σ:=σ++[some (some w.heap.size,k.toNat)]) (f:=fun _:Nat=>ofCells ei.agg (ei.zero.map ofV)) (g:=fun _=>z) (l:=List.range n.toNat) (fun _ _=>hz _ _)
     simpa [List.map_const'] using this
   · refine ⟨by rw [flat_length (sz:=ei.size) (fun u hu=>by rw [(List.mem_replicate.1 hu).2];exact hzs)];simp,.inr ⟨w.heap.size,k.toNat,madeCells z.cells (k.toNat * ei.size),by simp,by omega,heap_alloc_at _ _,by simp;omega,hcap,size_madeCells _ _,?_⟩⟩
     simp only [List.length_replicate]
     exact made_flat hzs h0 (by omega)
 · rw [← hr.inv.len]
   exact slc_new σ γ (some w.heap.size) _ _ _ (by omega) hcap
structure GrownD (w w':World) (row:Option Nat):Prop extends w.grownBy w' row where
 drawn:w.drawn≤w'.drawn
theorem append_run {t ty e:TypeId} {i:TypeInfo} {z:Value} {sz:Nat} (ht:E.P.underlying t=some (.slice e)) (hi:E.P.info? e=some i) (hz:i.zero=some z) (hsz:i.size=sz) (hzs:z.cells.size=sz) (h0:0<sz)
 {blk:Option Nat} {cap n:Nat} {xs:List Value} (hown:w.ownsRow 0 e sz (.slice (blk.map (⟨·,0,none⟩)) n cap) n xs)
 {ad:Option Addr} {k c:Nat} {news:List Value} (hl:news.length=k * sz) (hnews:k≠0→∃ b,ad=some b∧∀ (j:Nat) u,news[j]?=some u→w.cell? (b.add j)=some u) (h1:∀ u ∈ news,onec u)
 (h63:n+k≤maxLen) (hbytes:(n+k) * i.bytes≤140737488355328) :
 ∃ blk' cap' w',(Builtin.append_ #[t,t] ty #[.slice (blk.map (⟨·,0,none⟩)) n cap,.slice ad k c]).run E.P w=.ok (.slice (blk'.map (⟨·,0,none⟩)) (n+k) cap') w' ∧
   w'.ownsRow 0 e sz (.slice (blk'.map (⟨·,0,none⟩)) (n+k) cap') (n+k) (xs++news)∧GrownD w w' blk∧n+k≤cap'∧cap'≤maxLen∧∀ b,blk'=some b→(blk=some b∨w.heap.size≤b)∧b<w'.heap.size:=by
 subst hsz
 have hsmall:n+k≤9223372036854775807:=by simp only [maxLen] at h63;omega
 have hxl:=hown.1
 by_cases hk:k=0
 · subst hk
   have hn:news=[]:=List.eq_nil_of_length_eq_zero (by simpa using hl)
   subst hn
   have hcap:n≤cap∧cap≤maxLen:=by
    rcases hown.2 with ⟨h2,h3⟩ | ⟨g,cap',cur,hv,_,_,h2,h3,_⟩
    · cases blk <;> simp at h2;omega
    · cases blk <;> simp at hv;omega
   refine ⟨blk,cap,w,?_,by simpa using hown,⟨⟨rfl,rfl,rfl,Nat.le_refl _,fun _ _ _=>rfl⟩,Nat.le_refl _⟩,by omega,hcap.2,fun b hb=>⟨.inl hb,?_⟩⟩
   · cases blk <;> cases ad <;> simp [Builtin.append_,run_underlying ht,sizeOf,typeInfo,hi,Builtin.lenOf,Builtin.firstCells,loadCells,loadCellsFrom,storeCells,hcap.1]
   · rcases hown.2 with ⟨h2,h3⟩ | ⟨g,cap',cur,hv,_,hg,_⟩
     · subst hb;simp at h2
     · subst hb
       simp at hv
       rw [← hv.1] at hg
       exact lt_of_block hg
 · obtain ⟨b,rfl,hb⟩:=hnews hk
   have hlen:(xs++news).length=(n+k) * i.size:=by rw [List.length_append,hxl,hl,Nat.add_mul]
   have grown:∀ (old:Nat) (row:Option Nat),old<n+k →
    (w.drew.alloc (.cells (xs.toArray++news.toArray++Builtin.zeroCells z.cells (grownCap w (n+k) old e - (n+k))) e)).ownsRow 0 e i.size
      (.slice (some ⟨w.heap.size,0,none⟩) (n+k) (grownCap w (n+k) old e)) (n+k) (xs++news) ∧
    GrownD w (w.drew.alloc (.cells (xs.toArray++news.toArray++Builtin.zeroCells z.cells (grownCap w (n+k) old e - (n+k))) e)) row∧n+k≤grownCap w (n+k) old e∧grownCap w (n+k) old e≤maxLen:=by
    intro old row ho
    have hge:=grownCap_ge w (n+k) old e
    have hcm:grownCap w (n+k) old e≤maxLen:=grownCap_le_maxLen w (n+k) old e h63
    refine ⟨⟨hlen,.inr ⟨w.heap.size,_,_,rfl,Nat.zero_le _,heap_alloc_at w.drew _,hge,hcm,?_,?_⟩⟩,⟨⟨rfl,rfl,rfl,by simp,fun j hj _=>heap_alloc_lt w.drew _ hj⟩,Nat.le_succ _⟩,hge,hcm⟩
    · simp only [Array.size_append,List.size_toArray,size_zeroCells,hzs,hxl,hl,← Nat.add_mul]
      congr 1
      omega
    · simp only [Array.toList_append]
      rw [← hlen]
      exact List.take_left
   cases blk with
   | none =>
     rcases hown.2 with ⟨h2,h3⟩ | ⟨g,cap',cur,hv,_⟩
     · simp at h2
       obtain ⟨rfl,rfl⟩:=h2
       have hx:xs=[]:=List.eq_nil_of_length_eq_zero (by simpa using hxl)
       subst hx
       have hr:=run_append_nil (P:=E.P) w t ty e i z ht hi hz b k c news hl hb (by omega) (by omega) (by simp only [Nat.zero_add] at hbytes;omega)
       have hgr:=grown 0 none (by omega)
       simp only [Nat.zero_add,List.nil_append,Array.empty_append] at hgr ⊢
       refine ⟨some w.heap.size,_,_,hr,hgr.1,hgr.2.1,hgr.2.2.1,hgr.2.2.2,fun b' hb'=>?_⟩
       cases hb'
       exact ⟨.inr (Nat.le_refl _),by simp⟩
     · simp at hv
   | some g =>
     rcases hown.2 with ⟨h2,h3⟩ | ⟨g',cap',cur,hv,hbg,hg,hnc,hcm,hcs,htake⟩
     · simp at h2
     · simp only [Option.map_some,Value.slice.injEq,Option.some.injEq,Addr.mk.injEq] at hv
       obtain ⟨⟨rfl,_⟩,_,rfl⟩:=hv
       by_cases hroom:n+k≤cap
       · have hfit:n * i.size+news.length≤cur.size:=by rw [hl,hcs,← Nat.add_mul];exact Nat.mul_le_mul_right _ hroom
         have hr:=run_append_room (P:=E.P) w t ty e i ht hi g n cap cur hg b k c news hl hb h1 hroom hfit
         refine ⟨some g,cap,_,hr,⟨hlen,.inr ⟨g,cap,_,rfl,hbg,setRow_heap w g cur _ e _ hg,hroom,hcm,?_,?_⟩⟩,⟨⟨rfl,rfl,rfl,by simp,fun j _ hj=>setRow_other w g j _ (fun e=>hj (by rw [e]))⟩,Nat.le_refl _⟩,hroom,hcm,fun b' hb'=>⟨.inl hb',?_⟩⟩
         · simp only [List.size_toArray,List.length_append,List.length_take,List.length_drop,Array.length_toList]
           omega
         · rw [htake,← hlen]
           exact List.take_left
         · cases hb'
           simp
           exact lt_of_block hg
       · have holds:∀ (j:Nat) u,xs[j]?=some u→w.cell? ((⟨g,0,none⟩:Addr).add j)=some u:=fun j u hj=>by
          rw [addr_add]
          refine cellsAt_cell ⟨cur,e,(0,0),hg,fun j u hj=>?_⟩ j u hj
          rw [← htake,List.getElem?_take] at hj
          split at hj
          · simpa using hj
          · cases hj
         have hr:=run_append_grow (P:=E.P) w t ty e i z ht hi hz ⟨g,0,none⟩ n cap xs hxl holds b k c news hl hb (by omega) (by omega) (growslice_fits (by omega) hbytes)
         have hgr:=grown cap (some g) (by omega)
         refine ⟨some w.heap.size,_,_,hr,hgr.1,hgr.2.1,hgr.2.2.1,hgr.2.2.2,fun b' hb'=>?_⟩
         cases hb'
         exact ⟨.inr (Nat.le_refl _),by simp⟩
theorem srcOf_spec (hi:Inv γ σ w s.H) {sz:Nat} {y:AV} {v:Value} {ys:List AV} (h:srcOf s.H sz y=some ys) (hv:RepV γ σ y v) :
 ∃ ad k c us,v=.slice ad k c∧k=ys.length∧RepVs γ σ ys us∧(∀ u ∈ us,okEl sz u)∧(k≠0→∃ b,ad=some b∧∀ (j:Nat) u,(flat us)[j]?=some u→w.cell? (b.add j)=some u):=by
 cases y <;> simp only [srcOf] at h <;> try (cases h;done)
 case view sz' xs =>
  split at h
  · rename_i he
    subst he
    cases h
    obtain ⟨ad,n,c,vs,rfl,h1,h2,h3,h4,h5,h6⟩:=hv
    refine ⟨ad,n,c,vs,rfl,by rw [← h2,h1.length],RepVs.mono (fun _ _ h=>h) _ _ _ _ (Sg.le_nil σ) h1,h5,fun hn=>?_⟩
    obtain ⟨b,off,rfl,hc⟩:=h6 hn
    exact ⟨_,rfl,fun j u hj=>by rw [addr_add];exact cellsAt_cell (hc.mono (hi.mem b)) j u hj⟩
  · cases h
 case raw u =>
  split at h
  · rename_i hn
    cases h
    have:v=u:=hv
    subst this
    unfold isEmptySlice at hn
    split at hn
    · rename_i a c
      exact ⟨a,0,c,[],rfl,rfl,by simp [RepVs],by simp,by simp⟩
    · cases hn
  · cases h
 case slc id sz' m' =>
  split at h
  · rename_i he
    subst he
    split at h
    · rename_i E' sz'' xs hH
      split at h
      · rename_i hle
        cases h
        obtain ⟨rfl,hle⟩:=hle
        obtain ⟨blk,cap,hs,rfl,h1,h2,hob⟩:=slc_value hi hH hv
        simp only [RepO] at hob
        obtain ⟨vs,h3,h4,h5,h6,h7⟩:=hob
        refine ⟨_,_,_,vs.take m',rfl,by simp;omega,RepVs.take _ h3,fun u hu=>h4 u (List.mem_of_mem_take hu),fun hn=>?_⟩
        have hne:flat vs≠[]:=by
         intro hz
         have hfl:=flat_length h4
         rw [hz,h3.length] at hfl
         simp only [List.length_nil] at hfl
         have:0<xs.length * sz:=Nat.mul_pos (by omega) h5
         omega
        obtain ⟨b,rfl,hc⟩:=ownsRow_cells h7 hne
        refine ⟨_,rfl,fun j u hj=>?_⟩
        rw [addr_add]
        refine cellsAt_cell hc j u ?_
        have h8:flat vs=flat (vs.take m')++flat (vs.drop m'):=by rw [← flat_append,List.take_append_drop]
        rw [h8,List.getElem?_append_left (List.getElem?_eq_some_iff.1 hj).1]
        exact hj
      · cases h
    · cases h
  · cases h
 case sub id sz' off m' =>
  split at h
  · rename_i he
    subst he
    split at h
    · rename_i E' sz'' xs hH
      split at h
      · rename_i hle
        cases h
        obtain ⟨rfl,hle⟩:=hle
        obtain ⟨blk,cap,ad,hs,rfl,h1,h2,hadr,_,hob⟩:=sub_value hi hH hv
        obtain ⟨vs,h3,h4,h5,h6,h7⟩:=repO_arr.1 hob
        have hvl:=h3.length
        refine ⟨ad,m',cap - off,(vs.drop off).take m',rfl,by simp;omega,RepVs.take _ (RepVs.drop _ h3),fun u hu=>h4 u (List.mem_of_mem_drop (List.mem_of_mem_take hu)),fun hn=>?_⟩
        obtain ⟨b,rfl,rfl⟩:=hadr (by omega)
        have hne:flat vs≠[]:=by
         intro hz
         have hfl:=flat_length h4
         rw [hz,h3.length] at hfl
         simp only [List.length_nil] at hfl
         have:0<xs.length * sz:=Nat.mul_pos (by omega) h5
         omega
        obtain ⟨b',hb',hc⟩:=ownsRow_cells h7 hne
        cases hb'
        refine ⟨_,rfl,fun j u hj=>?_⟩
        rw [addr_add]
        have e2:flat vs=flat (vs.take off)++(flat ((vs.drop off).take m')++flat ((vs.drop off).drop m')):=by rw [← flat_append,List.take_append_drop,← flat_append,List.take_append_drop]
        have hfo:(flat (vs.take off)).length=off * sz:=by rw [flat_length (fun u hu=>h4 u (List.mem_of_mem_take hu)),List.length_take,Nat.min_eq_left (by omega)]
        have hjl:=(List.getElem?_eq_some_iff.1 hj).1
        have:=cellsAt_cell hc (off * sz+j) u (by
         rw [e2,List.getElem?_append_right (by omega),hfo,Nat.add_sub_cancel_left,List.getElem?_append_left hjl]
         exact hj)
        rwa [Nat.zero_add] at this
      · cases h
    · cases h
  · cases h
end
end Go.Al
namespace Go.Al
section
variable {E:Env} {X:Act→World→Prop} {m:Nat} {N:FN} {γ:Gm} {σ:Sg} {w:World} {a:Act} {s:AS} {K:AS→Prop} {next:Act→World→Prop} {Q:Exit→Act→World→Prop} {o:Oper}
theorem arr_entry (hi:Inv γ σ w s.H) {id:Nat} {E':TypeId} {sz:Nat} {xs:List AV} (hH:s.H[id]?=some (.arr E' sz xs)):∃ blk cap vs,σ[id]?=some (some (blk,cap))∧RepVs γ σ xs vs∧(∀ u ∈ vs,okEl sz u)∧0<sz∧xs.length≤cap ∧
 w.ownsRow 0 E' sz (.slice (blk.map (⟨·,0,none⟩)) xs.length cap) xs.length (flat vs):=by
 obtain ⟨e,he,hob⟩:=inv_entry hi hH
 unfold RepO at hob
 split at hob
 · rename_i heq;cases heq
 · rename_i blk cap E'' sz'' xs'' heq
   cases heq
   obtain ⟨vs,h⟩:=hob
   exact ⟨blk,cap,vs,he,h⟩
 all_goals first | (rename_i heq;cases heq;done) | exact hob.elim
theorem flat_onec {sz:Nat} {us:List Value} (h:∀ u ∈ us,okEl sz u):∀ z ∈ flat us,onec z:=by
 intro z hz
 simp only [flat,List.mem_flatMap] at hz
 obtain ⟨u,hu,hz⟩:=hz
 exact (h u hu).2 z hz
theorem evArgs {args:Array Operand} {x y:Operand} (h:args.toList=[x,y]) (ρ:Operand→Value):args.map ρ = #[ρ x,ρ y]:=by
 apply Array.ext';simp [h]
theorem flat_take {sz:Nat}:∀ {vs:List Value} {n:Nat},(∀ u ∈ vs,okEl sz u)→flat (vs.take n)=(flat vs).take (n * sz)
 | [],n,_=>by simp [flat]
 | v::vs,0,_=>by simp [flat]
 | v::vs,n+1,h=>by
   have hv:v.cells.toList.length=sz:=by rw [Array.length_toList];exact (h v (by simp)).1
   have ih:=flat_take (vs:=vs) (n:=n) (fun u hu=>h u (by simp [hu]))
   have e1:flat (v::vs)=v.cells.toList++flat vs:=rfl
   have e2:flat ((v::vs).take (n+1))=v.cells.toList++flat (vs.take n):=rfl
   rw [e1,e2,ih,List.take_append,hv,Nat.add_mul,Nat.one_mul,List.take_of_length_le (l:=v.cells.toList) (by omega),Nat.add_sub_cancel]
theorem ownsRow_take {w:World} {E':TypeId} {sz cap n:Nat} {ad:Option Addr} {vs:List Value} {N:Nat} (hl:vs.length=N) (hv:∀ u ∈ vs,okEl sz u) (h:w.ownsRow 0 E' sz (.slice ad N cap) N (flat vs)) (hn:n≤N):w.ownsRow 0 E' sz (.slice ad n cap) n (flat (vs.take n)):=by
 subst hl
 obtain ⟨h1,h2⟩:=h
 have hf:(flat (vs.take n)).length=n * sz:=by rw [flat_length (fun u hu=>hv u (List.mem_of_mem_take hu)),List.length_take,Nat.min_eq_left (by omega)]
 refine ⟨hf,?_⟩
 rcases h2 with ⟨h3,h4⟩ | ⟨g,cap',cur,h3,h4,h5,h6,h7,h8,h9⟩
 · left
   simp only [Value.slice.injEq] at h3
   obtain ⟨rfl,h3,rfl⟩:=h3
   have:n=0:=by omega
   subst this
   exact ⟨rfl,rfl⟩
 · right
   simp only [Value.slice.injEq] at h3
   obtain ⟨rfl,_,rfl⟩:=h3
   refine ⟨g,cap,cur,rfl,h4,h5,by omega,h7,h8,?_⟩
   rw [flat_take hv,← h9,List.take_take]
   congr 1
   exact (Nat.min_eq_left (Nat.mul_le_mul_right _ hn)).symm
theorem s_append_pre {args:Array Operand} {ats:Array TypeId} {t e:TypeId} {x y:Operand} {ti ei:TInfo} {id n:Nat} {xs ys:List AV} (ho:o.op=.call { callee:=.builtin .append,args,argTypes:=ats })
 (hts:ats.toList=[t,t]) (has:args.toList=[x,y]) (hE:E.ok) (hT:E.TI t=some ti) (hdd:ti.desc=.slice e) (he:E.TI e=some ei) (hvx:∃ blk cap,σ[id]?=some (some (blk,cap))∧a.eval x=.slice (blk.map (⟨·,0,none⟩)) n cap) (hys:srcOf s.H ei.size (ev s.fr y)=some ys)
 (hH:s.H[id]?=some (.arr e ei.size xs)) (hn:n≤xs.length) (h0:0<ei.size) (h63:n+ys.length≤maxLen) (hb:(n+ys.length) * ei.bytes≤140737488355328)
 (hr:Rep N γ σ w a s) (hd:∀ d,o.dst=some d→d<N.n) (hX:∀ w' v,ExtL σ [id] w w'→X (a.put o.dst v) w') (hk:Cont X m N γ σ w K next)
 (hK:K (AS.put ⟨s.fr,s.H.set id .dead++[.arr e ei.size (xs.take n++ys)]⟩ o.dst (.slc s.H.length ei.size (n+ys.length)))):o.wp E.P a w next Q:=by
 obtain ⟨ad,k,c,us,hvy,hkl,hus,huok,hcell⟩:=srcOf_spec hr.inv hys (repV_ev hr.fr y)
 obtain ⟨blk,cap,hs,hvx⟩:=hvx
 obtain ⟨blk',cap',vs,hs',hvs,hvok,_,hcap,hown⟩:=arr_entry hr.inv hH
 rw [hs] at hs';cases hs'
 obtain ⟨inf,z,hi1,hi2,hi3,hi4,hzs,_⟩:=repV_zero (E:=E) (hE e ei he)
 have hun:=(hE t ti hT).slice hdd
 have hul:=hus.length
 have hvl:=hvs.length
 have hown:=ownsRow_take (vs:=vs) hvl hvok hown hn
 have hvs:=RepVs.take n hvs
 have hvok:∀ u ∈ vs.take n,okEl ei.size u:=fun u hu=>hvok u (List.mem_of_mem_take hu)
 obtain ⟨blk',cap',w',hrun,hown',hgrow,hc1,hc2,hblk⟩:=append_run (E:=E) (ty:=o.type) hun hi1 hi4 hi2 hzs.1 h0 hown (k:=k) (ad:=ad) (c:=c) (news:=flat us) (by rw [flat_length huok,hul,hkl]) hcell (flat_onec huok) (by omega) (by rw [hkl,hi3];exact hb)
 refine done_value (u:=.slice (blk'.map (⟨·,0,none⟩)) (n+k) cap') hr hd hk (w':=w') ?_ (hX _ _ fun b o hb hne=>by rw [hgrow.block b (lt_of_block hb) (fun e=>hne id (by simp) cap (by rw [hs,e]))];exact hb) (hr.inv.move hs hgrow.size (fun b hb hne=>hgrow.block b hb hne) hgrow.os hgrow.tape hgrow.output hblk (o':=.arr e ei.size (xs.take n++ys)) (cap':=cap') (repO_arr.2 ?_) hgrow.drawn) (Sg.le_kill _ _ _) ?_ hK
 · rw [execOp_call_builtin _ _ _ _ _ ho,builtin,evArgs has,show ats = #[t,t] from Array.ext' (by simpa using hts),hvx,hvy]
   simp only [Sem.run_bind,hrun,Result.andThen_ok,Sem.run_pure]
 · have hlen:(xs.take n++ys).length=n+k:=by simp [hkl];omega
   refine ⟨vs.take n++us,RepVs.append (RepVs.mono (fun _ _ h=>h) _ _ _ _ (Sg.le_kill _ _ _) hvs) (RepVs.mono (fun _ _ h=>h) _ _ _ _ (Sg.le_kill _ _ _) hus),fun u hu=>?_,h0,by omega,?_⟩
   · rcases List.mem_append.1 hu with hu | hu
     · exact hvok u hu
     · exact huok u hu
   · rw [hlen,flat_append];exact hown'
 · rw [hkl,← hr.inv.len]
   have:=slc_new (σ.set id none) γ blk' cap' ei.size (n+ys.length) (by omega) hc2
   simpa using this
theorem s_append_slc {args:Array Operand} {ats:Array TypeId} {t e:TypeId} {x y:Operand} {ti ei:TInfo} {id n:Nat} {xs ys:List AV} (ho:o.op=.call { callee:=.builtin .append,args,argTypes:=ats })
 (hts:ats.toList=[t,t]) (has:args.toList=[x,y]) (hE:E.ok) (hT:E.TI t=some ti) (hdd:ti.desc=.slice e) (he:E.TI e=some ei) (hx:ev s.fr x=.slc id ei.size n) (hys:srcOf s.H ei.size (ev s.fr y)=some ys)
 (hH:s.H[id]?=some (.arr e ei.size xs)) (hn:n=xs.length) (h0:0<ei.size) (h63:xs.length+ys.length≤maxLen) (hb:(xs.length+ys.length) * ei.bytes≤140737488355328)
 (hr:Rep N γ σ w a s) (hd:∀ d,o.dst=some d→d<N.n) (hX:∀ w' v,ExtL σ [id] w w'→X (a.put o.dst v) w') (hk:Cont X m N γ σ w K next)
 (hK:K (AS.put ⟨s.fr,s.H.set id .dead++[.arr e ei.size (xs++ys)]⟩ o.dst (.slc s.H.length ei.size (xs.length+ys.length)))):o.wp E.P a w next Q:=by
 subst hn
 have hvx:=repV_ev hr.fr x
 rw [hx] at hvx
 obtain ⟨blk,cap,hs,hvx,_,_,_⟩:=slc_value hr.inv hH hvx
 exact s_append_pre ho hts has hE hT hdd he ⟨blk,cap,hs,hvx⟩ hys hH (Nat.le_refl _) h0 h63 hb hr hd hX hk (by rw [List.take_length];exact hK)
theorem s_append_sub {args:Array Operand} {ats:Array TypeId} {t e:TypeId} {x y:Operand} {ti ei:TInfo} {id n:Nat} {xs ys:List AV} (ho:o.op=.call { callee:=.builtin .append,args,argTypes:=ats })
 (hts:ats.toList=[t,t]) (has:args.toList=[x,y]) (hE:E.ok) (hT:E.TI t=some ti) (hdd:ti.desc=.slice e) (he:E.TI e=some ei) (hx:ev s.fr x=.sub id ei.size 0 n) (hys:srcOf s.H ei.size (ev s.fr y)=some ys)
 (hH:s.H[id]?=some (.arr e ei.size xs)) (hn:n≤xs.length) (h0:0<ei.size) (h63:n+ys.length≤maxLen) (hb:(n+ys.length) * ei.bytes≤140737488355328)
 (hr:Rep N γ σ w a s) (hd:∀ d,o.dst=some d→d<N.n) (hX:∀ w' v,ExtL σ [id] w w'→X (a.put o.dst v) w') (hk:Cont X m N γ σ w K next)
 (hK:K (AS.put ⟨s.fr,s.H.set id .dead++[.arr e ei.size (xs.take n++ys)]⟩ o.dst (.slc s.H.length ei.size (n+ys.length)))):o.wp E.P a w next Q:=by
 have hvx:=repV_ev hr.fr x
 rw [hx] at hvx
 obtain ⟨blk,cap,ad,hs,hvx,_,_,_,hz,_⟩:=sub_value hr.inv hH hvx
 rw [hz rfl,Nat.sub_zero] at hvx
 exact s_append_pre ho hts has hE hT hdd he ⟨blk,cap,hs,hvx⟩ hys hH hn h0 h63 hb hr hd hX hk hK
theorem s_append_nil {args:Array Operand} {ats:Array TypeId} {t e:TypeId} {x y:Operand} {v:Value} {ti ei:TInfo} {ys:List AV} (ho:o.op=.call { callee:=.builtin .append,args,argTypes:=ats })
 (hts:ats.toList=[t,t]) (has:args.toList=[x,y]) (hE:E.ok) (hT:E.TI t=some ti) (hdd:ti.desc=.slice e) (he:E.TI e=some ei) (hx:ev s.fr x=.raw v) (hnil:isNilSlice v=true) (hys:srcOf s.H ei.size (ev s.fr y)=some ys)
 (h0:0<ei.size) (h63:ys.length≤maxLen) (hb:ys.length * ei.bytes≤140737488355328)
 (hr:Rep N γ σ w a s) (hd:∀ d,o.dst=some d→d<N.n) (hX:∀ w' v,ExtL σ [] w w'→X (a.put o.dst v) w') (hk:Cont X m N γ σ w K next)
 (hK:K (AS.put ⟨s.fr,s.H++[.arr e ei.size ys]⟩ o.dst (.slc s.H.length ei.size ys.length))):o.wp E.P a w next Q:=by
 have hvx:=repV_ev hr.fr x
 rw [hx] at hvx
 simp only [RepV] at hvx
 have hv0:v=.slice none 0 0:=by
  unfold isNilSlice at hnil
  split at hnil
  · rfl
  · cases hnil
 subst hv0
 obtain ⟨ad,k,c,us,hvy,hkl,hus,huok,hcell⟩:=srcOf_spec hr.inv hys (repV_ev hr.fr y)
 obtain ⟨inf,z,hi1,hi2,hi3,hi4,hzs,_⟩:=repV_zero (E:=E) (hE e ei he)
 have hun:=(hE t ti hT).slice hdd
 have hul:=hus.length
 obtain ⟨blk',cap',w',hrun,hown',hgrow,hc1,hc2,hblk⟩:=append_run (E:=E) (w:=w) (ty:=o.type) hun hi1 hi4 hi2 hzs.1 h0 (blk:=none) (cap:=0) (n:=0) (xs:=[]) (by simp [World.ownsRow]) (k:=k) (ad:=ad) (c:=c) (news:=flat us) (by rw [flat_length huok,hul,hkl]) hcell (flat_onec huok) (by omega) (by rw [hkl,hi3,Nat.zero_add];exact hb)
 rw [Nat.zero_add] at *
 rw [List.nil_append] at hown'
 refine done_value (u:=.slice (blk'.map (⟨·,0,none⟩)) k cap') hr hd hk (w':=w') ?_ (hX _ _ fun b o hb _=>by rw [hgrow.block b (lt_of_block hb) (by simp)];exact hb) (hr.inv.new hgrow.size (fun b hb=>hgrow.block b hb (by simp)) hgrow.os hgrow.tape hgrow.output (fun b hb=>⟨(hblk b hb).1.resolve_left (by simp),(hblk b hb).2⟩) (o':=.arr e ei.size ys) (cap':=cap') (repO_arr.2 ?_) hgrow.drawn) (Sg.le_append _ _) ?_ hK
 · rw [execOp_call_builtin _ _ _ _ _ ho,builtin,evArgs has,show ats = #[t,t] from Array.ext' (by simpa using hts),hvx,hvy]
   simp only [Option.map_none] at hrun
   simp only [Sem.run_bind,hrun,Result.andThen_ok,Sem.run_pure]
 · refine ⟨us,RepVs.mono (fun _ _ h=>h) _ _ _ _ (Sg.le_append _ _) hus,huok,h0,by omega,?_⟩
   rw [← hkl];exact hown'
 · rw [hkl,← hr.inv.len]
   exact slc_new σ γ blk' cap' ei.size ys.length (by omega) hc2
end
end Go.Al
namespace Go.Al
section
variable {E:Env} {X:Act→World→Prop} {m:Nat} {N:FN}
theorem s_call {γ:Gm} {σ:Sg} {w:World} {a:Act} {s:AS} {K:AS→Prop} {next:Act→World→Prop} {Q:Exit→Act→World→Prop} {o:Oper} (hE:E.ok) (hr:Rep N γ σ w a s) (hd:∀ d,o.dst=some d→d<N.n) (hX:∀ v w',X (a.put o.dst v) w') (hk:Cont X m N γ σ w K next)
 {f:Operand} {args:Array Operand} {ats:Array TypeId} {g:FuncId} {first caps:List AV} (ho:o.op=.call { callee:=.value f,args,argTypes:=ats }) (hf:ev s.fr f=.fn (.func g) first caps)
 (h:ACalls E.P g (first++args.toList.map (ev s.fr)++caps) s.H (fun r H'=>K (AS.put ⟨s.fr,H'⟩ o.dst r))):o.wp E.P a w next Q:=by
 have hv:=repV_ev hr.fr f
 rw [hf] at hv
 obtain ⟨fv,cv,hv,h1,h2⟩:=hv
 have hargs:=RepVs.append (RepVs.append h1 (repVs_evs hr.fr args.toList)) h2
 obtain ⟨fn,hfn,hn,hb⟩:=h.1
 have hrun:(execOp a.eval o).run E.P w=.ok (.enter g (fv++args.toList.map a.eval++cv).toArray) w:=by
  simp only [execOp,ho,resolve,hv,Deferred.ofValue,Sem.run_bind,Sem.run_pure,Result.andThen_ok,invoke,callFunc,run_program,hfn,hn,hb,Bool.false_eq_true,if_false]
  simp
 unfold Oper.wp
 rw [hrun,Oper.upon_enter]
 refine (h.2 γ σ w _ hr.inv hargs).mono ?_
 rintro e w' ⟨v,γ',σ',r,H',rfl,hst,hi,hrv,hK⟩
 have hs:Sg.le σ σ':=fun i en hen=>hst.low i en (by rw [← hr.inv.len];exact (List.getElem?_eq_some_iff.1 hen).1) hen
 exact hk _ _ _ _ _ (hX _ _) ⟨hst.le,hst.size,hst.keep,hst.own,hst.os,hst.tape,hst.output,hst.drawn,fun i en _ hen=>hs i en hen⟩ (rep_put hr hst hs hi hd hrv) hK
theorem yielded_get {γ:Gm} {σ:Sg} {fr:List (Nat × AV)} {tmps:Array Value} (hf:RepF γ σ fr tmps) {ops:Array Oper} {j t:Nat} {b:Bool} (hj:(ops[j]?).bind (·.dst)=some t) (hb:get fr t=.bool b):yielded ops tmps j=some b:=by
 have h:=hf t
 rw [hb] at h
 simp only [RepV] at h
 unfold yielded
 rw [hj]
 simp only [Option.bind_some]
 rw [Array.getD_eq_getD_getElem?] at h
 cases ht:tmps[t]? with
 | none=>rw [ht] at h;cases h
 | some v=>rw [ht] at h;simp at h;subst h;rfl
theorem yielded_undef {γ:Gm} {σ:Sg} {fr:List (Nat × AV)} {tmps:Array Value} (hf:RepF γ σ fr tmps) {ops:Array Oper} {j t:Nat} (hj:(ops[j]?).bind (·.dst)=some t) (hb:get fr t=.tup []):yielded ops tmps j=none:=by
 have h:=hf t
 rw [hb] at h
 obtain ⟨vs,h,hv⟩:=h
 simp only [RepVs] at hv
 subst hv
 unfold yielded
 rw [hj]
 simp only [Option.bind_some]
 rw [Array.getD_eq_getD_getElem?] at h
 cases ht:tmps[t]? with
 | none=>rfl
 | some v=>rw [ht] at h;simp at h;subst h;rfl
theorem repF_set {γ:Gm} {σ:Sg} {fr:List (Nat × AV)} {tmps:Array Value} (hf:RepF γ σ fr tmps) {t:Nat} {x y:AV} (hx:get fr t=x) (hy:∀ v,RepV γ σ x v→RepV γ σ y v):RepF γ σ ((t,y)::fr) tmps:=by
 intro u
 simp only [get]
 split
 · rename_i h;subst h
   exact hy _ (by rw [← hx];exact hf t)
 · exact hf u
theorem acode_cond {P:Program} {Q:Exit→AS→Prop} {s:AS} {c:Operand} {x y:Code} {b:Bool} (hc:ev s.fr c=.bool b) (h1:b=true→ACode P m N x Q s) (h2:b=false→ACode P m N y Q s):ACode P m N (.cond c x y) Q s:=fun γ σ w a hr=>by
 have hv:=repV_ev hr.fr c
 rw [hc] at hv
 simp only [RepV] at hv
 exact wpIn_cond_split hv (fun h=>h1 h γ σ w a hr) (fun h=>h2 h γ σ w a hr)
theorem Loop.mono {body body':(Exit→AS→Prop)→AS→Prop} {Q:Exit→AS→Prop} {s:AS} (h:Loop m N body Q s) (hb:∀ Q s,body Q s→body' Q s):Loop m N body' Q s:=by
 obtain ⟨X,inv,st,μ,x0,h0,h1,h2⟩:=h
 exact ⟨X,inv,st,μ,x0,h0,h1,fun x hx=>hb _ _ (h2 x hx)⟩
def resA (E:Env) (s:AS):List ResultVar→Option (List AV)
 | []=>some []
 | .tmp t::r=>(resA E s r).map (get s.fr t :: ·)
 | .cell t T::r=>match E.TI T,ptrCells s.H (get s.fr t) with
   | some i,some cs=>match loadA i cs,resA E s r with
     | some x,some xs=>some (x::xs)
     | _,_=>none
   | _,_=>none
def tupA:List AV→AV
 | [x]=>x
 | xs=>.tup xs
def frOf:Nat→List AV→List (Nat × AV)
 | _,[]=>[]
 | k,x::xs=>(k,x)::frOf (k+1) xs
theorem get_frOf:∀ (xs:List AV) (k t:Nat),get (frOf k xs) t=if k≤t then (xs[t - k]?).getD .junk else .junk
 | [],k,t=>by simp [frOf,get]
 | x::xs,k,t=>by
   simp only [frOf,get,get_frOf xs (k+1) t]
   by_cases h:k=t
   · subst h;simp
   · rw [if_neg h]
     by_cases h2:k+1≤t
     · rw [if_pos h2,if_pos (by omega),show t - k=(t - (k+1))+1 by omega];simp
     · rw [if_neg h2,if_neg (by omega)]
def endQ (E:Env) (rs:List ResultVar) (Q:AV→List AObj→Prop):Exit→AS→Prop
 | .normal,s | .ret,s=>optR (resA E s rs) fun xs=>Q (tupA xs) s.H
 | _,_=>False
where optR (o:Option (List AV)) (k:List AV→Prop):Prop:=match o with | some x=>k x | none=>False
def resOne (tmps:Array Value):ResultVar→Sem Value
 | .tmp t=>pure (tmps.getD t undef)
 | .cell b t=>do loadVar t (← asAddr (tmps.getD b undef))
theorem results_eq (fn:Func) (tmps:Array Value):results fn tmps=(do let vs ← fn.results.mapM (resOne tmps);pure (if h:vs.size=1 then vs[0] else .tuple vs)):=by
 unfold results
 congr 1
theorem resA_run (hE:E.ok) {γ:Gm} {σ:Sg} {w:World} {a:Act} {s:AS} (hi:Inv γ σ w s.H) (hf:RepF γ σ s.fr a.tmps):∀ (rs:List ResultVar) (xs:List AV),resA E s rs=some xs →
 ∃ vs,RepVs γ σ xs vs∧(rs.mapM (resOne a.tmps)).run E.P w=.ok vs w
 | [],xs,h=>by simp [resA] at h;subst h;exact ⟨[],by simp [RepVs],by simp⟩
 | .tmp t::r,xs,h=>by
   simp only [resA,Option.map_eq_some_iff] at h
   obtain ⟨ys,h1,rfl⟩:=h
   obtain ⟨vs,h2,h3⟩:=resA_run hE hi hf r ys h1
   exact ⟨a.tmps.getD t undef::vs,repVs_cons.2 ⟨_,_,rfl,hf t,h2⟩,by simp only [List.mapM_cons,resOne,Sem.run_bind,Sem.run_pure,Result.andThen_ok,h3]⟩
 | .cell t T::r,xs,h=>by
   simp only [resA] at h
   split at h
   · rename_i i cs hT hc
     split at h
     · rename_i x ys hl hys
       cases h
       obtain ⟨vs,h2,h3⟩:=resA_run hE hi hf r ys hys
       obtain ⟨b,off,vs',hv,_⟩:=ptrCells_spec hi (hf t) hc
       obtain ⟨u,hu,hrun⟩:=load_run (E:=E) (L:=[]) (hE T i hT) hi (hf t) hc hl
       have hrun:=hrun w (ExtL.refl _ _ w)
       rw [hv] at hrun
       simp only [Instr.loadAt,Instr.sureAddr,Sem.run_bind,Sem.run_pure,Result.andThen_ok] at hrun
       exact ⟨u::vs,repVs_cons.2 ⟨_,_,rfl,hu,h2⟩,by simp only [List.mapM_cons,resOne,Sem.run_bind,hv,asAddr,Sem.run_pure,Result.andThen_ok,hrun,h3]⟩
     · cases h
   · cases h
end
end Go.Al
namespace Go.Al
open Classical in
noncomputable def gb (bor:Bool) (γ:Gm) (σ:Sg) (w:World) (l:List Nat):Gm:=fun b =>
 if bor=true∧∃ (i:Nat) (c:Nat),i ∉ l∧σ[i]?=some (some (some b,c)) then w.heap[b]? else γ b
def pos:List Nat→Nat→Nat→Option Nat
 | [],_,_=>none
 | j::l,id,k=>if j=id then some k else pos l id (k+1)
theorem pos_spec:∀ (l:List Nat) (id k:Nat),(∀ j,pos l id k=some j→k≤j∧l[j - k]?=some id)∧(pos l id k=none→id ∉ l)
 | [],id,k=>by simp [pos]
 | i::l,id,k=>by
   unfold pos
   obtain ⟨h1,h2⟩:=pos_spec l id (k+1)
   split
   · rename_i h;subst h
     exact ⟨fun j hj=>by cases hj;simp,fun h=>by cases h⟩
   · rename_i h
     refine ⟨fun j hj=>?_,fun hn=>?_⟩
     · obtain ⟨h3,h4⟩:=h1 j hj
       refine ⟨by omega,?_⟩
       rw [show j - k=(j - (k+1))+1 by omega,List.getElem?_cons_succ]
       exact h4
     · simp only [List.mem_cons,not_or]
       exact ⟨fun he=>h he.symm,h2 hn⟩
def vw (H:List AObj) (l:List Nat):Nat→AV→AV
 | 0,x=>match x with | .int .. | .bool .. | .str .. | .raw .. | .view .. | .vp .. | .mview ..=>x | _=>.junk
 | n+1,x=>match x with
   | .int .. | .bool .. | .str .. | .raw .. | .view .. | .vp .. | .mview ..=>x
   | .agg xs=>.agg (xs.map (vw H l n))
   | .tup xs=>.tup (xs.map (vw H l n))
   | .fn f a b=>.fn f (a.map (vw H l n)) (b.map (vw H l n))
   | .ifc t y=>.ifc t (vw H l n y)
   | .slc id sz q=>match pos l id 0,H[id]? with
     | none,some (.arr _ sz' xs)=>if sz=sz'∧q≤xs.length then .view sz ((xs.take q).map (vw H l n)) else .junk
     | _,_=>.junk
   | .op id off=>match pos l id 0,H[id]? with | none,some (.box cs)=>.vp ((cs.drop off).map (vw H l n)) | _,_=>.junk
   | .ep id sz i off=>match pos l id 0,H[id]? with
     | none,some (.arr _ sz' xs)=>if sz=sz' then (match xs[i]? with | some x=>(match cellsO x with | some cs=>.vp ((cs.drop off).map (vw H l n)) | none=>.junk) | none=>.junk) else .junk
     | _,_=>.junk
   | .mp id=>match pos l id 0,H[id]? with | none,some (.map ks vs _ _)=>.mview (ks.map (vw H l n)) (vs.map (vw H l n)) | _,_=>.junk
   | .sub id sz off q=>match pos l id 0,H[id]? with
     | none,some (.arr _ sz' xs)=>if sz=sz'∧off+q≤xs.length then .view sz (((xs.drop off).take q).map (vw H l n)) else .junk
     | _,_=>.junk
   | _=>.junk
def pa (H:List AObj) (l:List Nat) (bor:Bool):Nat→AV→AV
 | 0,x=>match x with | .int .. | .bool .. | .str .. | .raw .. | .view .. | .vp .. | .mview ..=>x | _=>.junk
 | n+1,x=>match x with
   | .int .. | .bool .. | .str .. | .raw .. | .view .. | .vp .. | .mview ..=>x
   | .agg xs=>.agg (xs.map (pa H l bor n))
   | .tup xs=>.tup (xs.map (pa H l bor n))
   | .fn f a b=>.fn f (a.map (pa H l bor n)) (b.map (pa H l bor n))
   | .ifc t y=>.ifc t (pa H l bor n y)
   | .slc id sz q=>match pos l id 0 with | some j=>.slc j sz q | none=>if bor then vw H l (n+1) (.slc id sz q) else .junk
   | .op id off=>match pos l id 0 with | some j=>.op j off | none=>if bor then vw H l (n+1) (.op id off) else .junk
   | .ep id sz i off=>match pos l id 0 with | some j=>.ep j sz i off | none=>if bor then vw H l (n+1) (.ep id sz i off) else .junk
   | .mp id=>match pos l id 0 with | some j=>.mp j | none=>if bor then vw H l (n+1) (.mp id) else .junk
   | .itr id=>match pos l id 0 with | some j=>.itr j | none=>.junk
   | .yld id=>match pos l id 0 with | some j=>.yld j | none=>.junk
   | .sub id sz off q=>match pos l id 0 with | some j=>.sub j sz off q | none=>if bor then vw H l (n+1) (.sub id sz off q) else .junk
   | _=>.junk
def po (H:List AObj) (l:List Nat) (bor:Bool) (n:Nat):AObj→AObj
 | .box cs=>.box (cs.map (pa H l bor n))
 | .arr E sz xs=>.arr E sz (xs.map (pa H l bor n))
 | .map ks vs bs c=>.map (ks.map (pa H l bor n)) (vs.map (pa H l bor n)) bs c
 | .mit none b c d=>.mit none b c d
 | .mit (some id) b c d=>match pos l id 0 with | some j=>.mit (some j) b c d | none=>.lost
 | .lost=>.lost
 | .sit s p=>.sit s p
 | .dead=>.dead
 | .loop st pd fr q fn ps as bd=>.loop st pd (fr.map fun p=>(p.1,pa H l bor n p.2)) q fn ps as bd
def pH (H:List AObj) (l:List Nat) (bor:Bool) (n:Nat):List AObj:=l.map fun i=>po H l bor n (H[i]?.getD .dead)
def sl (σ:Sg) (l:List Nat):Sg:=l.map fun i=>σ[i]?.getD none
theorem sl_get {σ:Sg} {l:List Nat} {i j:Nat} (h:l[j]?=some i) (hi:i<σ.length):(sl σ l)[j]?=σ[i]?:=by
 simp [sl,h,List.getElem?_eq_getElem hi]
section
variable {γ:Gm} {σ:Sg} {w:World} {H:List AObj} {l:List Nat} {bor:Bool}
theorem gb_le (hi:Inv γ σ w H):γ.le (gb bor γ σ w l):=by
 intro b o hb
 unfold gb
 split
 · rename_i h
   exact hi.mem b o hb
 · exact hb
theorem gb_lent (h:bor=true) {i b c:Nat} (hi:i ∉ l) (hs:σ[i]?=some (some (some b,c))):gb bor γ σ w l b=w.heap[b]?:=by
 unfold gb
 rw [if_pos ⟨h,i,c,hi,hs⟩]
theorem RepVs.of_map {γ':Gm} {σ':Sg} {f:AV→AV}:∀ {xs:List AV} {vs:List Value},(∀ x ∈ xs,∀ v,RepV γ σ x v→RepV γ' σ' (f x) v)→RepVs γ σ xs vs→RepVs γ' σ' (xs.map f) vs
 | [],_,_,h=>by rw [repVs_nil] at h;subst h;simp [RepVs]
 | x::xs,_,hf,h=>by
   obtain ⟨v,vs',rfl,h1,h2⟩:=repVs_cons.1 h
   exact repVs_cons.2 ⟨v,vs',rfl,hf x (by simp) v h1,RepVs.of_map (fun y hy=>hf y (by simp [hy])) h2⟩
theorem atom_mono {γ':Gm} {σ':Sg} (hg:γ.le γ') {x:AV} {v:Value} (h:RepV γ σ x v) (hx:match x with | .int .. | .bool .. | .str .. | .raw .. | .view .. | .vp .. | .mview ..=>True | _=>False):RepV γ' σ' x v:=by
 have e:∀ τ,RepV γ σ x v→RepV γ τ x v:=by
  intro τ h
  cases x <;> first | exact hx.elim | exact h
 exact RepV.mono hg x σ' σ' v (Sg.le_refl _) (e σ' h)
theorem vw_spec (hi:Inv γ σ w H) (hb:bor=true):∀ (n:Nat) (x:AV) (v:Value),RepV γ σ x v→RepV (gb bor γ σ w l) [] (vw H l n x) v:=by
 intro n
 induction n with
 | zero =>
   intro x v h
   unfold vw
   split <;> first | exact atom_mono (gb_le hi) h trivial | simp [RepV]
 | succ n ih =>
   intro x v h
   have ihs:∀ {xs:List AV} {vs:List Value},RepVs γ σ xs vs→RepVs (gb bor γ σ w l) [] (xs.map (vw H l n)) vs:=fun h=>RepVs.of_map (fun x _ v hv=>ih x v hv) h
   unfold vw
   split
   case h_8 xs =>
    obtain ⟨vs,rfl,h2,h3⟩:=h
    exact ⟨vs,rfl,ihs h2,h3⟩
   case h_9 xs =>
    obtain ⟨vs,rfl,h2⟩:=h
    exact ⟨vs,rfl,ihs h2⟩
   case h_10 f a b =>
    obtain ⟨fv,cv,rfl,h2,h3⟩:=h
    exact ⟨fv,cv,rfl,ihs h2,ihs h3⟩
   case h_11 t y =>
    obtain ⟨u,rfl,h2⟩:=h
    exact ⟨u,rfl,ih _ _ h2⟩
   case h_12 id sz q =>
    split
    · rename_i E' sz' xs hp hH
      split
      · rename_i hq
        obtain ⟨rfl,hq⟩:=hq
        have hnl:=(pos_spec l id 0).2 hp
        obtain ⟨e,he,ho⟩:=inv_entry hi hH
        obtain ⟨e',he',h1,h2⟩:=h
        rw [he] at he';cases he'
        unfold RepO at ho
        split at ho
        · rename_i heq;cases heq
        · rename_i blk cap E2 sz2 xs2 heq
          cases heq
          obtain ⟨vs,h3,h4,h5,h6,h7⟩:=ho
          obtain ⟨rfl,hqc,hcm⟩:=h2 blk cap rfl
          have hlen:=h3.length
          refine ⟨_,q,cap,vs.take q,rfl,ihs (RepVs.take q h3),by simp;omega,hqc,hcm,fun u hu=>h4 u (List.mem_of_mem_take hu),fun hq0=>?_⟩
          have hne:flat vs≠[]:=by
           intro hz
           have hfl:=flat_length h4
           rw [hz] at hfl
           simp only [List.length_nil] at hfl
           have:0<vs.length * sz:=Nat.mul_pos (by omega) h5
           omega
          obtain ⟨b,rfl,c2,E3,fr3,hcl,hcc⟩:=ownsRow_cells h7 hne
          refine ⟨b,0,rfl,c2,E3,fr3,?_,fun j u hj=>hcc j u ?_⟩
          · rw [gb_lent hb hnl he];exact hcl
          · have e2:flat vs=flat (vs.take q)++flat (vs.drop q):=by rw [← flat_append,List.take_append_drop]
            rw [e2,List.getElem?_append_left (List.getElem?_eq_some_iff.1 hj).1]
            exact hj
        all_goals first | (rename_i heq;cases heq;done) | exact ho.elim
      · simp [RepV]
    · simp [RepV]
   case h_13 id off =>
    split
    · rename_i cs hp hH
      have hnl:=(pos_spec l id 0).2 hp
      obtain ⟨e,he,ho⟩:=inv_entry hi hH
      obtain ⟨e',he',h1,h2⟩:=h
      rw [he] at he';cases he'
      unfold RepO at ho
      split at ho
      · rename_i b c cs2 heq
        cases heq
        obtain ⟨vs,E2,h3,h4,h5⟩:=ho
        refine ⟨b,off,vs.drop off,h2 b c rfl,ihs (RepVs.drop off h4),fun u hu=>h5 u (List.mem_of_mem_drop hu),vs.toArray,E2,(0,0),?_,fun j u hj=>?_⟩
        · rw [gb_lent hb hnl he];exact h3
        · rw [List.getElem?_drop] at hj
          simpa using hj
      all_goals first | (rename_i heq;cases heq;done) | exact ho.elim
    · simp [RepV]
   case h_14 id sz i off =>
    split
    · rename_i E' sz' xs hp hH
      split
      · rename_i hsz
        subst hsz
        split
        · rename_i x hx
          split
          · rename_i cs hcs
            have hnl:=(pos_spec l id 0).2 hp
            obtain ⟨e,he,ho⟩:=inv_entry hi hH
            obtain ⟨e',he',h1,h2⟩:=h
            rw [he] at he';cases he'
            unfold RepO at ho
            split at ho
            · rename_i heq;cases heq
            · rename_i blk cap E2 sz2 xs2 heq
              cases heq
              obtain ⟨vs,h3,h4,h5,h6,h7⟩:=ho
              obtain ⟨u,hu,hxu⟩:=h3.get i x hx
              obtain ⟨h8,h9⟩:=cellsO_spec hxu hcs
              have hne:flat vs≠[]:=by
               intro hz
               have hfl:=flat_length h4
               rw [hz] at hfl
               simp only [List.length_nil] at hfl
               have hl:=(List.getElem?_eq_some_iff.1 hu).1
               have:0<vs.length * sz:=Nat.mul_pos (by omega) h5
               omega
              obtain ⟨b,rfl,c2,E3,fr3,hcl,hcc⟩:=ownsRow_cells h7 hne
              refine ⟨b,i * sz+off,u.cells.toList.drop off,h2 b cap rfl,ihs (RepVs.drop off h8),fun z hz=>h9 z (List.mem_of_mem_drop hz),c2,E3,fr3,?_,fun j z hz=>?_⟩
              · rw [gb_lent hb hnl he];exact hcl
              · rw [List.getElem?_drop] at hz
                have:=hcc (i * sz+(off+j)) z (flat_get h4 i u hu _ z hz)
                rw [Nat.zero_add] at this
                rw [Nat.add_assoc];exact this
            all_goals first | (rename_i heq;cases heq;done) | exact ho.elim
          · simp [RepV]
        · simp [RepV]
      · simp [RepV]
    · simp [RepV]
   case h_15 id =>
    split
    · rename_i ks ws bs cl hp hH
      have hnl:=(pos_spec l id 0).2 hp
      obtain ⟨e,he,ho⟩:=inv_entry hi hH
      obtain ⟨e',he',h1,h2⟩:=h
      rw [he] at he';cases he'
      unfold RepO at ho
      split at ho
      · rename_i heq;cases heq
      · rename_i heq;cases heq
      · rename_i b c ks2 vs2 bs2 cl2 heq
        cases heq
        obtain ⟨kv,vv,h3,h4,h5⟩:=ho
        refine ⟨kv,vv,ihs h3,ihs h4,.inr ⟨b,h2 b c rfl,?_⟩⟩
        rw [gb_lent hb hnl he];exact h5.at
      all_goals first | (rename_i heq;cases heq;done) | exact ho.elim
    · simp [RepV]
   case h_16 id sz off q =>
    split
    · rename_i E' sz' xs hp hH
      split
      · rename_i hq
        obtain ⟨rfl,hq⟩:=hq
        have hnl:=(pos_spec l id 0).2 hp
        obtain ⟨e,he,ho⟩:=inv_entry hi hH
        obtain ⟨e',he',h1,h2⟩:=h
        rw [he] at he';cases he'
        unfold RepO at ho
        split at ho
        · rename_i heq;cases heq
        · rename_i blk cap E2 sz2 xs2 heq
          cases heq
          obtain ⟨vs,h3,h4,h5,h6,h7⟩:=ho
          obtain ⟨ad,rfl,hqc,hcm,hadr,_⟩:=h2 blk cap rfl
          have hlen:=h3.length
          refine ⟨ad,q,cap - off,(vs.drop off).take q,rfl,ihs (RepVs.take q (RepVs.drop off h3)),by simp;omega,by omega,by omega,fun u hu=>h4 u (List.mem_of_mem_drop (List.mem_of_mem_take hu)),fun hq0=>?_⟩
          obtain ⟨b,rfl,rfl⟩:=hadr (by omega)
          have hne:flat vs≠[]:=by
           intro hz
           have hfl:=flat_length h4
           rw [hz] at hfl
           simp only [List.length_nil] at hfl
           have:0<vs.length * sz:=Nat.mul_pos (by omega) h5
           omega
          obtain ⟨b',hb',c2,E3,fr3,hcl,hcc⟩:=ownsRow_cells h7 hne
          cases hb'
          refine ⟨b,off * sz,rfl,c2,E3,fr3,?_,fun j u hj=>?_⟩
          · rw [gb_lent hb hnl he];exact hcl
          · have e2:flat vs=flat (vs.take off)++(flat ((vs.drop off).take q)++flat ((vs.drop off).drop q)):=by rw [← flat_append,List.take_append_drop,← flat_append,List.take_append_drop]
            have hfo:(flat (vs.take off)).length=off * sz:=by rw [flat_length (fun u hu=>h4 u (List.mem_of_mem_take hu)),List.length_take,Nat.min_eq_left (by omega)]
            have hjl:=(List.getElem?_eq_some_iff.1 hj).1
            have:=hcc (off * sz+j) u (by
             rw [e2,List.getElem?_append_right (by omega),hfo,Nat.add_sub_cancel_left,List.getElem?_append_left hjl]
             exact hj)
            rwa [Nat.zero_add] at this
        all_goals first | (rename_i heq;cases heq;done) | exact ho.elim
      · simp [RepV]
    · simp [RepV]
   case h_17=>simp [RepV]
   all_goals exact atom_mono (gb_le hi) h trivial
theorem ref_pass {id j:Nat} (hlt:∀ i ∈ l,i<σ.length) (hp:pos l id 0=some j) {R:Option (Option Nat × Nat)→Prop} (h:∃ e,σ[id]?=some e∧R e):∃ e,(sl σ l)[j]?=some e∧R e:=by
 obtain ⟨_,h2⟩:=(pos_spec l id 0).1 j hp
 rw [Nat.sub_zero] at h2
 obtain ⟨e,h3,h4⟩:=h
 exact ⟨e,by rw [sl_get h2 (hlt id (List.mem_of_getElem? h2))];exact h3,h4⟩
theorem pa_spec (hi:Inv γ σ w H) (hlt:∀ i ∈ l,i<H.length):∀ (n:Nat) (x:AV) (v:Value),RepV γ σ x v→RepV (gb bor γ σ w l) (sl σ l) (pa H l bor n x) v:=by
 have hlt:∀ i ∈ l,i<σ.length:=fun i h=>by rw [hi.len];exact hlt i h
 intro n
 induction n with
 | zero =>
   intro x v h
   unfold pa
   split <;> first | exact atom_mono (gb_le hi) h trivial | simp [RepV]
 | succ n ih =>
   intro x v h
   have ihs:∀ {xs:List AV} {vs:List Value},RepVs γ σ xs vs→RepVs (gb bor γ σ w l) (sl σ l) (xs.map (pa H l bor n)) vs:=fun h=>RepVs.of_map (fun x _ v hv=>ih x v hv) h
   have lent:∀ y:AV,RepV γ σ y v→RepV (gb bor γ σ w l) (sl σ l) (if bor then vw H l (n+1) y else .junk) v:=by
    intro y hy
    split
    · rename_i hb
      exact RepV.mono (fun _ _ h=>h) _ _ _ _ (Sg.le_nil _) (vw_spec hi hb (n+1) y v hy)
    · simp [RepV]
   unfold pa
   split
   case h_8 xs =>
    obtain ⟨vs,rfl,h2,h3⟩:=h
    exact ⟨vs,rfl,ihs h2,h3⟩
   case h_9 xs =>
    obtain ⟨vs,rfl,h2⟩:=h
    exact ⟨vs,rfl,ihs h2⟩
   case h_10 f a b =>
    obtain ⟨fv,cv,rfl,h2,h3⟩:=h
    exact ⟨fv,cv,rfl,ihs h2,ihs h3⟩
   case h_11 t y =>
    obtain ⟨u,rfl,h2⟩:=h
    exact ⟨u,rfl,ih _ _ h2⟩
   case h_12 id sz q =>
    split
    · rename_i j hp;exact ref_pass hlt hp h
    · exact lent _ h
   case h_13 id off =>
    split
    · rename_i j hp;exact ref_pass hlt hp h
    · exact lent _ h
   case h_14 id sz i off =>
    split
    · rename_i j hp;exact ref_pass hlt hp h
    · exact lent _ h
   case h_15 id =>
    split
    · rename_i j hp;exact ref_pass hlt hp h
    · exact lent _ h
   case h_16 id =>
    split
    · rename_i j hp;exact ref_pass hlt hp h
    · simp [RepV]
   case h_17 id =>
    split
    · rename_i j hp;exact ref_pass hlt hp h
    · simp [RepV]
   case h_18 id sz off q =>
    split
    · rename_i j hp;exact ref_pass hlt hp h
    · exact lent _ h
   case h_19=>simp [RepV]
   all_goals exact atom_mono (gb_le hi) h trivial
theorem get_map {f:AV→AV} {t:Nat}:∀ {fr:List (Nat × AV)},get (fr.map fun p=>(p.1,f p.2)) t=.junk∨get (fr.map fun p=>(p.1,f p.2)) t=f (get fr t)
 | []=>.inl rfl
 | (d,x)::fr=>by
   simp only [List.map_cons,get]
   by_cases hd:d=t
   · rw [if_pos hd,if_pos hd];exact .inr rfl
   · rw [if_neg hd,if_neg hd];exact get_map
theorem repF_map {γ γ':Gm} {σ σ':Sg} {f:AV→AV} (hf:∀ x v,RepV γ σ x v→RepV γ' σ' (f x) v) {tmps:Array Value} {fr:List (Nat × AV)} (h:RepF γ σ fr tmps):RepF γ' σ' (fr.map fun p=>(p.1,f p.2)) tmps:=fun t=>by
 rcases get_map (f:=f) (t:=t) (fr:=fr) with e | e <;> rw [e]
 · simp [RepV]
 · exact hf _ _ (h t)
theorem po_spec (hi:Inv γ σ w H) (hlt:∀ i ∈ l,i<H.length) {n:Nat} {e:Option (Option Nat × Nat)} {o:AObj} (h:RepO γ σ w e o):RepO (gb bor γ σ w l) (sl σ l) w e (po H l bor n o):=by
 have ihs:∀ {xs:List AV} {vs:List Value},RepVs γ σ xs vs→RepVs (gb bor γ σ w l) (sl σ l) (xs.map (pa H l bor n)) vs:=fun h=>RepVs.of_map (fun x _ v hv=>pa_spec hi hlt n x v hv) h
 unfold RepO at h
 split at h
 · obtain ⟨vs,E,h1,h2,h3⟩:=h
   exact ⟨vs,E,h1,ihs h2,h3⟩
 · obtain ⟨vs,h1,h2,h3,h4,h5⟩:=h
   refine repO_arr.2 ⟨vs,ihs h1,h2,h3,by simpa using h4,by simpa using h5⟩
 · obtain ⟨kv,vv,h1,h2,h3⟩:=h
   exact ⟨kv,vv,ihs h1,ihs h2,h3⟩
 · exact h
 · trivial
 · exact h
 · rename_i b c id since seen last
   simp only [po]
   split
   · rename_i j hp
     exact ref_pass (fun i h=>by rw [hi.len];exact hlt i h) hp (R:=fun e=>∀ bm cap,e=some (some bm,cap)→w.heap[b]?=some (.mapIter (some bm) since seen.toArray last)) h
   · trivial
 · obtain ⟨tmps,D,h1,h2,h3⟩:=h
   exact ⟨tmps,D,h1,repF_map (fun x v hv=>pa_spec hi hlt n x v hv) h2,h3⟩
 · exact repO_lost _
 · exact h.elim
theorem nodup_get {l:List Nat} (h:l.Nodup) {i j k:Nat} (hi:l[i]?=some k) (hj:l[j]?=some k):i=j:=by
 exact (List.getElem?_inj (List.getElem?_eq_some_iff.1 hi).1 h).1 (hi.trans hj.symm)
theorem inv_pass (hi:Inv γ σ w H) (hlt:∀ i ∈ l,i<H.length) (hnd:l.Nodup) (n:Nat):Inv (gb bor γ σ w l) (sl σ l) w (pH H l bor n):=by
 have hlt':∀ i ∈ l,i<σ.length:=fun i h=>by rw [hi.len];exact hlt i h
 have back:∀ (j:Nat) e,(sl σ l)[j]?=some e→∃ i,l[j]?=some i∧σ[i]?=some e:=by
  intro j e hj
  simp only [sl,List.getElem?_map,Option.map_eq_some_iff] at hj
  obtain ⟨i,h1,h2⟩:=hj
  have:=hlt' i (List.mem_of_getElem? h1)
  rw [List.getElem?_eq_getElem this] at h2
  exact ⟨i,h1,by rw [List.getElem?_eq_getElem this];simpa using h2⟩
 refine ⟨fun b o hb=>?_,fun j b c hj=>?_,fun j k b c c' hj hk=>?_,by simp [sl,pH],fun j o e ho he=>?_,hi.glob.mono (gb_le hi)⟩
 · unfold gb at hb
   split at hb
   · exact hb
   · exact hi.mem b o hb
 · obtain ⟨i,h1,h2⟩:=back j _ hj
   obtain ⟨h3,h4⟩:=hi.own i b c h2
   refine ⟨?_,h4⟩
   unfold gb
   split
   · rename_i h
     obtain ⟨_,i',c',h5,h6⟩:=h
     have:=hi.inj i i' b c c' h2 h6
     subst this
     exact absurd (List.mem_of_getElem? h1) h5
   · exact h3
 · obtain ⟨i,h1,h2⟩:=back j _ hj
   obtain ⟨i',h3,h4⟩:=back k _ hk
   have:=hi.inj i i' b c c' h2 h4
   subst this
   exact nodup_get hnd h1 h3
 · obtain ⟨i,h1,h2⟩:=back j _ he
   simp only [pH,List.getElem?_map,h1,Option.map_some,Option.some.injEq] at ho
   subst ho
   have h3:=hlt i (List.mem_of_getElem? h1)
   have:=hi.obj i H[i] e (List.getElem?_eq_getElem h3) h2
   rw [List.getElem?_eq_getElem h3]
   exact po_spec hi hlt this
theorem pass_step {m:Nat} {γ:Gm} {σ:Sg} {w:World} {H:List AObj} (l:List Nat) (bor:Bool) (hi:Inv γ σ w H) (hlt:∀ i ∈ l,i<H.length) (hm:∀ i,i<m→l[i]?=some i):Step m γ σ w (gb bor γ σ w l) (sl σ l) w:=by
 have hlt':∀ i ∈ l,i<σ.length:=fun i h=>by rw [hi.len];exact hlt i h
 have hb:∀ b,Blks (sl σ l) b→Blks σ b:=by
  rintro b ⟨j,c,hj⟩
  simp only [sl,List.getElem?_map,Option.map_eq_some_iff] at hj
  obtain ⟨i,h1,h2⟩:=hj
  have:=hlt' i (List.mem_of_getElem? h1)
  rw [List.getElem?_eq_getElem this] at h2
  exact ⟨i,c,by rw [List.getElem?_eq_getElem this];simpa using h2⟩
 refine ⟨gb_le hi,Nat.le_refl _,fun b hlt2 hnb=>⟨rfl,?_⟩,fun b h=>.inl (hb b h),rfl,rfl,rfl,Nat.le_refl _,fun i e him he=>.inl ?_⟩
 · unfold gb
   rw [if_neg]
   rintro ⟨_,i,c,_,hs⟩
   exact hnb ⟨i,c,hs⟩
 · rw [sl_get (hm i him) (hlt' i (List.mem_of_getElem? (hm i him)))];exact he
theorem Ent.pass {m:Nat} {N:FN} {fr fr':List (Nat × AV)} {H:List AObj} (l:List Nat) (bor:Bool) (n:Nat) (hlt:∀ i ∈ l,i<H.length) (hnd:l.Nodup) (hm:∀ i,i<m→l[i]?=some i)
 (hfr:∀ t,get fr' t=.junk∨get fr' t=pa H l bor n (get fr t)):Ent m N ⟨fr,H⟩ ⟨fr',pH H l bor n⟩:=by
 intro γ σ w a hr
 have hi:=hr.inv
 refine ⟨gb bor γ σ w l,sl σ l,pass_step l bor hi hlt hm,⟨inv_pass hi hlt hnd n,fun t=>?_,hr.defers.step (pass_step l bor hi hlt hm),hr.size⟩⟩
 rcases hfr t with h | h <;> simp only [h]
 · simp [RepV]
 · exact pa_spec hi hlt n _ _ (hr.fr t)
def Weak (x y:AV):Prop:=∀ γ σ v,RepV γ σ x v→RepV γ σ y v
theorem Weak.refl (x:AV):Weak x x:=fun _ _ _ h=>h
theorem weak_nil {sz:Nat}:Weak (.raw (.slice none 0 0)) (.view sz []):=fun γ σ v h=>by
 simp only [RepV] at h
 subst h
 exact ⟨none,0,0,[],rfl,rfl,rfl,Nat.le_refl _,by simp [maxLen],by simp,by simp⟩
def keepQ (m:Nat) (Q:AV→List AObj→Prop) (r:AV) (H:List AObj):Prop:=∃ (ids:List Nat) (bor:Bool) (r':AV),ids.all (· < H.length)=true∧ids.Nodup∧ids.take m=List.range m∧Weak (pa H ids bor 8 r) r'∧Q r' (pH H ids bor 8)
theorem ACalls.keep {P:Program} {f:FuncId} {args:List AV} {H:List AObj} {Q:AV→List AObj→Prop} (h:ACalls P f args H (keepQ H.length Q)):ACalls P f args H Q:=by
 refine ⟨h.1,fun γ σ w vs hi hv=>(h.2 γ σ w vs hi hv).mono ?_⟩
 rintro e w' ⟨v,γ',σ',r,H',he,hst,hi',hr,ids,bor,r',h1,h2,h3,hw,h4⟩
 have hlt:∀ i ∈ ids,i<H'.length:=by simpa using h1
 refine ⟨v,_,_,r',_,he,hst.trans (pass_step ids bor hi' hlt fun i hi=>?_),inv_pass hi' hlt h2 8,hw _ _ _ (pa_spec hi' hlt 8 r v hr),h4⟩
 have h5:(ids.take H.length)[i]?=some i:=by rw [h3];simp [hi]
 rwa [List.getElem?_take,if_pos hi] at h5
theorem Ent.ghost {m:Nat} {N:FN} {fr:List (Nat × AV)} {H:List AObj} (t:Nat) (E:TypeId) (sz:Nat) (h0:0<sz) (h:get fr t=.raw (.slice none 0 0)):Ent m N ⟨fr,H⟩ ⟨(t,.slc H.length sz 0)::fr,H++[.arr E sz []]⟩:=by
 intro γ σ w a hr
 have hi:=hr.inv
 have hnew:∀ (i:Nat) e,(σ++[some (none,0)])[i]?=some e→σ[i]?=some e∨(i=σ.length∧e=some (none,0)):=by
  intro i e hi
  rw [List.getElem?_append] at hi
  split at hi
  · exact .inl hi
  · have:i - σ.length=0:=by
     rcases Nat.eq_zero_or_pos (i - σ.length) with h0 | h0
     · exact h0
     · rw [List.getElem?_eq_none (by simp;omega)] at hi;cases hi
    rw [this] at hi
    simp at hi
    exact .inr ⟨by omega,hi.symm⟩
 have hst:Step m γ σ w γ (σ++[some (none,0)]) w:=by
  refine ⟨fun _ _ h=>h,Nat.le_refl _,fun _ _ _=>⟨rfl,rfl⟩,?_,rfl,rfl,rfl,Nat.le_refl _,fun i e _ h=>Sg.le_append _ _ i e h⟩
  rintro b ⟨i,c,hs⟩
  rcases hnew i _ hs with h1 | ⟨_,h1⟩
  · exact .inl ⟨i,c,h1⟩
  · cases h1
 refine ⟨γ,σ++[some (none,0)],hst,⟨⟨hi.mem,?_,?_,by simp [hi.len],?_,hi.glob⟩,?_,hr.defers.step hst,hr.size⟩⟩
 · intro i b c hs
   rcases hnew i _ hs with h1 | ⟨_,h1⟩
   · exact hi.own i b c h1
   · cases h1
 · intro i j b c c' h1 h2
   rcases hnew i _ h1 with h1 | ⟨_,h1⟩
   · rcases hnew j _ h2 with h2 | ⟨_,h2⟩
     · exact hi.inj i j b c c' h1 h2
     · cases h2
   · cases h1
 · intro i o e ho he
   rcases hnew i _ he with h1 | ⟨rfl,rfl⟩
   · have hlt:i<H.length:=by rw [← hi.len];exact (List.getElem?_eq_some_iff.1 h1).1
     rw [List.getElem?_append_left hlt] at ho
     exact (hi.obj i o e ho h1).mono (fun _ _ h=>h) (Sg.le_append _ _) fun _ _ _=>rfl
   · rw [List.getElem?_append_right (by rw [hi.len];exact Nat.le_refl _)] at ho
     rw [hi.len,Nat.sub_self] at ho
     simp at ho
     subst ho
     exact ⟨[],by simp [RepVs],by simp,h0,by simp,by simp [flat],.inl ⟨rfl,by simp [flat]⟩⟩
 · refine repF_set (repF_mono hr.fr (fun _ _ h=>h) (Sg.le_append _ _)) h fun v hv=>?_
   simp only [RepV] at hv
   subst hv
   exact ⟨some (none,0),by rw [← hi.len];simp,rfl,fun blk cap he=>by cases he;simp⟩
end
end Go.Al
namespace Go.Al
def rho (l:List Nat) (n i:Nat):Nat:=match l[i]? with | some j=>j | none=>n+(i - l.length)
mutual
def ren (ρ:Nat→Nat):AV→AV
 | .slc id sz n=>.slc (ρ id) sz n
 | .op id off=>.op (ρ id) off
 | .ep id sz i off=>.ep (ρ id) sz i off
 | .mp id=>.mp (ρ id)
 | .itr id=>.itr (ρ id)
 | .yld id=>.yld (ρ id)
 | .sub id sz off n=>.sub (ρ id) sz off n
 | .agg xs=>.agg (renL ρ xs)
 | .tup xs=>.tup (renL ρ xs)
 | .fn f a b=>.fn f (renL ρ a) (renL ρ b)
 | .ifc t x=>.ifc t (ren ρ x)
 | .int k n=>.int k n
 | .bool b=>.bool b
 | .str s=>.str s
 | .raw v=>.raw v
 | .junk=>.junk
 | .bad=>.bad
 | .view sz xs=>.view sz xs
 | .vp cs=>.vp cs
 | .mview ks vs=>.mview ks vs
 | .full sz xs=>.full sz xs
def renL (ρ:Nat→Nat):List AV→List AV
 | []=>[]
 | x::xs=>ren ρ x::renL ρ xs
end
mutual
def nov:AV→Bool
 | .agg xs=>novL xs
 | .tup xs=>novL xs
 | .fn f a b=>novL a && novL b
 | .ifc t x=>nov x
 | .view sz xs=>xs.isEmpty
 | .vp _ | .mview _ _ | .full _ _=>false
 | .int _ _ | .bool _ | .str _ | .raw _ | .junk | .bad | .slc _ _ _ | .op _ _ | .ep _ _ _ _ | .mp _ | .itr _ | .yld _ | .sub _ _ _ _=>true
def novL:List AV→Bool
 | []=>true
 | x::xs=>nov x && novL xs
end
def renO (ρ:Nat→Nat):AObj→AObj
 | .box cs=>.box (renL ρ cs)
 | .arr E sz xs=>.arr E sz (renL ρ xs)
 | .map ks vs bs c=>.map (renL ρ ks) (renL ρ vs) bs c
 | .mit none b c d=>.mit none b c d
 | .mit (some id) b c d=>.mit (some (ρ id)) b c d
 | .lost=>.lost
 | .sit s p=>.sit s p
 | .dead=>.dead
 | .loop st pd fr n fn ps as bd=>.loop st pd (fr.map fun p=>(p.1,ren ρ p.2)) n fn ps as bd
def novO:AObj→Bool
 | .box cs=>novL cs
 | .arr _ _ xs=>novL xs
 | .map ks vs _ _=>novL ks && novL vs
 | .loop _ _ fr _ _ _ _ _=>fr.all fun p=>nov p.2
 | _=>true
def setAll {α:Type}:List α→List Nat→List α→List α
 | xs,i::l,y::ys=>setAll (xs.set i y) l ys
 | xs,_,_=>xs
def merge {α:Type} (f:α→α) (xs:List α) (l:List Nat) (ys:List α):List α:=setAll xs l ((ys.take l.length).map f)++(ys.drop l.length).map f
section
variable {α:Type}
theorem setAll_length:∀ (l:List Nat) (xs ys:List α),(setAll xs l ys).length=xs.length
 | [],xs,ys=>by cases ys <;> rfl
 | i::l,xs,[]=>rfl
 | i::l,xs,y::ys=>by simp only [setAll];rw [setAll_length l];simp
theorem setAll_other:∀ (l:List Nat) (xs ys:List α) (i:Nat),i ∉ l→(setAll xs l ys)[i]?=xs[i]?
 | [],xs,ys,i,_=>by cases ys <;> rfl
 | j::l,xs,[],i,_=>rfl
 | j::l,xs,y::ys,i,h=>by
   simp only [List.mem_cons,not_or] at h
   simp only [setAll]
   rw [setAll_other l _ _ _ h.2,List.getElem?_set_ne (by omega)]
theorem setAll_get:∀ (l:List Nat) (xs ys:List α) (i j:Nat),l.Nodup→(∀ i ∈ l,i<xs.length)→l[j]?=some i→j<ys.length→(setAll xs l ys)[i]?=ys[j]?
 | [],_,_,_,_,_,_,h,_=>by simp at h
 | k::l,xs,[],_,_,_,_,_,h=>by simp at h
 | k::l,xs,y::ys,i,0,hn,hl,h,_=>by
   simp at h;subst h
   simp only [setAll]
   rw [setAll_other l _ _ _ (List.nodup_cons.1 hn).1]
   have:=hl k (by simp)
   simp [this]
 | k::l,xs,y::ys,i,j+1,hn,hl,h,hj=>by
   simp at h
   simp only [setAll]
   rw [setAll_get l _ ys i j (List.nodup_cons.1 hn).2 (fun i hi=>by rw [List.length_set];exact hl i (by simp [hi])) h (by simpa using hj)]
   simp
theorem merge_length (f:α→α) (xs:List α) (l:List Nat) (ys:List α):(merge f xs l ys).length=xs.length+(ys.length - l.length):=by
 simp [merge,setAll_length]
theorem merge_rho (f:α→α) {xs:List α} {l:List Nat} {ys:List α} (hn:l.Nodup) (hl:∀ i ∈ l,i<xs.length) (hle:l.length≤ys.length) (j:Nat):(merge f xs l ys)[rho l xs.length j]?=(ys[j]?).map f:=by
 unfold merge rho
 cases h:l[j]? with
 | some i =>
   have hj:=(List.getElem?_eq_some_iff.1 h).1
   have hi:=hl i (List.mem_of_getElem? h)
   simp only []
   rw [List.getElem?_append_left (by rw [setAll_length];exact hi),setAll_get l xs _ i j hn hl h (by simp;omega)]
   simp [hj]
 | none =>
   have hj:=List.getElem?_eq_none_iff.1 h
   simp only []
   rw [List.getElem?_append_right (by rw [setAll_length];omega),setAll_length]
   simp only [List.getElem?_map,List.getElem?_drop]
   congr 2
   omega
theorem merge_other (f:α→α) {xs:List α} {l:List Nat} {ys:List α} {i:Nat} (h:i<xs.length) (hi:i ∉ l):(merge f xs l ys)[i]?=xs[i]?:=by
 unfold merge
 rw [List.getElem?_append_left (by rw [setAll_length];exact h),setAll_other l xs _ i hi]
theorem merge_cases (f:α→α) {xs:List α} {l:List Nat} {ys:List α} (hle:l.length≤ys.length) {i:Nat} (h:i<(merge f xs l ys).length):(i<xs.length∧i ∉ l)∨∃ j,j<ys.length∧i=rho l xs.length j:=by
 rw [merge_length] at h
 by_cases h1:i<xs.length
 · by_cases h2:i ∈ l
   · obtain ⟨j,hj,rfl⟩:=List.getElem_of_mem h2
     exact .inr ⟨j,by omega,by simp [rho,hj]⟩
   · exact .inl ⟨h1,h2⟩
 · refine .inr ⟨l.length+(i - xs.length),by omega,?_⟩
   unfold rho
   rw [List.getElem?_eq_none (by omega)]
   simp only []
   omega
end
section
variable {γ γ':Gm} {σ σ':Sg}
mutual
theorem RepV.ren {ρ:Nat→Nat} (hs:∀ (i:Nat) e,σ[i]?=some e→σ'[ρ i]?=some e):∀ (x:AV) (v:Value),RepV γ σ x v→RepV γ σ' (Go.Al.ren ρ x) v
 | .int ..,_,h=>h
 | .bool ..,_,h=>h
 | .str ..,_,h=>h
 | .raw ..,_,h=>h
 | .junk,_,h=>h
 | .bad,_,h=>h
 | .view ..,_,h=>h
 | .vp ..,_,h=>h
 | .mview ..,_,h=>h
 | .full ..,_,h=>h
 | .slc ..,_,⟨e,h1,h2⟩=>⟨e,hs _ _ h1,h2⟩
 | .op ..,_,⟨e,h1,h2⟩=>⟨e,hs _ _ h1,h2⟩
 | .ep ..,_,⟨e,h1,h2⟩=>⟨e,hs _ _ h1,h2⟩
 | .mp ..,_,⟨e,h1,h2⟩=>⟨e,hs _ _ h1,h2⟩
 | .itr ..,_,⟨e,h1,h2⟩=>⟨e,hs _ _ h1,h2⟩
 | .yld ..,_,⟨e,h1,h2⟩=>⟨e,hs _ _ h1,h2⟩
 | .sub ..,_,⟨e,h1,h2⟩=>⟨e,hs _ _ h1,h2⟩
 | .agg xs,_,⟨vs,h1,h2,h3⟩=>⟨vs,h1,RepVs.ren hs xs vs h2,h3⟩
 | .tup xs,_,⟨vs,h1,h2⟩=>⟨vs,h1,RepVs.ren hs xs vs h2⟩
 | .fn f a b,_,⟨fv,cv,h1,h2,h3⟩=>⟨fv,cv,h1,RepVs.ren hs a fv h2,RepVs.ren hs b cv h3⟩
 | .ifc t x,_,⟨u,h1,h2⟩=>⟨u,h1,RepV.ren hs x u h2⟩
theorem RepVs.ren {ρ:Nat→Nat} (hs:∀ (i:Nat) e,σ[i]?=some e→σ'[ρ i]?=some e):∀ (xs:List AV) (vs:List Value),RepVs γ σ xs vs→RepVs γ σ' (renL ρ xs) vs
 | [],_,h=>h
 | x::xs,_,⟨v,vs',h1,h2,h3⟩=>⟨v,vs',h1,RepV.ren hs x v h2,RepVs.ren hs xs vs' h3⟩
end
mutual
theorem RepV.nov:∀ (x:AV) (v:Value),Go.Al.nov x=true→RepV γ σ x v→RepV γ' σ x v
 | .int ..,_,_,h=>h
 | .bool ..,_,_,h=>h
 | .str ..,_,_,h=>h
 | .raw ..,_,_,h=>h
 | .junk,_,_,h=>h
 | .bad,_,_,h=>h
 | .vp ..,_,hn,h=>by simp [Go.Al.nov] at hn
 | .mview ..,_,hn,h=>by simp [Go.Al.nov] at hn
 | .full ..,_,hn,h=>by simp [Go.Al.nov] at hn
 | .view sz xs,_,hn,h=>by
   simp [Go.Al.nov] at hn
   subst hn
   obtain ⟨a,n,c,vs,h1,h2,h3,h4,h5,h6,h7⟩:=h
   rw [repVs_nil] at h2
   subst h2
   simp at h3
   exact ⟨a,n,c,[],h1,by simp [RepVs],by simp [h3],h4,h5,by simp,fun hn=>absurd h3.symm hn⟩
 | .slc ..,_,_,h=>h
 | .op ..,_,_,h=>h
 | .ep ..,_,_,h=>h
 | .mp ..,_,_,h=>h
 | .itr ..,_,_,h=>h
 | .yld ..,_,_,h=>h
 | .sub ..,_,_,h=>h
 | .agg xs,_,hn,⟨vs,h1,h2,h3⟩=>⟨vs,h1,RepVs.nov xs vs hn h2,h3⟩
 | .tup xs,_,hn,⟨vs,h1,h2⟩=>⟨vs,h1,RepVs.nov xs vs hn h2⟩
 | .fn f a b,_,hn,⟨fv,cv,h1,h2,h3⟩=>by
   simp only [Go.Al.nov,Bool.and_eq_true] at hn
   exact ⟨fv,cv,h1,RepVs.nov a fv hn.1 h2,RepVs.nov b cv hn.2 h3⟩
 | .ifc t x,_,hn,⟨u,h1,h2⟩=>⟨u,h1,RepV.nov x u hn h2⟩
theorem RepVs.nov:∀ (xs:List AV) (vs:List Value),novL xs=true→RepVs γ σ xs vs→RepVs γ' σ xs vs
 | [],_,_,h=>h
 | x::xs,_,hn,⟨v,vs',h1,h2,h3⟩=>by
   simp only [novL,Bool.and_eq_true] at hn
   exact ⟨v,vs',h1,RepV.nov x v hn.1 h2,RepVs.nov xs vs' hn.2 h3⟩
end
theorem renL_length (ρ:Nat→Nat):∀ (xs:List AV),(renL ρ xs).length=xs.length
 | []=>rfl
 | x::xs=>by simp [renL,renL_length ρ xs]
theorem RepO.ren {w:World} {ρ:Nat→Nat} (hs:∀ (i:Nat) e,σ[i]?=some e→σ'[ρ i]?=some e) {e:Option (Option Nat × Nat)} {o:AObj} (h:RepO γ σ w e o):RepO γ σ' w e (renO ρ o):=by
 unfold RepO at h
 split at h
 · obtain ⟨vs,E,h1,h2,h3⟩:=h
   exact ⟨vs,E,h1,RepVs.ren hs _ _ h2,h3⟩
 · obtain ⟨vs,h1,h2,h3,h4,h5⟩:=h
   refine repO_arr.2 ⟨vs,RepVs.ren hs _ _ h1,h2,h3,by rw [renL_length];exact h4,by rw [renL_length];exact h5⟩
 · obtain ⟨kv,vv,h1,h2,h3⟩:=h
   exact ⟨kv,vv,RepVs.ren hs _ _ h1,RepVs.ren hs _ _ h2,h3⟩
 · exact h
 · trivial
 · exact h
 · obtain ⟨e,h1,h2⟩:=h
   exact ⟨e,hs _ _ h1,h2⟩
 · obtain ⟨tmps,D,h1,h2,h3⟩:=h
   exact ⟨tmps,D,h1,repF_map (fun x v hv=>RepV.ren hs x v hv) h2,h3⟩
 · exact repO_lost _
 · exact h.elim
theorem get_nov:∀ {fr:List (Nat × AV)} {t:Nat},(fr.all fun p=>Go.Al.nov p.2)=true→Go.Al.nov (get fr t)=true
 | [],t,_=>rfl
 | (d,x)::fr,t,h=>by
   simp only [List.all_cons,Bool.and_eq_true] at h
   simp only [get]
   split
   · exact h.1
   · exact get_nov h.2
theorem RepO.nov {w:World} {e:Option (Option Nat × Nat)} {o:AObj} (hn:novO o=true) (h:RepO γ σ w e o):RepO γ' σ w e o:=by
 unfold RepO at h
 split at h
 · obtain ⟨vs,E,h1,h2,h3⟩:=h
   exact ⟨vs,E,h1,RepVs.nov _ _ hn h2,h3⟩
 · obtain ⟨vs,h1,h2,h3,h4,h5⟩:=h
   exact repO_arr.2 ⟨vs,RepVs.nov _ _ hn h1,h2,h3,h4,h5⟩
 · obtain ⟨kv,vv,h1,h2,h3⟩:=h
   simp only [novO,Bool.and_eq_true] at hn
   exact ⟨kv,vv,RepVs.nov _ _ hn.1 h1,RepVs.nov _ _ hn.2 h2,h3⟩
 · exact h
 · trivial
 · exact h
 · exact h
 · obtain ⟨tmps,D,h1,h2,h3⟩:=h
   exact ⟨tmps,D,h1,fun t=>RepV.nov _ _ (get_nov hn) (h2 t),h3⟩
 · exact repO_lost _
 · exact h.elim
end
open Classical in
theorem ACalls.pass_calls {P:Program} {f:FuncId} {args:List AV} {H:List AObj} {Q Q':AV→List AObj→Prop} (l:List Nat) (bor:Bool) (n:Nat) (hlt:∀ i ∈ l,i<H.length) (hnd:l.Nodup)
 (hc:ACalls P f (args.map (pa H l bor n)) (pH H l bor n) Q')
 (hq:∀ r H',Q' r H'→(bor=true→nov r=true∧H'.all novO=true)∧Q (ren (rho l H.length) r) (merge (fun o=>o) H l (H'.map (renO (rho l H.length)))))
 {γ:Gm} {σ:Sg} {w:World} {vs:List Value} (hi:Inv γ σ w H) (hv:RepVs γ σ args vs):Calls P f vs.toArray w fun e w' =>
  ∃ v γ' σ' r H',e=.returned v∧Step H.length γ σ w γ' σ' w'∧Inv γ' σ' w' H'∧RepV γ' σ' r v∧Q r H'∧∀ b,b<w.heap.size→¬ Blks (sl σ l) b→w'.heap[b]?=w.heap[b]?:=by
 have hlen:l.length=(pH H l bor n).length:=by simp [pH]
 have hlt':∀ i ∈ l,i<σ.length:=fun i h=>by rw [hi.len];exact hlt i h
 refine (hc.2 _ _ w vs (inv_pass hi hlt hnd n) (RepVs.of_map (fun x _ v hx=>pa_spec hi hlt n x v hx) hv)).mono ?_
 rintro e w1 ⟨v,γ1,σ1,r,H',rfl,hst,hi1,hr,hq'⟩
 obtain ⟨hnv,hQ⟩:=hq r H' hq'
 have hsl:l.length≤σ1.length:=by
  rcases Nat.eq_zero_or_pos l.length with h0 | h0
  · omega
  · have hj:(sl σ l)[l.length - 1]?=some ((sl σ l)[l.length - 1]'(by simp [sl];omega)):=List.getElem?_eq_getElem _
    rcases hst.low (l.length - 1) _ (by omega) hj with h | h <;> have:=(List.getElem?_eq_some_iff.1 h).1 <;> omega
 let ρ:=rho l H.length
 let σ2:=merge (fun o=>o) σ l σ1
 let lent:Nat→Prop:=fun b=>bor=true∧∃ (i:Nat) (c:Nat),i ∉ l∧σ[i]?=some (some (some b,c))
 let γ2:Gm:=fun b=>if lent b then none else γ1 b
 have hρ:ρ=rho l σ.length:=by simp only [ρ,hi.len]
 have s1:∀ j,σ2[ρ j]?=σ1[j]?:=fun j=>by
  rw [hρ]
  have:=merge_rho (fun o=>o) (xs:=σ) (ys:=σ1) hnd hlt' hsl j
  simpa using this
 have s2:∀ i,i<σ.length→i ∉ l→σ2[i]?=σ[i]?:=fun i h1 h2=>merge_other _ h1 h2
 have s3:∀ i,i<σ2.length→(i<σ.length∧i ∉ l)∨∃ j,j<σ1.length∧i=ρ j:=fun i h=>by
  rw [hρ];exact merge_cases _ hsl h
 have sle:Sg.le σ σ2:=fun i en hen=>by
  by_cases hil:i ∈ l
  · obtain ⟨j,hj,hji⟩:=List.getElem_of_mem hil
    have hj':l[j]?=some i:=by rw [List.getElem?_eq_getElem hj,hji]
    have hρj:ρ j=i:=by simp only [ρ,rho,hj']
    rw [← hρj,s1 j]
    refine hst.low j en (by omega) ?_
    rw [sl_get hj' (hlt' i hil)];exact hen
  · rw [s2 i (List.getElem?_eq_some_iff.1 hen).1 hil];exact .inl hen
 have blkl:∀ b,Blks (sl σ l) b→∃ (i:Nat) (c:Nat),i ∈ l∧σ[i]?=some (some (some b,c)):=by
  rintro b ⟨j,c,hj⟩
  simp only [sl,List.getElem?_map,Option.map_eq_some_iff] at hj
  obtain ⟨i,h1,h2⟩:=hj
  have:=hlt' i (List.mem_of_getElem? h1)
  rw [List.getElem?_eq_getElem this] at h2
  exact ⟨i,c,List.mem_of_getElem? h1,by rw [List.getElem?_eq_getElem this];simpa using h2⟩
 have apart:∀ (i b c:Nat),i ∉ l→σ[i]?=some (some (some b,c))→¬ Blks (sl σ l) b:=by
  intro i b c hil hs hb
  obtain ⟨i',c',h1,h2⟩:=blkl b hb
  have:=hi.inj i i' b c c' hs h2
  subst this
  exact hil h1
 have gle:γ.le γ2:=fun b o hb=>by
  show (if lent b then none else γ1 b)=some o
  rw [if_neg]
  · exact hst.le b o (gb_le hi b o hb)
  · rintro ⟨_,i,c,_,hs⟩
    have:=(hi.own i b c hs).1
    rw [hb] at this;cases this
 have g21:∀ b,γ1 b=none→γ2 b=none:=fun b hb=>by
  show (if lent b then none else γ1 b)=none
  split
  · rfl
  · exact hb
 have rr:∀ (x:AV) (v:Value),(bor=true→nov x=true)→RepV γ1 σ1 x v→RepV γ2 σ2 (ren ρ x) v:=by
  intro x v hx h
  have h2:RepV γ2 σ1 x v:=by
   cases hb:bor with
   | true=>exact RepV.nov x v (hx hb) h
   | false =>
     have:γ2=γ1:=by
      funext b
      show (if lent b then none else γ1 b)=γ1 b
      rw [if_neg]
      rintro ⟨h,_⟩
      rw [hb] at h;cases h
     rw [this];exact h
  exact RepV.ren (fun i e he=>by rw [s1];exact he) x v h2
 refine ⟨v,γ2,σ2,ren ρ r,merge (fun o=>o) H l (H'.map (renO ρ)),rfl,⟨gle,hst.size,fun b hb hnb=>?_,fun b hb=>?_,hst.os,hst.tape,hst.output,hst.drawn,fun i en _ hen=>sle i en hen⟩,⟨fun b o hb=>?_,fun i b c hs=>?_,fun i j b c c' h1 h2=>?_,?_,fun i o en ho he=>?_,hi.glob.mono gle⟩,rr r v (fun hb=>(hnv hb).1) hr,hQ,fun b hb hnb=>(hst.keep b hb hnb).1⟩
 · have hnb':¬ Blks (sl σ l) b:=fun h=>by
    obtain ⟨i,c,_,h2⟩:=blkl b h
    exact hnb ⟨i,c,h2⟩
   obtain ⟨h1,h2⟩:=hst.keep b hb hnb'
   refine ⟨h1,?_⟩
   show (if lent b then none else γ1 b)=γ b
   have hnl:¬ lent b:=by
    rintro ⟨_,i,c,_,hs⟩
    exact hnb ⟨i,c,hs⟩
   rw [if_neg hnl,h2]
   unfold gb
   rw [if_neg hnl]
 · obtain ⟨i,c,hs⟩:=hb
   rcases s3 i (List.getElem?_eq_some_iff.1 hs).1 with ⟨h1,h2⟩ | ⟨j,_,rfl⟩
   · rw [s2 i h1 h2] at hs
     exact .inl ⟨i,c,hs⟩
   · rw [s1] at hs
     rcases hst.own b ⟨j,c,hs⟩ with h | h
     · obtain ⟨i',c',_,h4⟩:=blkl b h
       exact .inl ⟨i',c',h4⟩
     · exact .inr h
 · have:(if lent b then none else γ1 b)=some o:=hb
   split at this
   · cases this
   · exact hi1.mem b o this
 · rcases s3 i (List.getElem?_eq_some_iff.1 hs).1 with ⟨h1,h2⟩ | ⟨j,_,rfl⟩
   · rw [s2 i h1 h2] at hs
     obtain ⟨h3,h4⟩:=hi.own i b c hs
     refine ⟨?_,Nat.lt_of_lt_of_le h4 hst.size⟩
     show (if lent b then none else γ1 b)=none
     split
     · rfl
     · rename_i hnl
       rw [(hst.keep b h4 (apart i b c h2 hs)).2]
       unfold gb
       rw [if_neg hnl]
       exact h3
   · rw [s1] at hs
     obtain ⟨h3,h4⟩:=hi1.own j b c hs
     exact ⟨g21 b h3,h4⟩
 · have cross:∀ (i b c j c':Nat),i<σ.length→i ∉ l→σ[i]?=some (some (some b,c))→σ1[j]?=some (some (some b,c'))→False:=by
    intro i b c j c' h1 h2 hs hj
    rcases hst.own b ⟨j,c',hj⟩ with h | h
    · exact apart i b c h2 hs h
    · have:=(hi.own i b c hs).2;omega
   rcases s3 i (List.getElem?_eq_some_iff.1 h1).1 with ⟨h3,h4⟩ | ⟨j1,_,rfl⟩ <;> rcases s3 j (List.getElem?_eq_some_iff.1 h2).1 with ⟨h5,h6⟩ | ⟨j2,_,rfl⟩
   · rw [s2 i h3 h4] at h1
     rw [s2 j h5 h6] at h2
     exact hi.inj i j b c c' h1 h2
   · rw [s2 i h3 h4] at h1
     rw [s1] at h2
     exact (cross i b c j2 c' h3 h4 h1 h2).elim
   · rw [s2 j h5 h6] at h2
     rw [s1] at h1
     exact (cross j b c' j1 c h5 h6 h2 h1).elim
   · rw [s1] at h1 h2
     rw [hi1.inj j1 j2 b c c' h1 h2]
 · simp only [σ2,merge_length,List.length_map,hi.len,hi1.len]
 · rcases s3 i (List.getElem?_eq_some_iff.1 he).1 with ⟨h1,h2⟩ | ⟨j,hj,rfl⟩
   · rw [s2 i h1 h2] at he
     rw [merge_other _ (by rw [← hi.len];exact h1) h2] at ho
     refine (hi.obj i o en ho he).mono gle sle fun b c hb=>?_
     subst hb
     exact (hst.keep b (hi.own i b c he).2 (apart i b c h2 he)).1
   · rw [s1] at he
     rw [merge_rho _ hnd hlt (by rw [List.length_map,← hi1.len];exact hsl)] at ho
     simp only [List.getElem?_map,Option.map_map] at ho
     obtain ⟨o',ho',rfl⟩:=Option.map_eq_some_iff.1 ho
     have hrep:=hi1.obj j o' en ho' he
     have h2:RepO γ2 σ1 w1 en o':=by
      cases hb:bor with
      | true =>
        have:=(hnv hb).2
        rw [List.all_eq_true] at this
        exact hrep.nov (this o' (List.mem_of_getElem? ho'))
      | false =>
        have:γ2=γ1:=by
         funext b
         show (if lent b then none else γ1 b)=γ1 b
         rw [if_neg]
         rintro ⟨h,_⟩
         rw [hb] at h;cases h
        rw [this];exact hrep
     exact h2.ren (ρ:=ρ) fun i e he=>by rw [s1];exact he
theorem ACalls.pass {P:Program} {f:FuncId} {args:List AV} {H:List AObj} {Q Q':AV→List AObj→Prop} (l:List Nat) (bor:Bool) (n:Nat) (hlt:∀ i ∈ l,i<H.length) (hnd:l.Nodup)
 (hc:ACalls P f (args.map (pa H l bor n)) (pH H l bor n) Q')
 (hq:∀ r H',Q' r H'→(bor=true→nov r=true∧H'.all novO=true)∧Q (ren (rho l H.length) r) (merge (fun o=>o) H l (H'.map (renO (rho l H.length))))):ACalls P f args H Q :=
 ⟨hc.1,fun γ σ w vs hi hv=>(ACalls.pass_calls l bor n hlt hnd hc hq hi hv).mono fun e w' ⟨v,γ',σ',r,H',h1,h2,h3,h4,h5,_⟩=>⟨v,γ',σ',r,H',h1,h2,h3,h4,h5⟩⟩
end Go.Al
namespace Go.Al
inductive EqT where
 | int | bool | str | ptr | slc
 | agg (ps:List (Nat × Bool × Nat × EqT))
def isNil (H:List AObj):AV→Option Bool
 | .raw (.pointer none)=>some true
 | .vp _=>some false
 | .op id off=>match H[id]? with | some (.box _)=>some false | _=>none
 | .ep id sz i off=>match H[id]? with | some (.arr _ _ (_::_))=>some false | _=>none
 | _=>none
def ptrEq (H:List AObj) (x y:AV):Option Bool:=match isNil H x,isNil H y with
 | some true,some b=>some b
 | some false,some true=>some false
 | _,_=>none
def slcNil:AV→AV→Option Bool
 | .view _ (_::_),.raw (.slice none 0 0)=>some false
 | .raw (.slice a _ _),.raw (.slice none 0 0)=>some a.isNone
 | _,_=>none
mutual
def eqA (H:List AObj):EqT→AV→AV→Option Bool
 | .int,.int k a,.int k' b=>if k=k' then some (decide (a=b)) else none
 | .bool,.bool a,.bool b=>some (a == b)
 | .str,.str a,.str b=>some (decide (a=b))
 | .ptr,x,y=>ptrEq H x y
 | .slc,x,y=>slcNil x y
 | .agg ps,.agg xs,.agg ys=>eqL H ps xs ys
 | _,_,_=>none
def eqL (H:List AObj):List (Nat × Bool × Nat × EqT)→List AV→List AV→Option Bool
 | [],_,_=>some true
 | (off,agg,size,t)::r,xs,ys=>match eqP H agg size off t xs ys,eqL H r xs ys with
   | some a,some b=>some (a && b)
   | _,_=>none
def eqP (H:List AObj) (agg:Bool) (size off:Nat):EqT→List AV→List AV→Option Bool
 | t,xs,ys=>match (if agg then (if off+size≤xs.length then some (AV.agg ((xs.drop off).take size)) else none) else xs[off]?),(if agg then (if off+size≤ys.length then some (AV.agg ((ys.drop off).take size)) else none) else ys[off]?) with
   | some u,some v=>eqA H t u v
   | _,_=>none
end
def eqFs (E:Env) (f:TypeId→Option EqT):List (Nat × TypeId)→Option (List (Nat × Bool × Nat × EqT))
 | []=>some []
 | (off,ty)::r=>match E.TI ty,f ty,eqFs E f r with
   | some i,some q,some l=>some ((off,i.agg,i.size,q)::l)
   | _,_,_=>none
def eqTy (E:Env):Nat→TypeId→Option EqT
 | 0,_=>none
 | d+1,t=>match E.TI t with
   | none=>none
   | some i=>match i.desc with
     | .int _=>some .int
     | .bool=>some .bool
     | .string=>some .str
     | .pointer _=>some .ptr
     | .slice _=>some .slc
     | .array n e=>if i.eq then (match E.TI e,eqTy E d e with
       | some ei,some q=>some (.agg ((List.range n).map fun k=>(k * ei.size,ei.agg,ei.size,q)))
       | _,_=>none) else none
     | .struct fs=>if i.eq then (eqFs E (eqTy E d) fs).map .agg else none
     | _=>none
def eqOf (E:Env) (T:TypeId):Option EqT:=match eqTy E 6 T with
 | some (.agg ps)=>some (.agg ps)
 | some .ptr=>some .ptr
 | some .slc=>some .slc
 | _=>none
section
variable {E:Env} {γ:Gm} {σ:Sg} {w:World} {H:List AObj} {fr:List (Nat × AV)} {a:Act} {R:World→Prop}
theorem isNil_spec (hi:Inv γ σ w H) {x:AV} {u:Value} {b:Bool} (h:isNil H x=some b) (hu:RepV γ σ x u):(b=true→u=.pointer none)∧(b=false→∃ ad,u=.pointer (some ad)):=by
 unfold isNil at h
 split at h
 · cases h
   exact ⟨fun _=>hu,fun h=>(by cases h)⟩
 · cases h
   exact ⟨fun h=>(by cases h),fun _=>op_pointer hi (by rfl) hu⟩
 · rename_i id off
   split at h
   · rename_i cs hH
     cases h
     exact ⟨fun h=>(by cases h),fun _=>op_pointer hi (cs:=cs.drop off) (by simp only [ptrCells,hH]) hu⟩
   · cases h
 · rename_i id sz i off
   split at h
   · rename_i hH
     cases h
     exact ⟨fun h=>(by cases h),fun _=>ep_pointer hi hH hu⟩
   · cases h
 · cases h
theorem ptrEq_spec (hi:Inv γ σ w H) {x y:AV} {u v:Value} {b:Bool} (h:ptrEq H x y=some b) (hu:RepV γ σ x u) (hv:RepV γ σ y v) {T e:TypeId} (hT:E.P.underlying T=some (.pointer e)) (D:Nat) (w':World) :
 (Op.equalIn (D+1) T u v).run E.P w'=.ok b w':=by
 unfold ptrEq at h
 split at h
 · rename_i b' h1 h2
   cases h
   have e1:=(isNil_spec hi h1 hu).1 rfl
   subst e1
   cases b
   · obtain ⟨ad,rfl⟩:=(isNil_spec hi h2 hv).2 rfl
     simp [Op.equalIn,run_underlying hT]
   · obtain rfl:=(isNil_spec hi h2 hv).1 rfl
     simp [Op.equalIn,run_underlying hT]
 · rename_i h1 h2
   cases h
   obtain ⟨ad,rfl⟩:=(isNil_spec hi h1 hu).2 rfl
   obtain rfl:=(isNil_spec hi h2 hv).1 rfl
   simp [Op.equalIn,run_underlying hT]
 · cases h
def EqS (E:Env) (γ:Gm) (σ:Sg) (H:List AObj) (d:Nat) (T:TypeId) (q:EqT):Prop:=∀ {x y:AV} {u v:Value} {b:Bool},eqA H q x y=some b→RepV γ σ x u→RepV γ σ y v→∀ D w',(Op.equalIn (d+D) T u v).run E.P w'=.ok b w'
theorem eqP_run {i:TInfo} {T:TypeId} (hT:InfoOk E.P T i) {d:Nat} {q:EqT} (hq:EqS E γ σ H d T q) {xs ys:List AV} {us vs:List Value} {off:Nat} {b:Bool} (h:eqP H i.agg i.size off q xs ys=some b)
 (hx:RepVs γ σ xs us) (hy:RepVs γ σ ys vs) (h1:∀ u ∈ us,onec u) (h2:∀ u ∈ vs,onec u) (D:Nat) (w':World) :
 ∃ u v,(part T us.toArray off).run E.P w'=.ok u w'∧(part T vs.toArray off).run E.P w'=.ok v w'∧(Op.equalIn (d+D) T u v).run E.P w'=.ok b w':=by
 simp only [eqP] at h
 split at h
 · rename_i u v e1 e2
   obtain ⟨u',hu,hru⟩:=part_run (i:=i) hT hx h1 (off:=off) (x:=u) e1
   obtain ⟨v',hv,hrv⟩:=part_run (i:=i) hT hy h2 (off:=off) (x:=v) e2
   exact ⟨u',v',hru w',hrv w',hq h hu hv D w'⟩
 · cases h
theorem eqItems_run {i:TInfo} {T:TypeId} (hT:InfoOk E.P T i) {d:Nat} {q:EqT} (hq:EqS E γ σ H d T q) {xs ys:List AV} {us vs:List Value}
 (hx:RepVs γ σ xs us) (hy:RepVs γ σ ys vs) (h1:∀ u ∈ us,onec u) (h2:∀ u ∈ vs,onec u) (D:Nat) (w':World) :
 ∀ (is:List Nat) (b:Bool),eqL H (is.map fun k=>(k * i.size,i.agg,i.size,q)) xs ys=some b→(Op.eqItems (d+D) T i.size us.toArray vs.toArray is).run E.P w'=.ok b w'
 | [],b,h=>by
   simp [eqL] at h
   subst h
   simp [Op.eqItems]
 | k::is,b,h=>by
   simp only [List.map_cons,eqL] at h
   split at h
   · rename_i b1 b2 e1 e2
     cases h
     obtain ⟨u,v,p1,p2,p3⟩:=eqP_run hT hq e1 hx hy h1 h2 D w'
     have ih:=eqItems_run hT hq hx hy h1 h2 D w' is b2 e2
     simp only [Op.eqItems,Sem.run_bind,p1,p2,p3,Result.andThen_ok]
     cases b1
     · simp
     · simpa using ih
   · cases h
theorem eqFields_run (hE:E.ok) {d:Nat} (f:TypeId→Option EqT) (hf:∀ T q,f T=some q→EqS E γ σ H d T q) {xs ys:List AV} {us vs:List Value}
 (hx:RepVs γ σ xs us) (hy:RepVs γ σ ys vs) (h1:∀ u ∈ us,onec u) (h2:∀ u ∈ vs,onec u) (D:Nat) (w':World) :
 ∀ (fs : List Field) (ps : List (Nat × Bool × Nat × EqT)) (b : Bool), (∀ g ∈ fs, g.name ≠ "_") → eqFs E f (fs.map fun g => (g.offset, g.type)) = some ps → eqL H ps xs ys = some b → (Op.eqFields (d + D) us.toArray vs.toArray fs).run E.P w' = .ok b w'
 | [],ps,b,_,hp,h=>by
   simp [eqFs] at hp
   subst hp
   simp [eqL] at h
   subst h
   simp [Op.eqFields]
 | g::fs,ps,b,hn,hp,h=>by
   simp only [List.map_cons,eqFs] at hp
   split at hp
   · rename_i i q l hi hq hl
     cases hp
     simp only [eqL] at h
     split at h
     · rename_i b1 b2 e1 e2
       cases h
       obtain ⟨u,v,p1,p2,p3⟩:=eqP_run (hE _ _ hi) (hf _ _ hq) e1 hx hy h1 h2 D w'
       have ih:=eqFields_run hE f hf hx hy h1 h2 D w' fs l b2 (fun g hg=>hn g (by simp [hg])) hl e2
       simp only [Op.eqFields,ne_eq,hn g (by simp),not_false_eq_true,if_true,Sem.run_bind,p1,p2,p3,Result.andThen_ok]
       cases b1
       · simp
       · simpa using ih
     · cases h
   · cases hp
theorem eqA_agg {ps:List (Nat × Bool × Nat × EqT)} {X Y:AV} {b:Bool} (h:eqA H (.agg ps) X Y=some b):∃ xs ys,X=.agg xs∧Y=.agg ys∧eqL H ps xs ys=some b:=by
 cases X <;> cases Y <;> simp [eqA] at h
 exact ⟨_,_,rfl,rfl,h⟩
theorem eqA_int {X Y:AV} {b:Bool} (h:eqA H .int X Y=some b):∃ k m n,X=.int k m∧Y=.int k n∧b=decide (m=n):=by
 cases X <;> cases Y <;> simp [eqA] at h
 obtain ⟨rfl,rfl⟩:=h
 exact ⟨_,_,_,rfl,rfl,rfl⟩
theorem eqA_bool {X Y:AV} {b:Bool} (h:eqA H .bool X Y=some b):∃ m n,X=.bool m∧Y=.bool n∧b=(m == n):=by
 cases X <;> cases Y <;> simp [eqA] at h
 exact ⟨_,_,rfl,rfl,h.symm⟩
theorem eqA_str {X Y:AV} {b:Bool} (h:eqA H .str X Y=some b):∃ m n,X=.str m∧Y=.str n∧b=decide (m=n):=by
 cases X <;> cases Y <;> simp [eqA] at h
 exact ⟨_,_,rfl,rfl,h.symm⟩
theorem eqTy_agg {d:Nat} {T:TypeId} {ps:List (Nat × Bool × Nat × EqT)} (h:eqTy E d T=some (.agg ps)):∃ i,E.TI T=some i∧i.eq=true:=by
 cases d with
 | zero=>cases h
 | succ d =>
   simp only [eqTy] at h
   split at h
   · cases h
   · rename_i i hT
     refine ⟨i,hT,?_⟩
     split at h <;> (try cases h) <;> (split at h) <;> first | assumption | cases h
theorem slcNil_spec {x y:AV} {u v:Value} {b:Bool} {T e:TypeId} (hb:slcNil x y=some b) (hu:RepV γ σ x u) (hv:RepV γ σ y v) (hp:E.P.underlying T=some (.slice e)) (D:Nat) (w':World):(Op.equalIn (D+1) T u v).run E.P w'=.ok b w':=by
 unfold slcNil at hb
 split at hb
 · rename_i sz z zs
   cases hb
   obtain ⟨a,n,c,vs,rfl,h1,h2,h3,h4,h5,h6⟩:=hu
   have hvs:vs≠[]:=by intro e;subst e;simp [RepVs] at h1
   have hn:n≠0:=by intro e;subst e;exact hvs (List.eq_nil_of_length_eq_zero h2)
   obtain ⟨bk,off,rfl,_⟩:=h6 hn
   simp only [RepV] at hv
   subst hv
   simp [Op.equalIn,run_underlying hp]
 · rename_i a n c
   simp only [RepV] at hu hv
   subst hu hv
   cases hb
   cases a <;> simp [Op.equalIn,run_underlying hp]
 · cases hb
theorem eqTy_run (hE:E.ok) (hi:Inv γ σ w H):∀ (d:Nat) (T:TypeId) (q:EqT),eqTy E d T=some q→EqS E γ σ H d T q
 | 0,_,_,h=>by cases h
 | d+1,T,q,h=>by
   rename_i x y u v b
   intro hb hu hv D w'
   rw [show d+1+D=(d+D)+1 by omega]
   simp only [eqTy] at h
   split at h
   · cases h
   · rename_i i hT
     have hI:=hE T i hT
     split at h
     · rename_i k hd
       cases h
       obtain ⟨k',m,n,rfl,rfl,rfl⟩:=eqA_int hb
       simp only [RepV] at hu hv
       subst hu hv
       rw [run_equalIn_int w' (d+D) T _ _ _ _ (hI.int hd)]
       congr 1
     · rename_i hd
       cases h
       obtain ⟨m,n,rfl,rfl,rfl⟩:=eqA_bool hb
       simp only [RepV] at hu hv
       subst hu hv
       rw [run_equalIn_bool w' (d+D) T _ _ (hI.bool hd)]
     · rename_i hd
       cases h
       obtain ⟨m,n,rfl,rfl,rfl⟩:=eqA_str hb
       simp only [RepV] at hu hv
       subst hu hv
       rw [run_equalIn_string w' (d+D) T _ _ (hI.string hd),beq_bytes]
     · rename_i e hd
       cases h
       have hp:E.P.underlying T=some (.pointer e):=by
        obtain ⟨dd,h1,h2⟩:=hI.desc
        rw [hd] at h2
        cases dd <;> simp [toD] at h2 <;> simp [h1,h2]
       exact ptrEq_spec hi (by simpa only [eqA] using hb) hu hv hp (d+D) w'
     · rename_i e hd
       cases h
       have hp:E.P.underlying T=some (.slice e):=by
        obtain ⟨dd,h1,h2⟩:=hI.desc
        rw [hd] at h2
        cases dd <;> simp [toD] at h2 <;> simp [h1,h2]
       exact slcNil_spec (by simpa only [eqA] using hb) hu hv hp (d+D) w'
     · rename_i n e hd
       split at h
       · split at h
         · rename_i ei q' hei hq'
           cases h
           obtain ⟨xs,ys,rfl,rfl,hb'⟩:=eqA_agg hb
           obtain ⟨us,rfl,hx,h1⟩:=hu
           obtain ⟨vs,rfl,hy,h2⟩:=hv
           obtain ⟨inf,z,hinf,hsz,_⟩:=(hE _ _ hei).info
           rw [run_equalIn_array w' (d+D) _ _ (hI.array hd) hinf]
           have:E.P.cellsOf e=ei.size:=by simp [Program.cellsOf,hinf,hsz]
           rw [this]
           exact eqItems_run (hE _ _ hei) (eqTy_run hE hi d e q' hq') hx hy h1 h2 D w' _ _ hb'
         · cases h
       · cases h
     · rename_i fs hd
       split at h
       · rename_i hq
         obtain ⟨ps,hps,rfl⟩:=Option.map_eq_some_iff.1 h
         obtain ⟨fs',hun,hfs⟩:=hI.struct hd
         have heq:=hI.eq hq
         simp only [eqOk,Bool.and_eq_true,Bool.not_eq_true',List.all_eq_true,bne_iff_ne,ne_eq] at heq
         have hfo:E.P.fieldsOf T=fs':=by simp [Program.fieldsOf,hun]
         rw [hfo] at heq
         obtain ⟨xs,ys,rfl,rfl,hb'⟩:=eqA_agg hb
         obtain ⟨us,rfl,hx,h1⟩:=hu
         obtain ⟨vs,rfl,hy,h2⟩:=hv
         rw [run_equalIn_struct w' (d+D) T _ _ (by rw [hfo];exact hun) heq.1.2,hfo]
         exact eqFields_run hE (eqTy E d) (fun T q h=>eqTy_run hE hi d T q h) hx hy h1 h2 D w' _ _ _ (fun g hg=>heq.2 g (by simpa using hg)) (by rw [← hfs] at hps;exact hps) hb'
       · cases h
     · cases h
def i_eq (E:Env) (T:TypeId):Prop:=E.P.eqGuardType E.P.depth T=false
theorem eqGuard_agg {op:BinOp} {T:TypeId} {x y:Operand} {us vs:Array Value} (w':World) (h:i_eq E T):(eqGuard op T x y (.agg us) (.agg vs)).run E.P w'=.ok () w':=by
 unfold eqGuard
 unfold i_eq at h
 cases op <;> simp [h,Sem.run_bind,run_program]
theorem bin_agg {op:BinOp} {T:TypeId} {us vs:Array Value} {b neg:Bool} {w':World} (hop:op=if neg then .neq else .eql) (h:(Op.equalIn 10000 T (.agg us) (.agg vs)).run E.P w'=.ok b w') :
 (binOp op T (.agg us) (.agg vs)).run E.P w'=.ok (.bool (if neg then !b else b)) w':=by
 subst hop
 cases neg <;> simp [binOp,Op.equal,Op.maxDepth,h]
theorem bin_ptr {op:BinOp} {T:TypeId} {p p':Option Addr} {b neg:Bool} {w':World} (hop:op=if neg then .neq else .eql) (h:(Op.equalIn 10000 T (.pointer p) (.pointer p')).run E.P w'=.ok b w') :
 (binOp op T (.pointer p) (.pointer p')).run E.P w'=.ok (.bool (if neg then !b else b)) w':=by
 subst hop
 cases neg <;> simp [binOp,Op.equal,Op.maxDepth,h]
theorem bin_slc {op:BinOp} {T:TypeId} {p p':Option Addr} {n c n' c':Nat} {b neg:Bool} {w':World} (hop:op=if neg then .neq else .eql) (h:(Op.equalIn 10000 T (.slice p n c) (.slice p' n' c')).run E.P w'=.ok b w') :
 (binOp op T (.slice p n c) (.slice p' n' c')).run E.P w'=.ok (.bool (if neg then !b else b)) w':=by
 subst hop
 cases neg <;> simp [binOp,Op.equal,Op.maxDepth,h]
theorem y_eq {o:Oper} {k:AV→Prop} {op:BinOp} {T yT:TypeId} {x y:Operand} {q:EqT} {neg b:Bool} (ho:o.op=.binOp op T x y yT) (hop:op=if neg then .neq else .eql) (hE:E.ok) (hi:Inv γ σ w H) (hf:RepF γ σ fr a.tmps)
 (hq:eqOf E T=some q) (hb:eqA H q (ev fr x) (ev fr y)=some b) (h:k (.bool (if neg then !b else b))):Yields E γ σ R a o k:=by
 have hvx:=repV_ev hf x
 have hvy:=repV_ev hf y
 unfold eqOf at hq
 have hq6:eqTy E 6 T=some q∧((∃ ps,q=.agg ps)∨q=.ptr∨q=.slc):=by
  split at hq
  · rename_i ps he;cases hq;exact ⟨he,.inl ⟨_,rfl⟩⟩
  · rename_i he;cases hq;exact ⟨he,.inr (.inl rfl)⟩
  · rename_i he;cases hq;exact ⟨he,.inr (.inr rfl)⟩
  · cases hq
 have hrun:=eqTy_run hE hi 6 T q hq6.1 hb hvx hvy 9994
 have hu:eqTy E 6 T=some q:=hq6.1
 have hgo:∀ w',(eqGuard op T x y (a.eval x) (a.eval y)).run E.P w'=.ok () w'∧((binOp op T (a.eval x) (a.eval y)).run E.P w'=.ok (.bool (if neg then !b else b)) w'):=by
  intro w'
  have hr:=hrun w'
  rcases hq6.2 with ⟨ps,rfl⟩ | rfl | rfl
  · have hI:i_eq E T:=by
     obtain ⟨i,hT,hie⟩:=eqTy_agg hu
     have:=(hE T i hT).eq hie
     simp only [eqOk,Bool.and_eq_true,Bool.not_eq_true'] at this
     exact this.1.1
    obtain ⟨xs,ys,e1,e2,_⟩:=eqA_agg hb
    rw [e1] at hvx
    rw [e2] at hvy
    obtain ⟨us,hvx,_⟩:=hvx
    obtain ⟨vs,hvy,_⟩:=hvy
    rw [hvx,hvy] at hr ⊢
    exact ⟨eqGuard_agg w' hI,bin_agg hop hr⟩
  · have hpu:(∃ p,a.eval x=.pointer p)∧∃ p,a.eval y=.pointer p:=by
     unfold eqA at hb
     simp only [ptrEq] at hb
     split at hb
     · rename_i b' h1 h2
       refine ⟨⟨_,(isNil_spec hi h1 hvx).1 rfl⟩,?_⟩
       cases b'
       · obtain ⟨ad,this⟩:=(isNil_spec hi h2 hvy).2 rfl
         exact ⟨_,this⟩
       · exact ⟨_,(isNil_spec hi h2 hvy).1 rfl⟩
     · rename_i h1 h2
       obtain ⟨ad,this⟩:=(isNil_spec hi h1 hvx).2 rfl
       exact ⟨⟨_,this⟩,⟨_,(isNil_spec hi h2 hvy).1 rfl⟩⟩
     · cases hb
    obtain ⟨⟨p,e1⟩,p',e2⟩:=hpu
    rw [e1,e2] at hr ⊢
    exact ⟨eqGuard_run w' ⟨by simp,by simp⟩,bin_ptr hop hr⟩
  · have hpu:(∃ p n c,a.eval x=.slice p n c)∧∃ p n c,a.eval y=.slice p n c:=by
     simp only [eqA] at hb
     unfold slcNil at hb
     split at hb
     · rename_i e1 e2
       rw [e1] at hvx
       rw [e2] at hvy
       obtain ⟨p,n,c,vs,e3,_⟩:=hvx
       exact ⟨⟨p,n,c,e3⟩,_,_,_,hvy⟩
     · rename_i e1 e2
       rw [e1] at hvx
       rw [e2] at hvy
       exact ⟨⟨_,_,_,hvx⟩,_,_,_,hvy⟩
     · cases hb
    obtain ⟨⟨p,n,c,e1⟩,p',n',c',e2⟩:=hpu
    rw [e1,e2] at hr ⊢
    exact ⟨eqGuard_run w' ⟨by simp,by simp⟩,bin_slc hop hr⟩
 exact .of (x:=.bool (if neg then !b else b)) rfl h (by simp only [execOp,ho];rfl) fun w' _=>by simp only [Sem.run_bind,(hgo w').1,Result.andThen_ok,(hgo w').2]
end
end Go.Al
