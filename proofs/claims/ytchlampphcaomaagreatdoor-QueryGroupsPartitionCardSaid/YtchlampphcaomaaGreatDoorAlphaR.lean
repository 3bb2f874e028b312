/-
 A part of the proof: see the text of the law.
-/
import Derived.Test.YtchlampphcaomaaGreatDoorAlphaI
import Derived.ReadAgain
import Derived.OpenShut
import Derived.JoinedCond
import Derived.ProofKit
import Derived.ChangeSame
import Derived.RowKit
import Derived.JoinedOf
import Derived.Handed
set_option linter.unusedSimpArgs false
set_option linter.unusedVariables false
namespace Go.Al
section
variable {H:Type} {enc:TypeId × Value→H} {P:Program} {w w':World} {base:Nat} {sp:Nat→Bool} {held:Bool}
theorem cell_ext (hw:∀ (b:Nat) o,w.heap[b]?=some o→w'.heap[b]?=some o) {a:Addr} {v:Value} (h:w.cell? a=some v):w'.cell? a=some v:=by
 unfold World.cell? at h ⊢
 split at h
 · rename_i c _ _ hb
   rw [hw _ _ hb]
   exact h
 · cases h
theorem cells_ext (hw:∀ (b:Nat) o,w.heap[b]?=some o→w'.heap[b]?=some o) {a:Addr} {n:Nat} {cs:List Value} (h:w.cells? base a n=some cs):w'.cells? base a n=some cs:=by
 unfold World.cells? at h ⊢
 split at h
 · rename_i hb
   rw [if_pos hb]
   exact mapM_carry h fun i y _ _ hv=>cell_ext hw hv
 · cases h
theorem trodStep_ext (hw:∀ (b:Nat) o,w.heap[b]?=some o→w'.heap[b]?=some o) {r r':TypeId→List Value→Option (DataW H × List MemPlace)} (hr:∀ t cs x,r t cs=some x→r' t cs=some x) {t:TypeId} {cs:List Value} {x:DataW H × List MemPlace}
 (h:DataW.trodStep enc P w base sp held r t cs=some x):DataW.trodStep enc P w' base sp held r' t cs=some x:=by
 unfold DataW.trodStep at h ⊢
 split at h
 case h_6 e a _ =>
  simp only [Option.map_eq_some_iff,Option.bind_eq_some_iff] at h ⊢
  obtain ⟨y,⟨cs',hc,hy⟩,rfl⟩:=h
  exact ⟨y,⟨cs',cells_ext hw hc,hr _ _ _ hy⟩,rfl⟩
 case h_8 e a len cap _ =>
  simp only at h ⊢
  split at h
  · rename_i hc
    rw [if_pos hc]
    simp only [Option.map_eq_some_iff,Option.bind_eq_some_iff] at h ⊢
    obtain ⟨elems,he,rest,hrest,rfl⟩:=h
    have one:∀ (i:Nat) (y:DataW H × List MemPlace),(w.cells? base (a.add (i * P.cellsOf e)) (P.cellsOf e)).bind (r e)=some y→(w'.cells? base (a.add (i * P.cellsOf e)) (P.cellsOf e)).bind (r' e)=some y:=by
     intro i y hv
     simp only [Option.bind_eq_some_iff] at hv ⊢
     obtain ⟨cs',hc',hy'⟩:=hv
     exact ⟨cs',cells_ext hw hc',hr _ _ _ hy'⟩
    refine ⟨elems,mapM_carry he (fun i y _ _ hv=>one i y hv),rest,?_,rfl⟩
    split at hrest
    · rename_i hs
      rw [if_pos hs]
      exact mapM_carry hrest (fun i y _ _ hv=>one (len+i) y hv)
    · rename_i hs
      rw [if_neg hs]
      exact hrest
  · cases h
 case h_9 =>
  split at h
  · rename_i hc
    rw [if_pos hc]
    simp only [Option.map_eq_some_iff] at h ⊢
    obtain ⟨xs,hx,rfl⟩:=h
    exact ⟨xs,mapM_carry hx (fun f y _ _ hv=>hr _ _ _ hv),rfl⟩
  · cases h
 case h_10 =>
  split at h
  · rename_i hc
    rw [if_pos hc]
    simp only [Option.map_eq_some_iff] at h ⊢
    obtain ⟨xs,hx,rfl⟩:=h
    exact ⟨xs,mapM_carry hx (fun f y _ _ hv=>hr _ _ _ hv),rfl⟩
  · cases h
 case h_12 =>
  split at h <;> try (exact h)
  simp only [Option.map_eq_some_iff] at h ⊢
  obtain ⟨y,hy,rfl⟩:=h
  exact ⟨y,hr _ _ _ hy,rfl⟩
 case h_14 k e b _ =>
  split at h
  · rename_i es clock hb
    rw [hw _ _ hb]
    split at h
    · rename_i hc
      simp only [Option.bind_eq_some_iff] at h
      obtain ⟨entries,he,hd⟩:=h
      split at hd
      · rename_i hris
        have hx:=Option.some.inj hd
        subst hx
        simp only [if_pos hc,Option.bind_eq_some_iff]
        refine ⟨entries,mapM_carry he (fun x y _ hy hv=>?_),by simp [hris]⟩
        simp only [Option.bind_eq_some_iff] at hv ⊢
        obtain ⟨key,hk,hz⟩:=hv
        refine ⟨key,hk,?_⟩
        split at hz
        · rename_i hf
          rw [if_pos hf]
          simp only [Option.map_eq_some_iff] at hz ⊢
          obtain ⟨q,hq,rfl⟩:=hz
          exact ⟨q,hr _ _ _ hq,rfl⟩
        · cases hz
      · cases hd
    · cases h
  · cases h
 case h_21=>cases h
 all_goals exact h
theorem trod_ext (hw:∀ (b:Nat) o,w.heap[b]?=some o→w'.heap[b]?=some o):∀ (n:Nat) (t:TypeId) (cs:List Value) (x:DataW H × List MemPlace),DataW.trod enc P w base sp held n t cs=some x→DataW.trod enc P w' base sp held n t cs=some x
 | 0,_,_,_,h=>by simp [DataW.trod] at h
 | n+1,t,cs,x,h=>by
   rw [DataW.trod_step] at h ⊢
   exact trodStep_ext hw (trod_ext hw n) h
theorem trodAll_ext (hw:∀ (b:Nat) o,w.heap[b]?=some o→w'.heap[b]?=some o):∀ {ts:List TypeId} {vs:List Value} {ds:List (DataW H)} {ps:List MemPlace},DataW.TrodAll enc P w base sp held ts vs ds ps→DataW.TrodAll enc P w' base sp held ts vs ds ps
 | [],[],[],_,h=>h
 | _::_,_::_,_::_,_,⟨p,q,⟨n,h1⟩,h2,e⟩=>⟨p,q,⟨n,trod_ext hw n _ _ _ h1⟩,trodAll_ext hw h2,e⟩
def gm (w:World):Gm:=fun b=>w.heap[b]?
def Rd (E:Env) (T:TypeId) {α:Type} (inv:α→Prop) (c:α→List AV):Prop :=
 ∃ i,E.TI T=some i∧∀ (w:World) (H:Type) (enc:TypeId × Value→H) (n:Nat) (cs:List Value) (x:DataW H × List MemPlace),DataW.trod enc E.P w 0 (fun _=>true) true n T cs=some x→cs.length=i.size∧(∀ u ∈ cs,onec u)∧∃ a,inv a∧RepVs (gm w) [] (c a) cs
end
section
variable {E:Env} {α β:Type} {inv:α→Prop} {c:α→List AV}
theorem Rd.map {T:TypeId} (h:Rd E T inv c) (g:α→β) {inv':β→Prop} {c':β→List AV} (hc:∀ a,c' (g a)=c a) (hi:∀ a,inv a→inv' (g a)):Rd E T inv' c':=by
 obtain ⟨i,hT,h⟩:=h
 refine ⟨i,hT,fun w H enc n cs x hx=>?_⟩
 obtain ⟨h1,h2,a,h3,h4⟩:=h w H enc n cs x hx
 exact ⟨h1,h2,g a,hi a h3,by rw [hc];exact h4⟩
theorem rd_int (hE:E.ok) {T:TypeId} {i:TInfo} {k:IntKind} (hT:E.TI T=some i) (hd:i.desc=.int k) (hs:i.size=1):Rd E T (fun n:Int=>(Lit.int k n).wf=true) (fun n=>[.int k n]):=by
 refine ⟨i,hT,fun w H enc n cs x hx=>?_⟩
 have hu:=(hE T i hT).int hd
 cases n with
 | zero=>simp [DataW.trod] at hx
 | succ n =>
   rw [DataW.trod_step] at hx
   unfold DataW.trodStep at hx
   rw [hu] at hx
   rcases cs with _ | ⟨v,_ | ⟨v',vs⟩⟩
   · simp at hx
   · cases v <;> simp at hx
     rename_i k' m
     obtain ⟨⟨rfl,hw⟩,_⟩:=hx
     refine ⟨by simp [hs],?_,m,hw,?_⟩
     · intro u hu
       simp at hu
       subst hu
       rfl
     · exact repVs_cons.2 ⟨_,[],rfl,by simp only [RepV],by simp [RepVs]⟩
   · simp at hx
theorem rd_bool (hE:E.ok) {T:TypeId} {i:TInfo} (hT:E.TI T=some i) (hd:i.desc=.bool) (hs:i.size=1):Rd E T (fun _:Bool=>True) (fun b=>[.bool b]):=by
 refine ⟨i,hT,fun w H enc n cs x hx=>?_⟩
 have hu:=(hE T i hT).bool hd
 cases n with
 | zero=>simp [DataW.trod] at hx
 | succ n =>
   rw [DataW.trod_step] at hx
   unfold DataW.trodStep at hx
   rw [hu] at hx
   rcases cs with _ | ⟨v,_ | ⟨v',vs⟩⟩
   · simp at hx
   · cases v <;> simp at hx
     rename_i b
     refine ⟨by simp [hs],?_,b,trivial,?_⟩
     · intro u hu
       simp at hu
       subst hu
       rfl
     · exact repVs_cons.2 ⟨_,[],rfl,by simp only [RepV],by simp [RepVs]⟩
   · simp at hx
theorem rd_string (hE:E.ok) {T:TypeId} {i:TInfo} (hT:E.TI T=some i) (hd:i.desc=.string) (hs:i.size=1):Rd E T (fun s:ByteArray=>s.size≤maxLen) (fun s=>[.str s]):=by
 refine ⟨i,hT,fun w H enc n cs x hx=>?_⟩
 have hu:=(hE T i hT).string hd
 cases n with
 | zero=>simp [DataW.trod] at hx
 | succ n =>
   rw [DataW.trod_step] at hx
   unfold DataW.trodStep at hx
   rw [hu] at hx
   rcases cs with _ | ⟨v,_ | ⟨v',vs⟩⟩
   · simp at hx
   · cases v <;> simp at hx
     rename_i b
     refine ⟨by simp [hs],?_,b,hx.1,?_⟩
     · intro u hu
       simp at hu
       subst hu
       rfl
     · exact repVs_cons.2 ⟨_,[],rfl,by simp only [RepV],by simp [RepVs]⟩
   · simp at hx
def RdF (E:Env) (o o':Nat) (fs:List (Nat × TypeId)) {α:Type} (inv:α→Prop) (c:α→List AV):Prop :=
 ∀ (w:World) (H:Type) (enc:TypeId × Value→H) (n:Nat) (cs:List Value) (fl:List Field) (ys:List (DataW H × List MemPlace)),fl.map (fun f=>(f.offset,f.type))=fs→o'≤cs.length →
   fl.mapM (fun f=>DataW.trod enc E.P w 0 (fun _=>true) true n f.type ((cs.drop f.offset).take (E.P.cellsOf f.type)))=some ys→o≤o'∧∃ a,inv a∧RepVs (gm w) [] (c a) ((cs.drop o).take (o' - o))∧∀ u ∈ (cs.drop o).take (o' - o),onec u
theorem rdF_nil {o:Nat}:RdF E o o [] (fun _:Unit=>True) (fun _=>[]):=by
 intro w H enc n cs fl ys hf hl hy
 exact ⟨Nat.le_refl _,(),trivial,by simp [RepVs],by simp⟩
theorem cellsOf_eq (hE:E.ok) {T:TypeId} {i:TInfo} (hT:E.TI T=some i):E.P.cellsOf T=i.size:=by
 obtain ⟨inf,z,hinf,hsz,_⟩:=(hE T i hT).info
 simp [Program.cellsOf,hinf,hsz]
theorem rdF_cons (hE:E.ok) {o o1 o':Nat} {T:TypeId} {fs:List (Nat × TypeId)} {i:TInfo} (hT:E.TI T=some i) (ho:o1=o+i.size) (h1:Rd E T inv c) {inv2:β→Prop} {c2:β→List AV} (h2:RdF E o1 o' fs inv2 c2) :
 RdF E o o' ((o,T)::fs) (fun p:α × β=>inv p.1∧inv2 p.2) (fun p=>c p.1++c2 p.2):=by
 intro w H enc n cs fl ys hf hl hy
 rcases fl with _ | ⟨f,fl⟩
 · simp at hf
 simp only [List.map_cons,List.cons.injEq,Prod.mk.injEq] at hf
 obtain ⟨⟨rfl,rfl⟩,hf⟩:=hf
 rw [List.mapM_cons] at hy
 simp only [bind,Option.bind_eq_some_iff,pure,Option.some.injEq] at hy
 obtain ⟨y,hy1,ys',hy2,rfl⟩:=hy
 obtain ⟨i',hT',h1⟩:=h1
 rw [hT] at hT'
 cases hT'
 rw [cellsOf_eq hE hT] at hy1
 obtain ⟨k1,k2,a,k3,k4⟩:=h1 w H enc n _ y hy1
 obtain ⟨k5,b,k6,k7,k8⟩:=h2 w H enc n cs fl ys' hf hl hy2
 subst ho
 have hsplit:(cs.drop f.offset).take (o' - f.offset)=(cs.drop f.offset).take i.size++(cs.drop (f.offset+i.size)).take (o' - (f.offset+i.size)):=by
  rw [show o' - f.offset=i.size+(o' - (f.offset+i.size)) by omega,List.take_add,List.drop_drop]
 refine ⟨by omega,(a,b),⟨k3,k6⟩,?_,?_⟩
 · rw [hsplit];exact k4.append k7
 · rw [hsplit]
   intro u hu
   rcases List.mem_append.1 hu with hu | hu
   · exact k2 u hu
   · exact k8 u hu
theorem rd_struct (hE:E.ok) {T:TypeId} {i:TInfo} {fs:List (Nat × TypeId)} (hT:E.TI T=some i) (hd:i.desc=.struct fs) (hf:RdF E 0 i.size fs inv c):Rd E T inv c:=by
 refine ⟨i,hT,fun w H enc n cs x hx=>?_⟩
 obtain ⟨fs',hu,hfs⟩:=(hE T i hT).struct hd
 cases n with
 | zero=>simp [DataW.trod] at hx
 | succ n =>
   rw [DataW.trod_step] at hx
   unfold DataW.trodStep at hx
   simp only [hu] at hx
   split at hx
   · rename_i hl
     obtain ⟨ys,hy,rfl⟩:=Option.map_eq_some_iff.1 hx
     rw [cellsOf_eq hE hT] at hl
     obtain ⟨_,a,h1,h2,h3⟩:=hf w H enc n cs fs'.toList ys hfs (by omega) hy
     have ht:(cs.drop 0).take (i.size - 0)=cs:=by simp [← hl]
     rw [ht] at h2 h3
     exact ⟨hl,h3,a,h1,h2⟩
   · cases hx
theorem mapM_get {α β:Type} {f:α→Option β}:∀ {l:List α} {r:List β},l.mapM f=some r→r.length=l.length∧∀ (j:Nat) x,l[j]?=some x→∃ y,r[j]?=some y∧f x=some y
 | [],r,h=>by simp at h;subst h;simp
 | x::l,r,h=>by
   rw [List.mapM_cons] at h
   simp only [bind,Option.bind_eq_some_iff,pure,Option.some.injEq] at h
   obtain ⟨y,h1,r',h2,rfl⟩:=h
   obtain ⟨h3,h4⟩:=mapM_get h2
   refine ⟨by simp [h3],fun j x' hx=>?_⟩
   cases j with
   | zero=>simp at hx;subst hx;exact ⟨y,by simp,h1⟩
   | succ j=>simpa using h4 j x' (by simpa using hx)
theorem onec_cells {u:Value} (h:onec u):u.cells.toList=[u]:=by
 unfold onec at h
 cases u <;> first | rfl | (simp [Value.oneCell'] at h)
def elV (agg:Bool) (cs:List Value):Value:=match agg,cs with | true,cs=>.agg cs.toArray | false,v::_=>v | false,[]=>undef
theorem rd_slice (hE:E.ok) {T e:TypeId} {i ie:TInfo} (hT:E.TI T=some i) (hd:i.desc=.slice e) (hs:i.size=1) (he:E.TI e=some ie) (hse:0<ie.size) (h:Rd E e inv c) {f:α→AV} (hf:∀ a,inv a→f a=if ie.agg then .agg (c a) else (c a).headD .bad) :
 Rd E T (fun l:List α=>l.length≤maxLen∧∀ a ∈ l,inv a) (fun l=>[.view ie.size (l.map f)]):=by
 refine ⟨i,hT,fun w H enc n cs x hx=>?_⟩
 have hu:=(hE T i hT).slice hd
 obtain ⟨ie',he',h⟩:=h
 rw [he] at he'
 cases he'
 cases n with
 | zero=>simp [DataW.trod] at hx
 | succ n =>
   rw [DataW.trod_step] at hx
   unfold DataW.trodStep at hx
   rw [hu] at hx
   rcases cs with _ | ⟨v,_ | ⟨v',vs⟩⟩
   · simp at hx
   · cases v with
     | slice a len cap =>
       cases a with
       | none =>
         cases len <;> cases cap <;> simp at hx
         refine ⟨by simp [hs],?_,[],⟨by simp,by simp⟩,?_⟩
         · intro u hu;simp at hu;subst hu;rfl
         · exact repVs_cons.2 ⟨_,[],rfl,⟨none,0,0,[],rfl,by simp [RepVs],rfl,Nat.le_refl _,by simp [maxLen],by simp,by simp⟩,by simp [RepVs]⟩
       | some a =>
         simp only at hx
         split at hx
         · rename_i hc
           simp only [Option.bind_eq_some_iff,Option.map_eq_some_iff] at hx
           obtain ⟨elems,hel,rest,hrest,rfl⟩:=hx
           obtain ⟨hl,hget⟩:=mapM_get hel
           rw [cellsOf_eq hE he] at hget
           have step:∀ k:Nat,k≤len→∃ (l:List α) (vs:List Value),l.length=k∧vs.length=k∧(∀ b ∈ l,inv b)∧RepVs (gm w) [] (l.map f) vs∧(∀ u ∈ vs,okEl ie.size u) ∧
            ∀ (j:Nat) u,(flat vs)[j]?=some u→w.cell? (a.add j)=some u:=by
            intro k
            induction k with
            | zero=>intro _;exact ⟨[],[],rfl,rfl,by simp,by simp [RepVs],by simp,by simp [flat]⟩
            | succ k ih =>
              intro hk
              obtain ⟨l,vs,h1,h2,h3,h4,h5,h6⟩:=ih (by omega)
              obtain ⟨y,hy1,hy2⟩:=hget k k (List.getElem?_range (by omega))
              obtain ⟨cs',hc',hy3⟩:=Option.bind_eq_some_iff.1 hy2
              obtain ⟨k1,k2,b,k3,k4⟩:=h w H enc n cs' y hy3
              have hcell:∀ (j:Nat) u,cs'[j]?=some u→w.cell? (a.add (k * ie.size+j))=some u:=by
               intro j u hj
               unfold World.cells? at hc'
               rw [if_pos (Nat.zero_le _)] at hc'
               obtain ⟨m1,m2⟩:=mapM_get hc'
               have hjl:j<ie.size:=by have:=(List.getElem?_eq_some_iff.1 hj).1;omega
               obtain ⟨z,z1,z2⟩:=m2 j j (List.getElem?_range (by omega))
               rw [hj] at z1
               cases z1
               have:(a.add (k * ie.size)).add j=a.add (k * ie.size+j):=by
                unfold Addr.add
                by_cases e1:k * ie.size=0 <;> by_cases e2:j=0 <;> simp [e1,e2]
                omega
               rw [← this];exact z2
              have helV:RepV (gm w) [] (f b) (elV ie.agg cs')∧okEl ie.size (elV ie.agg cs')∧(elV ie.agg cs').cells.toList=cs':=by
               rw [hf b k3]
               cases hag:ie.agg with
               | true =>
                 simp only [if_true,elV]
                 exact ⟨⟨cs',rfl,k4,k2⟩,⟨by simpa [Value.cells] using k1,by simpa [Value.cells] using k2⟩,by simp [Value.cells]⟩
               | false =>
                 have h1s:ie.size=1:=by
                  obtain ⟨inf,z,_,_,_,_,z4,_,_,z6,z7⟩:=(hE e ie he).info
                  rw [← z7,← z4,onec_cells (z6 hag)];rfl
                 rcases cs' with _ | ⟨u,_ | ⟨u',us⟩⟩
                 · simp at k1;omega
                 · obtain ⟨x0,xs0,e1⟩:∃ x xs,c b=x::xs:=by
                    cases hcb:c b with
                    | nil=>rw [hcb] at k4;simp [RepVs] at k4
                    | cons x xs=>exact ⟨x,xs,rfl⟩
                   rw [e1] at k4
                   obtain ⟨u2,us2,e3,e4,e5⟩:=repVs_cons.1 k4
                   cases e3
                   have hu1:=k2 u (by simp)
                   have hcu:u.cells.toList=[u]:=onec_cells hu1
                   simp only [Bool.false_eq_true,if_false,elV,e1,List.headD_cons]
                   exact ⟨e4,⟨by rw [← Array.length_toList,hcu,h1s];rfl,by rw [hcu];simpa using hu1⟩,hcu⟩
                 · simp at k1;omega
              refine ⟨l++[b],vs++[elV ie.agg cs'],by simp [h1],by simp [h2],?_,?_,?_,?_⟩
              · intro z hz
                rcases List.mem_append.1 hz with hz | hz
                · exact h3 z hz
                · simp at hz;subst hz;exact k3
              · rw [List.map_append]
                exact h4.append (repVs_cons.2 ⟨_,[],rfl,helV.1,by simp [RepVs]⟩)
              · intro u hu
                rcases List.mem_append.1 hu with hu | hu
                · exact h5 u hu
                · simp at hu;subst hu;exact helV.2.1
              · intro j u hj
                rw [flat_append,List.getElem?_append] at hj
                have hfl:=flat_length h5
                split at hj
                · exact h6 j u hj
                · rename_i hge
                  have hj':cs'[j - (flat vs).length]?=some u:=by
                   rw [← helV.2.2]
                   simpa [flat] using hj
                  have:=hcell _ _ hj'
                  rw [hfl,h2] at this hge
                  rwa [show k * ie.size+(j - k * ie.size)=j by omega] at this
           obtain ⟨l,vs,h1,h2,h3,h4,h5,h6⟩:=step len (Nat.le_refl _)
           refine ⟨by simp [hs],?_,l,⟨by omega,h3⟩,?_⟩
           · intro u hu;simp at hu;subst hu;rfl
           · refine repVs_cons.2 ⟨_,[],rfl,⟨some a,len,cap,vs,rfl,h4,h2,hc.2.1,hc.2.2,h5,fun hn=>?_⟩,by simp [RepVs]⟩
             have hfl:=flat_length h5
             have hpos:0<(flat vs).length:=by rw [hfl,h2];exact Nat.mul_pos (by omega) hse
             have h0:=h6 0 (flat vs)[0] (by simp [hpos])
             have ha0:a.add 0=a:=by simp [Addr.add]
             rw [ha0] at h0
             unfold World.cell? at h0
             split at h0
             · rename_i cc E' fr' hb
               split at h0
               · cases h0
               · rename_i hsp
                 obtain ⟨blk,off,spot⟩:=a
                 have:spot=none:=by simpa using hsp
                 subst this
                 refine ⟨blk,off,rfl,cc,E',fr',hb,fun j u hj=>?_⟩
                 have:=h6 j u hj
                 have hadd:(⟨blk,off,none⟩:Addr).add j=⟨blk,off+j,none⟩:=by
                  unfold Addr.add
                  split
                  · rename_i e;subst e;rfl
                  · rfl
                 rw [hadd] at this
                 unfold World.cell? at this
                 simp only at hb
                 simpa [hb] using this
             · cases h0
         · cases hx
     | _=>simp at hx
   · simp at hx
end
end Go.Al
namespace Go.Al
open Go.ChangeShapes Go.WideShapes Go.RowKit
section
variable {E:Env} {α:Type} {inv:α→Prop} {c:α→List AV}
def RdV (E:Env) (T:TypeId) {α:Type} (inv:α→Prop) (c:α→AV):Prop :=
 ∀ (w:World) (H:Type) (enc:TypeId × Value→H) (base:Nat) (v:Value) (d:DataW H) (p:List MemPlace),Value.okWide E.P w .any base T v→DataW.Trod enc E.P w 0 (fun _=>true) true T v d p→∃ a,inv a∧RepV (gm w) [] (c a) v
theorem RdV.of (hE:E.ok) {T:TypeId} (hv:∀ (w:World) base v,Value.okWide E.P w .any base T v→v.cells.toList=[v]) {f:α→AV} (h:Rd E T inv c) (hc:∀ a,c a=[f a]):RdV E T inv f:=by
 intro w H enc base v d p hok ⟨n,hn⟩
 rw [hv w base v hok] at hn
 obtain ⟨i,_,h⟩:=h
 obtain ⟨_,_,a,h3,h4⟩:=h w H enc n _ _ hn
 rw [hc] at h4
 obtain ⟨u,us,e,h5,_⟩:=repVs_cons.1 h4
 cases e
 exact ⟨a,h3,h5⟩
theorem RdV.slice (hE:E.ok) {T e:TypeId} (hu:E.P.underlying T=some (.slice e)) {f:α→AV} (h:Rd E T inv c) (hc:∀ a,c a=[f a]):RdV E T inv f :=
 RdV.of hE (fun w base v hok=>by obtain ⟨a,l,c,rfl⟩:=okWide_slice hu hok;rfl) h hc
theorem RdV.int (hE:E.ok) {T:TypeId} {k:IntKind} (hu:E.P.underlying T=some (.int k)) {f:α→AV} (h:Rd E T inv c) (hc:∀ a,c a=[f a]):RdV E T inv f :=
 RdV.of hE (fun w base v hok=>by obtain ⟨n,rfl⟩:=okWide_int hu hok;rfl) h hc
theorem RdV.bool (hE:E.ok) {T:TypeId} (hu:E.P.underlying T=some .bool) {f:α→AV} (h:Rd E T inv c) (hc:∀ a,c a=[f a]):RdV E T inv f :=
 RdV.of hE (fun w base v hok=>by obtain ⟨n,rfl⟩:=okWide_bool hu hok;rfl) h hc
theorem frozen_ext {w w':World} (hw:∀ (b:Nat) o,w.heap[b]?=some o→w'.heap[b]?=some o) {a:Addr} (ha:a.block<w.heap.size):w'.frozen? a=w.frozen? a:=by
 have h1:w.heap[a.block]?=some w.heap[a.block]:=by simp [ha]
 unfold World.frozen?
 rw [hw _ _ h1,h1]
theorem post_same {H:Type} {enc:TypeId × Value→H} {P:Program} {f:Func} {s:ChangeSpec} {apart fresh handsOn again:Bool} {W W':World} {args:Array Value} {v:Value} {ds gs:List (DataW H)} {before pa pv:List MemPlace}
 (hW:DataW.Whole enc P f.params.toList s.vars apart W args.toList ds gs before)
 (hres:∀ (b:Nat) (sp:Nat→Bool) (hd:Bool),DataW.TrodAll enc P W' b sp hd f.resultTypes.toList (v.resultList f.resultTypes.size) (s.fn H (ds++gs)).results [])
 (hargs:∀ sp:Nat→Bool,(∀ p ∈ before,sp p.block=true)→DataW.TrodAll enc P W' 0 sp true f.params.toList args.toList (s.fn H (ds++gs)).args pa)
 (hvars:∀ sp:Nat→Bool,(∀ p ∈ before,sp p.block=true)→DataW.TrodVars enc P W' sp s.vars (s.fn H (ds++gs)).vars pv)
 (hps:before=pa++pv) (hk:W.keptBut W' (· ∈ before)) (hfz:∀ a:Addr,a.block<W.heap.size→W'.frozen? a=W.frozen? a)
 (hok:∀ (j:Nat) (t:TypeId) (r:Value),f.resultTypes[j]?=some t→(v.resultList f.resultTypes.size)[j]?=some r→Value.okWide P W' .any 0 t r) :
 s.post enc P f apart fresh handsOn again W args v W':=by
 have hold:∀ p ∈ before,(fun b=>decide (b<W.heap.size)) p.block=true:=fun p hp=>by simpa using hW.lt p hp
 have hlt:=hW.lt
 refine ⟨ds,gs,before,[],pa,pv,hW,hres _ _ _,hargs _ hold,hvars _ hold,World.keptBut_mono (fun p hp=>⟨hp,?_⟩) hk,fun _=>?_⟩
 · rw [hps,List.mem_append] at hp
   exact Or.inr hp
 · obtain ⟨_,_,_,_,_,hz,hn⟩:=hW
   refine ⟨hok,_,_,([]++pa)++pv,⟨[]++pa,pv,trodAll_append (hargs _ (fun _ _=>rfl)) (hres _ _ _),hvars _ (fun _ _=>rfl),rfl,?_,?_⟩,?_⟩
   · intro b off hp
     have hp:MemPlace.cell b off ∈ before:=by rw [hps];simpa using hp
     rw [hfz _ (hlt _ hp)]
     exact hz b off hp
   · intro ha
     have:=hn ha
     rw [hps] at this
     simpa using this
   · intro p hp _
     rw [hps]
     simpa using hp
theorem kept_ext {w w':World} (ho:w'.os=w.os) (hp:w'.output=w.output) (hw:∀ (b:Nat) o,w.heap[b]?=some o→w'.heap[b]?=some o) {may:MemPlace→Prop}:w.keptBut w' may:=by
 refine ⟨ho,hp,fun i hi=>?_⟩
 have h1:w.heap[i]?=some w.heap[i]:=by simp [hi]
 rw [hw _ _ h1,h1]
 generalize w.heap[i]=o
 cases o <;> simp
theorem trodAll_len {H:Type} {enc:TypeId × Value→H} {P:Program} {w:World} {b:Nat} {sp:Nat→Bool} {hd:Bool}:∀ {ts:List TypeId} {vs:List Value} {ds:List (DataW H)} {p:List MemPlace},DataW.TrodAll enc P w b sp hd ts vs ds p→ds.length=ts.length
 | [],_,_,_,h=>by obtain ⟨_,rfl,_⟩:=trodAll_nil h;rfl
 | _::_,_,_,_,h=>by
   obtain ⟨v,vs',d,ds',p1,p2,rfl,rfl,rfl,_,h2⟩:=trodAll_cons h
   simp [trodAll_len h2]
theorem contract_core (hE:E.ok) (kids:Kids E.P (· < E.P.types.size)) (full:∀ t e,t<E.P.types.size→E.P.underlying t=some (.slice e)→0<E.P.cellsOf e)
 {f:FuncId} {fn:Func} {s:ChangeSpec} {apart fresh handsOn again:Bool} {tb:TypeId} {as:List AV} {base:Nat} (hts:∀ t ∈ fn.params.toList,t<E.P.types.size)
 (hcall:ACalls E.P f as [] (fun r H=>r=.bool true∧H=[])) (hvars:s.vars=[])
 (hspec:∀ (H:Type) (ds:List (DataW H)),ds.length=fn.params.toList.length→(s.fn H ds).results=[.lit (.bool true)]∧(s.fn H ds).args=ds∧(s.fn H ds).vars=[])
 (hres:fn.resultTypes = #[tb]) (hbool:E.P.underlying tb=some .bool)
 (H:Type) (enc:TypeId × Value→H) (W:World) (args:Array Value) (ds gs:List (DataW H)) (before:List MemPlace) (hrep:RepVs (gm W) [] as args.toList) (hglob:GlobOk (gm W))
 (hval:∀ (j:Nat) t v,fn.params[j]?=some t→args[j]?=some v→Value.okWide E.P W .any base t v)
 (hW:DataW.Whole enc E.P fn.params.toList s.vars apart W args.toList ds gs before) :
 Calls E.P f args W fun e W'=>∃ v,e=.returned v∧s.post enc E.P fn apart fresh handsOn again W args v W':=by
 have hW':=hW
 obtain ⟨p,q,hA,hV,rfl,_,_⟩:=hW
 rw [hvars] at hV
 obtain ⟨rfl,rfl⟩:=trodVars_none hV
 have hinv:Inv (gm W) [] W []:=⟨fun b o h=>h,fun i b c h=>by simp at h,fun i j b c c' h=>by simp at h,rfl,fun i o e h=>by simp at h,hglob⟩
 have hc:=hcall.2 (gm W) [] W args.toList hinv hrep
 rw [Array.toArray_toList] at hc
 refine hc.mono fun e W' ⟨v,γ',σ',r,H',he,hst,_,hrv,hr1,_⟩=>?_
 subst hr1
 simp only [RepV] at hrv
 subst hrv
 have hext:∀ (b:Nat) o,W.heap[b]?=some o→W'.heap[b]?=some o:=fun b o hb=>by
  have hlt:b<W.heap.size:=(Array.getElem?_eq_some_iff.1 hb).1
  rw [(hst.keep b hlt (fun ⟨i,c,hi⟩=>by simp at hi)).1];exact hb
 have hlen:(ds++[]).length=fn.params.toList.length:=by
  rw [List.append_nil];exact trodAll_len hA
 obtain ⟨s1,s2,s3⟩:=hspec H (ds++[]) hlen
 refine ⟨_,he,post_same (pa:=p) (pv:=[]) hW' (fun b sp hd=>?_) (fun sp hsp=>?_) (fun sp hsp=>?_) rfl (kept_ext hst.os hst.output hext) (fun a ha=>frozen_ext hext ha) ?_⟩
 · rw [s1,hres]
   exact trodAll_cons_mk (shut_bool hbool _) trodAll_mk0
 · rw [s2,List.append_nil]
   exact (trodAll_ext hext hA).respare kids full hts (fun x hx=>hsp x (by simpa using hx))
 · rw [s3,hvars];exact rfl
 · exact ok_one hres rfl (okWide_bool_mk hbool _)
end
end Go.Al
namespace Go.Al
open Go.ChangeShapes Go.WideShapes Go.RowKit
section
variable {E:Env} {α β:Type} {inv:α→Prop} {c:α→List AV} {N:Nat}
def RdM (N:Nat) (E:Env) (T:TypeId) {α:Type} (rel:(H:Type)→DataW H→α→Prop) (c:α→List AV):Prop :=
 ∃ i,E.TI T=some i∧∀ (w:World) (H:Type) (enc:TypeId × Value→H) (n:Nat) (cs:List Value) (x:DataW H × List MemPlace),n<N→DataW.trod enc E.P w 0 (fun _=>true) true n T cs=some x→cs.length=i.size∧(∀ u ∈ cs,onec u)∧∃ a,rel H x.1 a∧RepVs (gm w) [] (c a) cs
def RdN (N:Nat) (E:Env) (T:TypeId) {α:Type} (inv:α→Prop) (c:α→List AV):Prop:=RdM N E T (fun _ _ a=>inv a) c
theorem RdM.map {T:TypeId} {rel:(H:Type)→DataW H→α→Prop} (h:RdM N E T rel c) (g:α→β) {rel':(H:Type)→DataW H→β→Prop} {c':β→List AV} (hc:∀ a,c' (g a)=c a) (hi:∀ H d a,rel H d a→rel' H d (g a)):RdM N E T rel' c':=by
 obtain ⟨i,hT,h⟩:=h
 refine ⟨i,hT,fun w H enc n cs x hn hx=>?_⟩
 obtain ⟨h1,h2,a,h3,h4⟩:=h w H enc n cs x hn hx
 exact ⟨h1,h2,g a,hi H _ a h3,by rw [hc];exact h4⟩
theorem RdM.le {T:TypeId} {M:Nat} {rel:(H:Type)→DataW H→α→Prop} (h:RdM N E T rel c) (hM:M≤N):RdM M E T rel c:=by
 obtain ⟨i,hT,h⟩:=h
 exact ⟨i,hT,fun w H enc n cs x hn hx=>h w H enc n cs x (by omega) hx⟩
theorem RdM.zero {T:TypeId} {i:TInfo} {rel:(H:Type)→DataW H→α→Prop} (hT:E.TI T=some i):RdM 0 E T rel c:=⟨i,hT,fun w H enc n cs x hn=>absurd hn (by omega)⟩
theorem Rd.toN {T:TypeId} (h:Rd E T inv c):RdN N E T inv c:=by
 obtain ⟨i,hT,h⟩:=h
 exact ⟨i,hT,fun w H enc n cs x _ hx=>h w H enc n cs x hx⟩
theorem RdN.le {T:TypeId} {M:Nat} (h:RdN N E T inv c) (hM:M≤N):RdN M E T inv c:=RdM.le h hM
theorem RdN.zero {T:TypeId} {i:TInfo} (hT:E.TI T=some i):RdN 0 E T inv c:=RdM.zero hT
theorem RdN.map {T:TypeId} (h:RdN N E T inv c) (g:α→β) {inv':β→Prop} {c':β→List AV} (hc:∀ a,c' (g a)=c a) (hi:∀ a,inv a→inv' (g a)):RdN N E T inv' c':=RdM.map h g hc (fun _ _ a h=>hi a h)
def RdFM (N:Nat) (E:Env) (o o':Nat) (fs:List (Nat × TypeId)) {α:Type} (rel:(H:Type)→List (DataW H)→α→Prop) (c:α→List AV):Prop :=
 ∀ (w:World) (H:Type) (enc:TypeId × Value→H) (n:Nat) (cs:List Value) (fl:List Field) (ys:List (DataW H × List MemPlace)),n<N→fl.map (fun f=>(f.offset,f.type))=fs→o'≤cs.length →
   fl.mapM (fun f=>DataW.trod enc E.P w 0 (fun _=>true) true n f.type ((cs.drop f.offset).take (E.P.cellsOf f.type)))=some ys→o≤o'∧∃ a,rel H (ys.map (·.1)) a∧RepVs (gm w) [] (c a) ((cs.drop o).take (o' - o))∧∀ u ∈ (cs.drop o).take (o' - o),onec u
theorem rdFM_nil {o:Nat}:RdFM N E o o [] (fun _ _ (_:Unit)=>True) (fun _=>[]):=by
 intro w H enc n cs fl ys hn hf hl hy
 exact ⟨Nat.le_refl _,(),trivial,by simp [RepVs],by simp⟩
theorem rdFM_cons (hE:E.ok) {o o1 o':Nat} {T:TypeId} {fs:List (Nat × TypeId)} {i:TInfo} (hT:E.TI T=some i) (ho:o1=o+i.size) {rel:(H:Type)→DataW H→α→Prop} (h1:RdM N E T rel c) {rel2:(H:Type)→List (DataW H)→β→Prop} {c2:β→List AV} (h2:RdFM N E o1 o' fs rel2 c2) :
 RdFM N E o o' ((o,T)::fs) (fun H ds (p:α × β)=>∃ d ds',ds=d::ds'∧rel H d p.1∧rel2 H ds' p.2) (fun p=>c p.1++c2 p.2):=by
 intro w H enc n cs fl ys hn hf hl hy
 rcases fl with _ | ⟨f,fl⟩
 · simp at hf
 simp only [List.map_cons,List.cons.injEq,Prod.mk.injEq] at hf
 obtain ⟨⟨rfl,rfl⟩,hf⟩:=hf
 rw [List.mapM_cons] at hy
 simp only [bind,Option.bind_eq_some_iff,pure,Option.some.injEq] at hy
 obtain ⟨y,hy1,ys',hy2,rfl⟩:=hy
 obtain ⟨i',hT',h1⟩:=h1
 rw [hT] at hT'
 cases hT'
 rw [cellsOf_eq hE hT] at hy1
 obtain ⟨k1,k2,a,k3,k4⟩:=h1 w H enc n _ y hn hy1
 obtain ⟨k5,b,k6,k7,k8⟩:=h2 w H enc n cs fl ys' hn hf hl hy2
 subst ho
 have hsplit:(cs.drop f.offset).take (o' - f.offset)=(cs.drop f.offset).take i.size++(cs.drop (f.offset+i.size)).take (o' - (f.offset+i.size)):=by
  rw [show o' - f.offset=i.size+(o' - (f.offset+i.size)) by omega,List.take_add,List.drop_drop]
 refine ⟨by omega,(a,b),⟨y.1,ys'.map (·.1),rfl,k3,k6⟩,?_,?_⟩
 · rw [hsplit];exact k4.append k7
 · rw [hsplit]
   intro u hu
   rcases List.mem_append.1 hu with hu | hu
   · exact k2 u hu
   · exact k8 u hu
theorem rdM_struct (hE:E.ok) {T:TypeId} {i:TInfo} {fs:List (Nat × TypeId)} (hT:E.TI T=some i) (hd:i.desc=.struct fs) {rel:(H:Type)→List (DataW H)→α→Prop} (hf:RdFM N E 0 i.size fs rel c):RdM (N+1) E T (fun H d a=>∃ ds,d=.agg ds∧rel H ds a) c:=by
 refine ⟨i,hT,fun w H enc n cs x hnN hx=>?_⟩
 obtain ⟨fs',hu,hfs⟩:=(hE T i hT).struct hd
 cases n with
 | zero=>simp [DataW.trod] at hx
 | succ n =>
   rw [DataW.trod_step] at hx
   unfold DataW.trodStep at hx
   simp only [hu] at hx
   split at hx
   · rename_i hl
     obtain ⟨ys,hy,rfl⟩:=Option.map_eq_some_iff.1 hx
     rw [cellsOf_eq hE hT] at hl
     obtain ⟨_,a,h1,h2,h3⟩:=hf w H enc n cs fs'.toList ys (by omega) hfs (by omega) hy
     have ht:(cs.drop 0).take (i.size - 0)=cs:=by simp [← hl]
     rw [ht] at h2 h3
     exact ⟨hl,h3,a,⟨_,rfl,h1⟩,h2⟩
   · cases hx
def RdFN (N:Nat) (E:Env) (o o':Nat) (fs:List (Nat × TypeId)) {α:Type} (inv:α→Prop) (c:α→List AV):Prop:=RdFM N E o o' fs (fun _ _ a=>inv a) c
theorem rdFN_nil {o:Nat}:RdFN N E o o [] (fun _:Unit=>True) (fun _=>[]):=rdFM_nil
theorem rdFN_cons (hE:E.ok) {o o1 o':Nat} {T:TypeId} {fs:List (Nat × TypeId)} {i:TInfo} (hT:E.TI T=some i) (ho:o1=o+i.size) (h1:RdN N E T inv c) {inv2:β→Prop} {c2:β→List AV} (h2:RdFN N E o1 o' fs inv2 c2) :
 RdFN N E o o' ((o,T)::fs) (fun p:α × β=>inv p.1∧inv2 p.2) (fun p=>c p.1++c2 p.2):=fun w H enc n cs fl ys h3 h4 h5 h6=>by
 obtain ⟨k1,p,⟨_,_,_,k2,k3⟩,k4⟩:=rdFM_cons hE hT ho h1 h2 w H enc n cs fl ys h3 h4 h5 h6
 exact ⟨k1,p,⟨k2,k3⟩,k4⟩
theorem rdN_struct (hE:E.ok) {T:TypeId} {i:TInfo} {fs:List (Nat × TypeId)} (hT:E.TI T=some i) (hd:i.desc=.struct fs) (hf:RdFN N E 0 i.size fs inv c):RdN (N+1) E T inv c :=
 RdM.map (rdM_struct hE hT hd hf) id (fun _=>rfl) (fun _ _ _ ⟨_,_,h⟩=>h)
theorem rdM_slice (hE:E.ok) {T e:TypeId} {i ie:TInfo} (hT:E.TI T=some i) (hd:i.desc=.slice e) (hs:i.size=1) (he:E.TI e=some ie) (hse:0<ie.size) {rel:(H:Type)→DataW H→α→Prop} (h:RdM N E e rel c) {f:α→AV} (hf:∀ a,f a=if ie.agg then .agg (c a) else (c a).headD .bad) :
 RdM (N+1) E T (fun H d (l:List α)=>l.length≤maxLen∧(d=.nil∧l=[]∨∃ es sp,d=.slice es sp∧es.length=l.length∧∀ (j:Nat) y b,es[j]?=some y→l[j]?=some b→rel H y b)) (fun l=>[.view ie.size (l.map f)]):=by
 refine ⟨i,hT,fun w H enc n cs x hnN hx=>?_⟩
 have hu:=(hE T i hT).slice hd
 obtain ⟨ie',he',h⟩:=h
 rw [he] at he'
 cases he'
 cases n with
 | zero=>simp [DataW.trod] at hx
 | succ n =>
   rw [DataW.trod_step] at hx
   unfold DataW.trodStep at hx
   rw [hu] at hx
   rcases cs with _ | ⟨v,_ | ⟨v',vs⟩⟩
   · simp at hx
   · cases v with
     | slice a len cap =>
       cases a with
       | none =>
         cases len <;> cases cap <;> simp at hx
         refine ⟨by simp [hs],?_,[],⟨by simp,.inl ⟨by subst hx;rfl,rfl⟩⟩,?_⟩
         · intro u hu;simp at hu;subst hu;rfl
         · exact repVs_cons.2 ⟨_,[],rfl,⟨none,0,0,[],rfl,by simp [RepVs],rfl,Nat.le_refl _,by simp [maxLen],by simp,by simp⟩,by simp [RepVs]⟩
       | some a =>
         simp only at hx
         split at hx
         · rename_i hc
           simp only [Option.bind_eq_some_iff,Option.map_eq_some_iff] at hx
           obtain ⟨elems,hel,rest,hrest,rfl⟩:=hx
           obtain ⟨hl,hget⟩:=mapM_get hel
           rw [cellsOf_eq hE he] at hget
           have step:∀ k:Nat,k≤len→∃ (l:List α) (vs:List Value),l.length=k∧vs.length=k∧(∀ (j:Nat) y b,elems[j]?=some y→l[j]?=some b→rel H y.1 b)∧RepVs (gm w) [] (l.map f) vs∧(∀ u ∈ vs,okEl ie.size u) ∧
            ∀ (j:Nat) u,(flat vs)[j]?=some u→w.cell? (a.add j)=some u:=by
            intro k
            induction k with
            | zero=>intro _;exact ⟨[],[],rfl,rfl,by simp,by simp [RepVs],by simp,by simp [flat]⟩
            | succ k ih =>
              intro hk
              obtain ⟨l,vs,h1,h2,h3,h4,h5,h6⟩:=ih (by omega)
              obtain ⟨y,hy1,hy2⟩:=hget k k (List.getElem?_range (by omega))
              obtain ⟨cs',hc',hy3⟩:=Option.bind_eq_some_iff.1 hy2
              obtain ⟨k1,k2,b,k3,k4⟩:=h w H enc n cs' y (by omega) hy3
              have hcell:∀ (j:Nat) u,cs'[j]?=some u→w.cell? (a.add (k * ie.size+j))=some u:=by
               intro j u hj
               unfold World.cells? at hc'
               rw [if_pos (Nat.zero_le _)] at hc'
               obtain ⟨m1,m2⟩:=mapM_get hc'
               have hjl:j<ie.size:=by have:=(List.getElem?_eq_some_iff.1 hj).1;omega
               obtain ⟨z,z1,z2⟩:=m2 j j (List.getElem?_range (by omega))
               rw [hj] at z1
               cases z1
               have:(a.add (k * ie.size)).add j=a.add (k * ie.size+j):=by
                unfold Addr.add
                by_cases e1:k * ie.size=0 <;> by_cases e2:j=0 <;> simp [e1,e2]
                omega
               rw [← this];exact z2
              have helV:RepV (gm w) [] (f b) (elV ie.agg cs')∧okEl ie.size (elV ie.agg cs')∧(elV ie.agg cs').cells.toList=cs':=by
               rw [hf b]
               cases hag:ie.agg with
               | true =>
                 simp only [if_true,elV]
                 exact ⟨⟨cs',rfl,k4,k2⟩,⟨by simpa [Value.cells] using k1,by simpa [Value.cells] using k2⟩,by simp [Value.cells]⟩
               | false =>
                 have h1s:ie.size=1:=by
                  obtain ⟨inf,z,_,_,_,_,z4,_,_,z6,z7⟩:=(hE e ie he).info
                  rw [← z7,← z4,onec_cells (z6 hag)];rfl
                 rcases cs' with _ | ⟨u,_ | ⟨u',us⟩⟩
                 · simp at k1;omega
                 · obtain ⟨x0,xs0,e1⟩:∃ x xs,c b=x::xs:=by
                    cases hcb:c b with
                    | nil=>rw [hcb] at k4;simp [RepVs] at k4
                    | cons x xs=>exact ⟨x,xs,rfl⟩
                   rw [e1] at k4
                   obtain ⟨u2,us2,e3,e4,e5⟩:=repVs_cons.1 k4
                   cases e3
                   have hu1:=k2 u (by simp)
                   have hcu:u.cells.toList=[u]:=onec_cells hu1
                   simp only [Bool.false_eq_true,if_false,elV,e1,List.headD_cons]
                   exact ⟨e4,⟨by rw [← Array.length_toList,hcu,h1s];rfl,by rw [hcu];simpa using hu1⟩,hcu⟩
                 · simp at k1;omega
              refine ⟨l++[b],vs++[elV ie.agg cs'],by simp [h1],by simp [h2],?_,?_,?_,?_⟩
              · intro j z b' hz hb
                rw [List.getElem?_append] at hb
                split at hb
                · exact h3 j z b' hz hb
                · rename_i hge
                  have hjl:=(List.getElem?_eq_some_iff.1 hb).1
                  simp at hjl
                  have hjk:j=k:=by omega
                  subst hjk
                  rw [hy1] at hz;cases hz
                  simp [h1] at hb;subst hb;exact k3
              · rw [List.map_append]
                exact h4.append (repVs_cons.2 ⟨_,[],rfl,helV.1,by simp [RepVs]⟩)
              · intro u hu
                rcases List.mem_append.1 hu with hu | hu
                · exact h5 u hu
                · simp at hu;subst hu;exact helV.2.1
              · intro j u hj
                rw [flat_append,List.getElem?_append] at hj
                have hfl:=flat_length h5
                split at hj
                · exact h6 j u hj
                · rename_i hge
                  have hj':cs'[j - (flat vs).length]?=some u:=by
                   rw [← helV.2.2]
                   simpa [flat] using hj
                  have:=hcell _ _ hj'
                  rw [hfl,h2] at this hge
                  rwa [show k * ie.size+(j - k * ie.size)=j by omega] at this
           obtain ⟨l,vs,h1,h2,h3,h4,h5,h6⟩:=step len (Nat.le_refl _)
           refine ⟨by simp [hs],?_,l,⟨by omega,.inr ⟨_,_,rfl,by simpa [h1] using hl,fun j y b hy hb=>?_⟩⟩,?_⟩
           · intro u hu;simp at hu;subst hu;rfl
           · rw [List.getElem?_map,Option.map_eq_some_iff] at hy
             obtain ⟨z,hz,rfl⟩:=hy
             exact h3 j z b hz hb
           · refine repVs_cons.2 ⟨_,[],rfl,⟨some a,len,cap,vs,rfl,h4,h2,hc.2.1,hc.2.2,h5,fun hn=>?_⟩,by simp [RepVs]⟩
             have hfl:=flat_length h5
             have hpos:0<(flat vs).length:=by rw [hfl,h2];exact Nat.mul_pos (by omega) hse
             have h0:=h6 0 (flat vs)[0] (by simp [hpos])
             have ha0:a.add 0=a:=by simp [Addr.add]
             rw [ha0] at h0
             unfold World.cell? at h0
             split at h0
             · rename_i cc E' fr' hb
               split at h0
               · cases h0
               · rename_i hsp
                 obtain ⟨blk,off,spot⟩:=a
                 have:spot=none:=by simpa using hsp
                 subst this
                 refine ⟨blk,off,rfl,cc,E',fr',hb,fun j u hj=>?_⟩
                 have:=h6 j u hj
                 have hadd:(⟨blk,off,none⟩:Addr).add j=⟨blk,off+j,none⟩:=by
                  unfold Addr.add
                  split
                  · rename_i e;subst e;rfl
                  · rfl
                 rw [hadd] at this
                 unfold World.cell? at this
                 simp only at hb
                 simpa [hb] using this
             · cases h0
         · cases hx
     | _=>simp at hx
   · simp at hx
theorem rdN_slice (hE:E.ok) {T e:TypeId} {i ie:TInfo} (hT:E.TI T=some i) (hd:i.desc=.slice e) (hs:i.size=1) (he:E.TI e=some ie) (hse:0<ie.size) (h:RdN N E e inv c) {f:α→AV} (hf:∀ a,f a=if ie.agg then .agg (c a) else (c a).headD .bad) :
 RdN (N+1) E T (fun l:List α=>l.length≤maxLen∧∀ a ∈ l,inv a) (fun l=>[.view ie.size (l.map f)]) :=
 RdM.map (rdM_slice hE hT hd hs he hse h hf) id (fun _=>rfl) (fun H d l h=>by
  obtain ⟨h1,h2⟩:=h
  refine ⟨h1,fun a ha=>?_⟩
  rcases h2 with ⟨_,rfl⟩ | ⟨es,sp,_,h3,h4⟩
  · cases ha
  · obtain ⟨j,hj⟩:=List.getElem?_of_mem ha
    have hjl:j<l.length:=(List.getElem?_eq_some_iff.1 hj).1
    have hje:j<es.length:=by omega
    exact h4 j es[j] a (by simp) hj)
def RdVM (E:Env) (T:TypeId) {α:Type} (rel:(H:Type)→DataW H→α→Prop) (c:α→AV):Prop :=
 ∀ (w:World) (H:Type) (enc:TypeId × Value→H) (base:Nat) (v:Value) (d:DataW H) (p:List MemPlace),Value.okWide E.P w .any base T v→DataW.Trod enc E.P w 0 (fun _=>true) true T v d p→∃ a,rel H d a∧RepV (gm w) [] (c a) v
theorem RdV.m {T:TypeId} {f:α→AV} (h:RdV E T inv f):RdVM E T (fun _ _ a=>inv a) f:=h
theorem RdVM.agg (hE:E.ok) {T:TypeId} {i:TInfo} {fl:List (Nat × TypeId)} (hT:E.TI T=some i) (hd:i.desc=.struct fl) {f:α→AV} {rel:(H:Type)→DataW H→α→Prop} (h:∀ N,RdM N E T rel c) (hf:∀ a,f a=.agg (c a)):RdVM E T rel f:=by
 intro w H enc base v d p hok ht
 obtain ⟨n,hn⟩:=ht
 obtain ⟨fs,hu,_⟩:=(hE T i hT).struct hd
 obtain ⟨cs,hcs,hsz⟩:=okWide_struct hu hok
 subst hcs
 obtain ⟨i',_,h⟩:=h (n+1)
 obtain ⟨_,h2,a,h3,h4⟩:=h w H enc n _ _ (by omega) hn
 refine ⟨a,h3,?_⟩
 rw [hf]
 refine ⟨cs.toList,by simp,?_,?_⟩
 · simpa [Value.cells] using h4
 · simpa [Value.cells] using h2
def ReadsM (E:Env) (Ts:List TypeId) (Q:(H:Type)→List (DataW H)→List AV→Prop):Prop :=
 ∀ (w:World) (H:Type) (enc:TypeId × Value→H) (base:Nat) (vs:List Value) (ds:List (DataW H)) (p:List MemPlace),(∀ (j:Nat) t v,Ts[j]?=some t→vs[j]?=some v→Value.okWide E.P w .any base t v) →
   DataW.TrodAll enc E.P w 0 (fun _=>true) true Ts vs ds p→∃ as,Q H ds as∧RepVs (gm w) [] as vs
theorem readsM_nil:ReadsM E [] (fun _ ds as=>ds=[]∧as=[]):=by
 intro w H enc base vs ds p _ h
 obtain ⟨rfl,rfl,_⟩:=trodAll_nil h
 exact ⟨[],⟨rfl,rfl⟩,by simp [RepVs]⟩
theorem readsM_cons {T:TypeId} {Ts:List TypeId} {f:α→AV} {rel:(H:Type)→DataW H→α→Prop} {Q:(H:Type)→List (DataW H)→List AV→Prop} (h:RdVM E T rel f) (hr:ReadsM E Ts Q):ReadsM E (T::Ts) (fun H ds as=>∃ d ds' a as',ds=d::ds'∧rel H d a∧Q H ds' as'∧as=f a::as'):=by
 intro w H enc base vs ds p hok ht
 obtain ⟨v,vs',d,ds',p1,p2,rfl,rfl,rfl,h1,h2⟩:=trodAll_cons ht
 obtain ⟨a,ha,hra⟩:=h w H enc base v d p1 (hok 0 T v rfl rfl) h1
 obtain ⟨as,has,hras⟩:=hr w H enc base vs' ds' p2 (fun j t v h3 h4=>hok (j+1) t v (by simpa using h3) (by simpa using h4)) h2
 exact ⟨f a::as,⟨d,ds',a,as,rfl,ha,has,rfl⟩,repVs_cons.2 ⟨v,vs',rfl,hra,hras⟩⟩
theorem contract_ofM (hE:E.ok) (kids:Kids E.P (· < E.P.types.size)) (full:∀ t e,t<E.P.types.size→E.P.underlying t=some (.slice e)→0<E.P.cellsOf e)
 {f:FuncId} {fn:Func} {s:ChangeSpec} {apart fresh handsOn again:Bool} {tb:TypeId} {Q:(H:Type)→List (DataW H)→List AV→Prop} (hts:∀ t ∈ fn.params.toList,t<E.P.types.size) (hr:ReadsM E fn.params.toList Q)
 (hvars:s.vars=[])
 (hspec:∀ (H:Type) (ds:List (DataW H)),ds.length=fn.params.toList.length→(s.fn H ds).results=[.lit (.bool true)]∧(s.fn H ds).args=ds∧(s.fn H ds).vars=[])
 (hres:fn.resultTypes = #[tb]) (hbool:E.P.underlying tb=some .bool)
 (H:Type) (enc:TypeId × Value→H) (W:World) (base:Nat) (args:Array Value) (ds gs:List (DataW H)) (before:List MemPlace) (hglob:GlobOk (gm W))
 (hcall:∀ as,Q H ds as→ACalls E.P f as [] (fun r H=>r=.bool true∧H=[]))
 (hval:∀ (j:Nat) t v,fn.params[j]?=some t→args[j]?=some v→Value.okWide E.P W .any base t v)
 (hW:DataW.Whole enc E.P fn.params.toList s.vars apart W args.toList ds gs before) :
 Calls E.P f args W fun e W'=>∃ v,e=.returned v∧s.post enc E.P fn apart fresh handsOn again W args v W':=by
 obtain ⟨p,q,hA,_⟩:=id hW
 obtain ⟨as,hQ,hrep⟩:=hr W H enc base args.toList ds p (fun j t v h1 h2=>hval j t v (by simpa using h1) (by simpa using h2)) hA
 exact contract_core hE kids full hts (hcall as hQ) hvars hspec hres hbool H enc W args ds gs before hrep hglob hval hW
theorem RdV.agg (hE:E.ok) {T:TypeId} {i:TInfo} {fl:List (Nat × TypeId)} (hT:E.TI T=some i) (hd:i.desc=.struct fl) {f:α→AV} (h:Rd E T inv c) (hf:∀ a,f a=.agg (c a)):RdV E T inv f:=by
 intro w H enc base v d p hok ht
 obtain ⟨n,hn⟩:=ht
 obtain ⟨fs,hu,_⟩:=(hE T i hT).struct hd
 obtain ⟨cs,hcs,hsz⟩:=okWide_struct hu hok
 subst hcs
 obtain ⟨i',_,h⟩:=h
 obtain ⟨_,h2,a,h3,h4⟩:=h w H enc n _ _ hn
 refine ⟨a,h3,?_⟩
 rw [hf]
 refine ⟨cs.toList,by simp,?_,?_⟩
 · simpa [Value.cells] using h4
 · simpa [Value.cells] using h2
end
end Go.Al
