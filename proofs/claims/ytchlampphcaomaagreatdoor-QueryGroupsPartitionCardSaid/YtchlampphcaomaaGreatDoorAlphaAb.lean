/-
 A part of the proof: see the text of the law.
-/
import Derived.Test.YtchlampphcaomaaGreatDoorAlphaA
import Derived.Maps.RangeRun
set_option linter.unusedSimpArgs false
set_option linter.unusedVariables false
namespace Go.Al
def fits1:KL→AV→Bool
 | .int q,.int k n=>q == k && (Lit.int q n).wf
 | .bool,.bool _=>true
 | .str,.str s=>decide (s.size≤maxLen)
 | _,_=>false
def fitsAll:List KL→List AV→Bool
 | [],[]=>true
 | q::qs,x::xs=>fits1 q x && fitsAll qs xs
 | _,_=>false
def same1:AV→AV→Bool
 | .int _ a,.int _ b=>decide (a=b)
 | .bool a,.bool b=>a == b
 | .str a,.str b=>decide (a=b)
 | _,_=>false
def sameAll:List AV→List AV→Bool
 | [],[]=>true
 | x::xs,y::ys=>same1 x y && sameAll xs ys
 | _,_=>false
def keyIs:D→AV→Bool
 | .int q,.int k _=>q == k
 | .string,.str _=>true
 | .bool,.bool _=>true
 | .wide ls,.agg xs=>fitsAll ls xs
 | _,_=>false
def keysOk (d:D) (ks:List AV):Bool:=match d with | .wide _=>ks.all (keyIs d) | _=>true
def eqK:D→AV→AV→Option Bool
 | .int q,.int k a,.int k' b=>if q=k∧q=k' then some (decide (a=b)) else none
 | .string,.str a,.str b=>some (decide (a=b))
 | .bool,.bool a,.bool b=>some (a == b)
 | .wide ls,.agg xs,.agg ys=>if fitsAll ls xs && fitsAll ls ys then some (sameAll xs ys) else none
 | _,_,_=>none
def findK (d:D) (x:AV):List AV→Nat→Option (Option Nat)
 | [],_=>some none
 | y::r,i=>match eqK d x y with
   | some true=>some (some i)
   | some false=>findK d x r (i+1)
   | none=>none
theorem toD_int {t:TypeDesc} {q:IntKind} (h:toD t=.int q):t=.int q:=by cases t <;> simp [toD] at h;rw [h]
theorem toD_string {t:TypeDesc} (h:toD t=.string):t=.string:=by cases t <;> simp [toD] at h;rfl
theorem toD_wide {t:TypeDesc} {ls:List KL} (h:toD t=.wide ls):False:=by cases t <;> simp [toD] at h
theorem toD_bool {t:TypeDesc} (h:toD t=.bool):t=.bool:=by cases t <;> simp [toD] at h;rfl
section
variable {γ:Gm} {σ:Sg}
theorem keyIs_spec {td:TypeDesc} {x:AV} {v:Value} (h:keyIs (toD td) x=true) (hv:RepV γ σ x v):MapKept.IsKey td v:=by
 unfold keyIs at h
 split at h
 · rename_i q k n hq
   have:=toD_int hq
   simp only [RepV] at hv
   subst this hv
   simp only [beq_iff_eq] at h
   simp [MapKept.IsKey,h]
 · rename_i hq
   have:=toD_string hq
   simp only [RepV] at hv
   subst this hv
   trivial
 · rename_i hq
   have:=toD_bool hq
   simp only [RepV] at hv
   subst this hv
   trivial
 · rename_i hq;exact (toD_wide hq).elim
 · cases h
theorem eqK_spec {td:TypeDesc} {x y:AV} {u v:Value} {b:Bool} (h:eqK (toD td) x y=some b) (hx:RepV γ σ x v) (hy:RepV γ σ y u):Instr.sameNow td v u=some b∧(b=true→u=v):=by
 unfold eqK at h
 split at h
 · rename_i q k a k' c hq
   have:=toD_int hq
   simp only [RepV] at hx hy
   subst this hx hy
   split at h
   · rename_i hkk
     obtain ⟨rfl,rfl⟩:=hkk
     cases h
     refine ⟨by simp [Instr.sameNow];by_cases hac:a=c <;> simp [hac],fun h=>by simp at h;rw [h]⟩
   · cases h
 · rename_i hq
   have:=toD_string hq
   simp only [RepV] at hx hy
   subst this hx hy
   cases h
   exact ⟨by simp only [Instr.sameNow,Option.some.injEq];rw [Bool.eq_iff_iff,MapKept.bytes_beq];simp,fun h=>by simp at h;rw [h]⟩
 · rename_i hq
   have:=toD_bool hq
   simp only [RepV] at hx hy
   subst this hx hy
   cases h
   exact ⟨rfl,fun h=>by simp at h;rw [h]⟩
 · rename_i hq;exact (toD_wide hq).elim
 · cases h
theorem findK_spec {td:TypeDesc} {x:AV} {v:Value} (hx:RepV γ σ x v):∀ (es:List MapEntry) (ks:List AV) (i:Nat) (o:Option Nat),RepVs γ σ ks (es.map (·.key))→findK (toD td) x ks i=some o →
 (o=none∧Instr.findNow td v es i=some none)∨∃ j e,o=some (i+j)∧es[j]?=some e∧e.key=v∧Instr.findNow td v es i=some (some (i+j,e.val))
 | [],ks,i,o,hk,h=>by
   have:=hk.length
   simp at this
   have hks:ks=[]:=List.eq_nil_of_length_eq_zero this.symm
   subst hks
   simp only [findK,Option.some.injEq] at h
   exact .inl ⟨h.symm,rfl⟩
 | e::es,[],i,o,hk,h=>by simp [RepVs] at hk
 | e::es,y::ks,i,o,hk,h=>by
   obtain ⟨u,us,heq,h1,h2⟩:=repVs_cons.1 hk
   simp only [List.map_cons,List.cons.injEq] at heq
   obtain ⟨rfl,rfl⟩:=heq
   simp only [findK] at h
   split at h
   · rename_i hb
     cases h
     obtain ⟨h3,h4⟩:=eqK_spec hb hx h1
     exact .inr ⟨0,e,by simp,rfl,h4 rfl,by simp [Instr.findNow,h3]⟩
   · rename_i hb
     obtain ⟨h3,_⟩:=eqK_spec hb hx h1
     rcases findK_spec hx es ks (i+1) o h2 h with ⟨h5,h6⟩ | ⟨j,e',h5,h6,h7,h8⟩
     · exact .inl ⟨h5,by simp [Instr.findNow,h3,h6]⟩
     · exact .inr ⟨j+1,e',by rw [h5];congr 1;omega,by simpa using h6,h7,by simp only [Instr.findNow,h3,h8];congr 3;omega⟩
   · cases h
end
def look (d:D) (z:AV) (ks vs:List AV) (x:AV):Option (AV × Bool):=if keyIs d x && keysOk d ks then (match findK d x ks 0 with
 | some (some j)=>vs[j]?.map fun v=>(v,true)
 | some none=>some (z,false)
 | none=>none) else none
section
variable {E:Env} {γ:Gm} {σ:Sg}
theorem zero_rep {T:TypeId} {i:TInfo} (h:InfoOk E.P T i):∃ z,(∀ w,(zeroValue T).run E.P w=.ok z w)∧∀ γ σ,RepV γ σ (ofCells i.agg (i.zero.map ofV)) z:=by
 obtain ⟨inf,z,h1,h2,h3,h4,h5,h6⟩:=repV_zero h
 exact ⟨z,fun w=>by simp [zeroValue,typeInfo,h1,h4],h6⟩
def lookRes (ok:Bool) (v:Value) (f:Bool):Value:=if ok then .tuple #[v,.bool f] else v
def lookA (ok:Bool) (r:AV × Bool):AV:=if ok then .tup [r.1,.bool r.2] else r.1
theorem lookA_spec {ok f:Bool} {v:Value} {x:AV} (h:RepV γ σ x v):RepV γ σ (lookA ok (x,f)) (lookRes ok v f):=by
 cases ok with
 | false=>exact h
 | true=>exact ⟨[v,.bool f],by simp [lookRes],repVs_cons.2 ⟨_,_,rfl,h,repVs_cons.2 ⟨_,_,rfl,rfl,repVs_nil.2 rfl⟩⟩⟩
theorem find_same {td:TypeDesc} {x:AV} {v:Value} {γ:Gm} {σ:Sg} (hki:keyIs (toD td) x=true) (hx:RepV γ σ x v) {ks:List AV} {l l':List MapEntry} (hs:SameMap l l') (hks:RepVs γ σ ks (l'.map (·.key))) {o:Option Nat} (ho:findK (toD td) x ks 0=some o)
 {r:Option (Nat × Value)} (hr:Instr.findNow td v l' 0=some r):∃ r',Instr.findNow td v l 0=some r'∧r'.map (·.2)=r.map (·.2):=by
 rcases hs with rfl | ⟨hp,hnd,kd,hint⟩
 · exact ⟨r,hr,rfl⟩
 have hkey:=keyIs_spec hki hx
 have hall:∀ e ∈ l',MapKept.IsKey td e.key:=by
  cases l' with
  | nil=>simp
  | cons e0 l1 =>
    cases ks with
    | nil=>simp [RepVs] at hks
    | cons y ks =>
      obtain ⟨u,us,heq,h1,h2⟩:=repVs_cons.1 hks
      simp only [List.map_cons,List.cons.injEq] at heq
      obtain ⟨rfl,rfl⟩:=heq
      obtain ⟨n0,hn0⟩:=hint e0 (List.mem_cons_self ..)
      rw [hn0] at h1
      have htd:td=.int kd:=by
       simp only [findK] at ho
       have hb:∃ b,eqK (toD td) x y=some b:=by
        cases hq:eqK (toD td) x y with
        | none=>rw [hq] at ho;simp at ho
        | some b=>exact ⟨b,rfl⟩
       obtain ⟨b,hb⟩:=hb
       unfold eqK at hb
       split at hb
       · rename_i q k a k' c hq
         have hq:=toD_int hq
         simp only [RepV] at h1
         split at hb
         · rename_i hkk
           cases h1
           rw [hq,hkk.2]
         · cases hb
       · simp [RepV] at h1
       · simp [RepV] at h1
       · simp [RepV] at h1
       · cases hb
      intro e he
      obtain ⟨n,hn⟩:=hint e he
      rw [hn,htd]
      simp [MapKept.IsKey]
 have hall':∀ e ∈ l,MapKept.IsKey td e.key:=fun e he=>hall e (hp.mem_iff.1 he)
 have inj:∀ e ∈ l',∀ e' ∈ l',e.key=e'.key→e=e':=by
  intro e he e' he' hk
  obtain ⟨i,hi⟩:=List.getElem?_of_mem he
  obtain ⟨j,hj⟩:=List.getElem?_of_mem he'
  have hlt:i<(l'.map (·.key)).length:=by
   rw [List.length_map]
   exact (List.getElem?_eq_some_iff.1 hi).1
  have:=(List.getElem?_inj hlt hnd (j:=j)).1 (by rw [List.getElem?_map,List.getElem?_map,hi,hj];simp [hk])
  subst this
  rw [hi] at hj
  exact Option.some.inj hj
 rcases MapKept.findNow_spec hkey l' 0 hall with ⟨h1,h2⟩ | ⟨j,e,h1,h2,h3⟩ <;> rcases MapKept.findNow_spec hkey l 0 hall' with ⟨h4,h5⟩ | ⟨j',e',h4,h5,h6⟩
 · rw [h1] at hr;cases hr
   exact ⟨_,h4,rfl⟩
 · exact absurd h6 (h2 _ (hp.mem_iff.1 (List.mem_of_getElem? h5)))
 · exact absurd h3 (h5 _ (hp.mem_iff.2 (List.mem_of_getElem? h2)))
 · rw [h1] at hr;cases hr
   have:=inj e (List.mem_of_getElem? h2) e' (hp.mem_iff.1 (List.mem_of_getElem? h5)) (by rw [h3,h6])
   exact ⟨_,h4,by rw [this];rfl⟩
theorem fits1_spec {q:KL} {x:AV} {v:Value} (h:fits1 q x=true) (hv:RepV γ σ x v):q.fits v:=by
 unfold fits1 at h
 split at h
 · simp only [RepV] at hv;subst hv
   simp only [Bool.and_eq_true,beq_iff_eq] at h
   exact ⟨h.1.symm,h.2⟩
 · simp only [RepV] at hv;subst hv;trivial
 · simp only [RepV] at hv;subst hv
   have h:=of_decide_eq_true h
   exact h
 · cases h
theorem fitsAll_spec:∀ {ls:List KL} {xs:List AV} {vs:List Value},fitsAll ls xs=true→RepVs γ σ xs vs→KMatch ls vs
 | [],[],vs,_,hv=>by rw [repVs_nil] at hv;subst hv;trivial
 | q::qs,x::xs,vs,h,hv=>by
   obtain ⟨v,vs',rfl,h1,h2⟩:=repVs_cons.1 hv
   simp only [fitsAll,Bool.and_eq_true] at h
   exact ⟨fits1_spec h.1 h1,fitsAll_spec h.2 h2⟩
 | [],_::_,_,h,_=>by simp [fitsAll] at h
 | _::_,[],_,h,_=>by simp [fitsAll] at h
theorem same1_spec {q:KL} {x y:AV} {u v:Value} (hx:fits1 q x=true) (hy:fits1 q y=true) (h1:RepV γ σ x u) (h2:RepV γ σ y v):same1 x y=true↔v=u:=by
 unfold fits1 at hx hy
 split at hx
 · cases y <;> simp at hy
   simp only [RepV] at h1 h2;subst h1 h2
   simp only [Bool.and_eq_true,beq_iff_eq] at hx
   obtain ⟨rfl,_⟩:=hx
   obtain ⟨rfl,_⟩:=hy
   simp [same1,eq_comm]
 · cases y <;> simp at hy
   simp only [RepV] at h1 h2;subst h1 h2
   simp only [same1,beq_iff_eq,Value.bool.injEq];exact eq_comm
 · cases y <;> simp at hy
   simp only [RepV] at h1 h2;subst h1 h2
   simp only [same1,decide_eq_true_eq,Value.string.injEq];exact eq_comm
 · cases hx
theorem sameAll_spec:∀ {ls:List KL} {xs ys:List AV} {us vs:List Value},fitsAll ls xs=true→fitsAll ls ys=true→RepVs γ σ xs us→RepVs γ σ ys vs→(sameAll xs ys=true↔vs=us)
 | [],[],[],us,vs,_,_,h1,h2=>by rw [repVs_nil] at h1 h2;subst h1 h2;simp [sameAll]
 | q::qs,x::xs,y::ys,us,vs,hx,hy,h1,h2=>by
   obtain ⟨u,us',rfl,h3,h4⟩:=repVs_cons.1 h1
   obtain ⟨v,vs',rfl,h5,h6⟩:=repVs_cons.1 h2
   simp only [fitsAll,Bool.and_eq_true] at hx hy
   have e1:=same1_spec hx.1 hy.1 h3 h5
   have e2:=sameAll_spec hx.2 hy.2 h4 h6
   rw [List.cons.injEq,← e1,← e2,sameAll,Bool.and_eq_true]
 | [],_::_,_,_,_,h,_,_,_=>by simp [fitsAll] at h
 | _::_,[],_,_,_,h,_,_,_=>by simp [fitsAll] at h
 | [],[],_::_,_,_,_,h,_,_=>by simp [fitsAll] at h
 | _::_,_::_,[],_,_,_,h,_,_=>by simp [fitsAll] at h
theorem agg_inj {us vs:List Value} (h:Value.agg us.toArray=.agg vs.toArray):us=vs:=by
 simpa using h
theorem findW {ls:List KL} {x:AV} {v:Value} (hkx:keyIs (.wide ls) x=true) (hx:RepV γ σ x v):∀ (es:List MapEntry) (ks:List AV) (i:Nat) (o:Option Nat),RepVs γ σ ks (es.map (·.key))→ks.all (keyIs (.wide ls))=true→findK (.wide ls) x ks i=some o →
 (o=none∧∀ e ∈ es,e.key≠v)∨∃ j e,o=some (i+j)∧es[j]?=some e∧e.key=v∧∀ j' e',j'<j→es[j']?=some e'→e'.key≠v
 | [],ks,i,o,hk,_,h=>by
   have:=hk.length
   simp at this
   have hks:ks=[]:=List.eq_nil_of_length_eq_zero this.symm
   subst hks
   simp only [findK,Option.some.injEq] at h
   exact .inl ⟨h.symm,by simp⟩
 | e::es,[],i,o,hk,_,h=>by simp [RepVs] at hk
 | e::es,y::ks,i,o,hk,ha,h=>by
   obtain ⟨u,us,heq,h1,h2⟩:=repVs_cons.1 hk
   simp only [List.map_cons,List.cons.injEq] at heq
   obtain ⟨rfl,rfl⟩:=heq
   simp only [List.all_cons,Bool.and_eq_true] at ha
   have hb:∃ b,eqK (.wide ls) x y=some b∧(b=true↔e.key=v):=by
    cases x <;> simp [keyIs] at hkx
    cases y <;> simp [keyIs] at ha
    rename_i xs ys
    obtain ⟨vs,rfl,h3,_⟩:=hx
    obtain ⟨us,h4,h5,_⟩:=h1
    refine ⟨sameAll xs ys,by simp [eqK,hkx,ha.1],?_⟩
    rw [sameAll_spec hkx ha.1 h3 h5,h4]
    constructor
    · rintro rfl;rfl
    · exact fun h=>agg_inj h
   obtain ⟨b,hb,hbe⟩:=hb
   simp only [findK,hb] at h
   cases b with
   | true =>
     simp only [Option.some.injEq] at h
     exact .inr ⟨0,e,by simp [← h],rfl,hbe.1 rfl,fun j' e' hj=>by omega⟩
   | false =>
     simp only at h
     have hne:e.key≠v:=fun hc=>by have:=hbe.2 hc;cases this
     rcases findW hkx hx es ks (i+1) o h2 (by simpa using ha.2) h with ⟨h5,h6⟩ | ⟨j,e',h5,h6,h7,h8⟩
     · exact .inl ⟨h5,fun e'' he=>by
        rcases List.mem_cons.1 he with rfl | he
        · exact hne
        · exact h6 _ he⟩
     · refine .inr ⟨j+1,e',by rw [h5];congr 1;omega,by simpa using h6,h7,fun j' e'' hj he=>?_⟩
       cases j' with
       | zero=>simp at he;subst he;exact hne
       | succ j'=>exact h8 j' e'' (by omega) (by simpa using he)
theorem asking {P:Program} {k:TypeId} (hk:P.keyTypeAt 2 k=true) (hwide:(match P.underlying k with | some (.array _ _) | some (.struct _)=>true | _=>false)=true) (L:WideMaps.KeyLaw P k) {v:Value} {lv:Lit} (hv:keyOf P k v=some lv) (w:World) :
 ∀ (es:List MapEntry) (i:Nat),(∀ e ∈ es,∃ l,keyOf P k e.key=some l) →
   ((∀ e ∈ es,e.key≠v)→(Instr.findAsking k v es i).run P w=.ok none w)∧∀ j e,es[j]?=some e→e.key=v→(∀ j' e',j'<j→es[j']?=some e'→e'.key≠v)→(Instr.findAsking k v es i).run P w=.ok (some (i+j,e.val)) w
 | [],i,_=>⟨fun _=>rfl,fun j e h=>by simp at h⟩
 | e0::es,i,hall=>by
   obtain ⟨l0,h0⟩:=hall e0 (by simp)
   obtain ⟨r,h1,h2⟩:=run_equal_deep w (m:=2) (by omega) hk hwide hv h0
   obtain ⟨h3,h4⟩:=asking hk hwide L hv w es (i+1) fun e he=>hall e (by simp [he])
   have h5:r=true↔e0.key=v:=by
    rw [h2]
    constructor
    · rintro rfl;exact L.inj h0 hv
    · rintro rfl;rw [hv] at h0;exact Option.some.inj h0
   constructor
   · intro hne
     have hr:r=false:=by
      cases r with
      | false=>rfl
      | true=>exact absurd (h5.1 rfl) (hne e0 (by simp))
     subst hr
     simp only [Instr.findAsking,Sem.run_bind,h1,Result.andThen_ok,Bool.false_eq_true,if_false]
     exact h3 fun e he=>hne e (by simp [he])
   · intro j e hj hkey hfirst
     cases j with
     | zero =>
       simp at hj;subst hj
       have hr:r=true:=h5.2 hkey
       subst hr
       simp [Instr.findAsking,Sem.run_bind,h1,Result.andThen_ok]
     | succ j =>
       have hr:r=false:=by
        cases r with
        | false=>rfl
        | true=>exact absurd (h5.1 rfl) (hfirst 0 e0 (by omega) rfl)
       subst hr
       simp only [Instr.findAsking,Sem.run_bind,h1,Result.andThen_ok,Bool.false_eq_true,if_false]
       rw [h4 j e (by simpa using hj) hkey fun j' e' hj' he'=>hfirst (j'+1) e' (by omega) (by simpa using he')]
       congr 3;omega
theorem keyWide {P:Program} {t:TypeId} {ls:List KL} (hk:keyOkB P t ls=true):P.keyTypeAt 2 t=true∧(match P.underlying t with | some (.array _ _) | some (.struct _)=>true | _=>false)=true:=by
 simp only [keyOkB,Bool.and_eq_true,decide_eq_true_eq] at hk
 obtain ⟨⟨⟨⟨_,h1⟩,h2⟩,h3⟩,_⟩:=hk
 refine ⟨h1,?_⟩
 unfold flatKeyB at h3
 split at h3
 · rename_i hu;rw [hu]
 · rename_i hu;rw [hu]
 · cases h3
theorem find_run (hE:E.ok) {kt:TypeId} {ki:TInfo} (hk:E.TI kt=some ki) {x:AV} {v:Value} (hki:keyIs (kdOf ki) x=true) (hx:RepV γ σ x v) {ks:List AV} {l l':List MapEntry} (hs:SameMap l l') (hks:RepVs γ σ ks (l'.map (·.key))) (hko:keysOk (kdOf ki) ks=true) {o:Option Nat} (ho:findK (kdOf ki) x ks 0=some o) :
 (∀ em w,(Instr.checkKey em 10000 kt v).run E.P w=.ok () w)∧(∀ w,(Instr.keyThatStays v v).run E.P w=.ok v w) ∧
 ((o=none∧∀ w,(Instr.findKey kt v l).run E.P w=.ok none w)∨∃ j e j',o=some j∧l'[j]?=some e∧e.key=v∧(∀ w,(Instr.findKey kt v l).run E.P w=.ok (some (j',e.val)) w)∧(l'=l→j'=j)):=by
 unfold kdOf at hki hko ho
 split at hki
 · rename_i hkey
   rw [if_pos hkey] at hko ho
   have hkk:=(hE kt ki hk).key hkey
   have L:=keyLaw_flat hkk
   have hof:∀ {y:AV} {u:Value},keyIs (.wide (ki.zero.map klOf)) y=true→RepV γ σ y u→∃ l,keyOf E.P kt u=some l:=by
    intro y u hy hu
    cases y <;> simp [keyIs] at hy
    obtain ⟨us,rfl,h3,_⟩:=hu
    exact keyOf_flat hkk (by simpa using fitsAll_spec hy h3)
   obtain ⟨lv,hlv⟩:=hof hki hx
   refine ⟨fun em w=>L.check w em hlv,fun w=>L.stays w hlv,?_⟩
   have hll:l'=l:=by
    rcases hs with h | ⟨hp,hnd,kd,hint⟩
    · exact h
    · cases l' with
      | nil=>exact (List.Perm.eq_nil hp).symm
      | cons e0 l1 =>
        exfalso
        cases ks with
        | nil=>simp [RepVs] at hks
        | cons y ks =>
          obtain ⟨u,us,heq,h1,h2⟩:=repVs_cons.1 hks
          simp only [List.map_cons,List.cons.injEq] at heq
          obtain ⟨rfl,rfl⟩:=heq
          obtain ⟨n0,hn0⟩:=hint e0 (List.mem_cons_self ..)
          rw [hn0] at h1
          simp only [keysOk,List.all_cons,Bool.and_eq_true] at hko
          cases y <;> simp [keyIs] at hko
          simp [RepV] at h1
   subst hll
   have hent:∀ e ∈ l',∃ lk,keyOf E.P kt e.key=some lk:=by
    intro e he
    obtain ⟨i,hi⟩:=List.getElem?_of_mem he
    have hlen:=hks.length
    have hlt:=(List.getElem?_eq_some_iff.1 hi).1
    obtain ⟨y,hy⟩:∃ y,ks[i]?=some y:=⟨ks[i]'(by simp at hlen;omega),by simp⟩
    obtain ⟨u,hu,hr⟩:=hks.get i y hy
    rw [List.getElem?_map,hi] at hu
    simp at hu
    subst hu
    simp only [keysOk,List.all_eq_true] at hko
    exact hof (hko y (List.mem_of_getElem? hy)) hr
   rcases findW hki hx l' ks 0 o hks (by simpa [keysOk] using hko) ho with ⟨h1,h2⟩ | ⟨j,e,h1,h2,h3,h4⟩
   · exact .inl ⟨h1,fun w=>by rw [run_findKey_eq w (keyWide hkk).2];exact (asking (keyWide hkk).1 (keyWide hkk).2 L hlv w l' 0 hent).1 h2⟩
   · refine .inr ⟨j,e,j,by rw [h1,Nat.zero_add],h2,h3,fun w=>?_,fun _=>rfl⟩
     rw [run_findKey_eq w (keyWide hkk).2,(asking (keyWide hkk).1 (keyWide hkk).2 L hlv w l' 0 hent).2 j e h2 h3 h4,Nat.zero_add]
 · rename_i hkey
   rw [if_neg hkey] at hko ho
   obtain ⟨td,h1,h2⟩:=(hE kt ki hk).desc
   rw [← h2] at hki ho
   have hkk:=keyIs_spec hki hx
   refine ⟨fun em w=>MapKept.run_checkKey h1 hkk em 9999,fun w=>MapKept.run_keyThatStays hkk,?_⟩
   rcases findK_spec (td:=td) hx l' ks 0 o hks ho with ⟨rfl,h3⟩ | ⟨j,e,rfl,h3,h4,h5⟩
   · obtain ⟨r',hr',hr2⟩:=find_same hki hx hs hks ho h3
     cases r' with
     | some _=>simp at hr2
     | none=>exact .inl ⟨rfl,fun w=>MapKept.run_findKey h1 hr'⟩
   · obtain ⟨r',hr',hr2⟩:=find_same hki hx hs hks ho h5
     cases r' with
     | none=>simp at hr2
     | some jr =>
       obtain ⟨j',v'⟩:=jr
       simp only [Option.map_some,Option.some.injEq] at hr2
       subst hr2
       refine .inr ⟨j,e,j',by rw [Nat.zero_add],h3,h4,fun w=>MapKept.run_findKey h1 hr',fun hll=>?_⟩
       subst hll
       rw [h5] at hr'
       simp at hr'
       exact hr'.symm
theorem look_run (hE:E.ok) {T kt et:TypeId} {ti ki ei:TInfo} (hT:E.TI T=some ti) (hd:ti.desc=.map kt et) (hk:E.TI kt=some ki) (he:E.TI et=some ei) {x:AV} {v:Value} (hx:RepV γ σ x v) {ok:Bool}
 {ks vs:List AV} {es:Array MapEntry} {es':List MapEntry} (hs:SameMap es.toList es') (hks:RepVs γ σ ks (es'.map (·.key))) (hvs:RepVs γ σ vs (es'.map (·.val))) {r:AV × Bool} (hr:look (kdOf ki) (ofCells ei.agg (ei.zero.map ofV)) ks vs x=some r) :
 ∃ u,RepV γ σ (lookA ok r) u∧(∀ b c w',w'.heap[b]?=some (.map es c)→(Instr.lookup T (.map (some b)) v ok).run E.P w'=.ok u w')∧(es = #[]→∀ w',(Instr.lookup T (.map none) v ok).run E.P w'=.ok u w'):=by
 have hun:=(hE T ti hT).map hd
 obtain ⟨z,hz1,hz2⟩:=zero_rep (hE et ei he)
 unfold look at hr
 split at hr
 · rename_i hki
   simp only [Bool.and_eq_true] at hki
   obtain ⟨hki,hko⟩:=hki
   have key:∀ (o:Option Nat),findK (kdOf ki) x ks 0=some o→∀ (u:Value) (f:Bool),(match o with | some j=>∃ e,es'[j]?=some e∧u=e.val∧f=true | none=>u=z∧f=false) →
    (∀ b c w',w'.heap[b]?=some (.map es c)→(Instr.lookup T (.map (some b)) v ok).run E.P w'=.ok (lookRes ok u f) w')∧(es = #[]→∀ w',(Instr.lookup T (.map none) v ok).run E.P w'=.ok (lookRes ok u f) w'):=by
    intro o ho u f hu
    obtain ⟨hc,_,h⟩:=find_run hE hk hki hx hs hks hko ho
    rcases h with ⟨rfl,h3⟩ | ⟨j,e,j',rfl,h3,h4,h5,_⟩
    · obtain ⟨rfl,rfl⟩:=hu
      refine ⟨fun b c w' hb=>?_,fun h0 w'=>?_⟩
      · simp only [Instr.lookup,Sem.run_bind,run_underlying hun,Result.andThen_ok,MapKept.run_getObj_map hb,hc,h3,Sem.run_pure,hz1]
        cases ok <;> rfl
      · subst h0
        have h3:=h3 w'
        simp only at h3
        simp only [Instr.lookup,Sem.run_bind,run_underlying hun,Result.andThen_ok,hc,h3,Sem.run_pure,hz1]
        cases ok <;> rfl
    · obtain ⟨e',h6,rfl,rfl⟩:=hu
      rw [h3] at h6;cases h6
      refine ⟨fun b c w' hb=>?_,fun h0 w'=>?_⟩
      · simp only [Instr.lookup,Sem.run_bind,run_underlying hun,Result.andThen_ok,MapKept.run_getObj_map hb,hc,h5,Sem.run_pure]
        cases ok <;> rfl
      · subst h0
        rcases hs with rfl | ⟨hs,_⟩
        · simp at h3
        · have:=hs.nil_eq
          subst this
          simp at h3
   split at hr
   · rename_i j hj
     obtain ⟨y,hy,rfl⟩:=Option.map_eq_some_iff.1 hr
     obtain ⟨u,hu,hyu⟩:=hvs.get j y hy
     rw [List.getElem?_map] at hu
     obtain ⟨e,he',rfl⟩:=Option.map_eq_some_iff.1 hu
     obtain ⟨h3,h4⟩:=key _ hj e.val true ⟨e,he',rfl,rfl⟩
     exact ⟨_,lookA_spec hyu,h3,h4⟩
   · rename_i hj
     cases hr
     obtain ⟨h3,h4⟩:=key _ hj z false ⟨rfl,rfl⟩
     exact ⟨_,lookA_spec (hz2 γ σ),h3,h4⟩
   · cases hr
 · cases hr
def putK (d:D) (ks vs:List AV) (bs:List Nat) (c:Nat) (x v:AV):Option AObj:=if keyIs d x && keysOk d ks then (match findK d x ks 0 with
 | some (some j)=>some (.map ks (vs.set j v) bs c)
 | some none=>some (.map (ks++[x]) (vs++[v]) (bs++[c]) (c+1))
 | none=>none) else none
def delK (d:D) (ks vs:List AV) (bs:List Nat) (c:Nat) (x:AV):Option AObj:=if keyIs d x && keysOk d ks then (match findK d x ks 0 with
 | some (some j)=>some (.map (ks.eraseIdx j) (vs.eraseIdx j) (bs.eraseIdx j) c)
 | some none=>some (.map ks vs bs c)
 | none=>none) else none
theorem RepVs.eraseIdx:∀ {xs:List AV} {vs:List Value} (j:Nat),RepVs γ σ xs vs→RepVs γ σ (xs.eraseIdx j) (vs.eraseIdx j)
 | [],_,j,h=>by rw [repVs_nil] at h;subst h;simp [RepVs]
 | x::xs,_,0,h=>by
   obtain ⟨v,vs',rfl,h1,h2⟩:=repVs_cons.1 h
   exact h2
 | x::xs,_,j+1,h=>by
   obtain ⟨v,vs',rfl,h1,h2⟩:=repVs_cons.1 h
   exact repVs_cons.2 ⟨v,_,rfl,h1,RepVs.eraseIdx j h2⟩
theorem put_run (hE:E.ok) {T kt et:TypeId} {ti ki:TInfo} (hT:E.TI T=some ti) (hd:ti.desc=.map kt et) (hk:E.TI kt=some ki) {x y:AV} {v u:Value} (hx:RepV γ σ x v) (hy:RepV γ σ y u)
 {ks vs:List AV} {bs:List Nat} {c:Nat} {w:World} {b:Nat} {kv vv:List Value} (hks:RepVs γ σ ks kv) (hvs:RepVs γ σ vs vv) (hm:MapAtB w.heap[b]? kv vv bs c) {o:AObj} (ho:putK (kdOf ki) ks vs bs c x y=some o) :
 ∃ es' c' ks' vs' bs',o=.map ks' vs' bs' c'∧(Instr.mapUpdate T (.map (some b)) v u).run E.P w=.ok () (ChangeMaps.setBlock w b (.map es' c'))∧RepVs γ σ ks' (es'.toList.map (·.key))∧RepVs γ σ vs' (es'.toList.map (·.val))∧es'.toList.map (·.born)=bs'∧(∀ i ∈ bs',i<c')∧bs'.Pairwise (· < ·):=by
 have hun:=(hE T ti hT).map hd
 obtain ⟨es,hb,rfl,rfl,rfl,hlt,hpw⟩:=hm
 unfold putK at ho
 split at ho
 · rename_i hki
   simp only [Bool.and_eq_true] at hki
   obtain ⟨hki,hko⟩:=hki
   split at ho
   · rename_i j hj
     cases ho
     obtain ⟨hc,hst,hf⟩:=find_run hE hk hki hx (.inl rfl) hks hko hj
     rcases hf with ⟨h3,_⟩ | ⟨j',e,j2,h3,h4,h5,h6,h7⟩
     · cases h3
     · simp only [Option.some.injEq] at h3
       subst h3
       have e2:=(h7 rfl).symm
       subst e2
       have hj':es[j]?=some e:=by simpa using h4
       have hmod:(es.modify j fun e=>{ e with key:=v,val:=u }).toList=es.toList.set j { e with key:=v,val:=u }:=by
        rw [Array.toList_modify]
        exact ChangeMaps.modify_eq_set _ _ _ _ h4
       refine ⟨es.modify j fun e=>{ e with key:=v,val:=u },c,ks,vs.set j y,_,rfl,?_,?_,?_,?_,hlt,hpw⟩
       · simp [Instr.mapUpdate,run_underlying hun,MapKept.run_getObj_map hb,hc,h6,hj',h5,hst,MapKept.run_setObj_map _ hb,Result.andThen,ChangeMaps.setBlock]
       · rw [hmod,List.map_set]
         have:(es.toList.map (·.key)).set j v=es.toList.map (·.key):=by
          apply List.ext_getElem?
          intro i
          rw [List.getElem?_set]
          split
          · rename_i hij;subst hij
            have hl:=(List.getElem?_eq_some_iff.1 h4).1
            rw [if_pos (by simpa using hl),List.getElem?_map,h4,Option.map_some,h5]
          · rfl
         rw [this];exact hks
       · rw [hmod,List.map_set]
         exact RepVs.set hy j hvs
       · rw [hmod,List.map_set]
         apply List.ext_getElem?
         intro i
         rw [List.getElem?_set]
         split
         · rename_i hij;subst hij
           have hl:=(List.getElem?_eq_some_iff.1 h4).1
           rw [if_pos (by simpa using hl),List.getElem?_map,h4,Option.map_some]
         · rfl
   · rename_i hj
     cases ho
     obtain ⟨hc,hst,hf⟩:=find_run hE hk hki hx (.inl rfl) hks hko hj
     rcases hf with ⟨_,h6⟩ | ⟨j',e,j2,h3,_⟩
     · refine ⟨es.push { key:=v,val:=u,born:=c },c+1,_,_,_,rfl,?_,?_,?_,?_,?_,?_⟩
       · simp [Instr.mapUpdate,run_underlying hun,MapKept.run_getObj_map hb,hc,h6,MapKept.run_setObj_map _ hb,Result.andThen,ChangeMaps.setBlock]
       · simp only [Array.toList_push,List.map_append,List.map_cons,List.map_nil]
         exact RepVs.append hks (repVs_cons.2 ⟨_,_,rfl,hx,repVs_nil.2 rfl⟩)
       · simp only [Array.toList_push,List.map_append,List.map_cons,List.map_nil]
         exact RepVs.append hvs (repVs_cons.2 ⟨_,_,rfl,hy,repVs_nil.2 rfl⟩)
       · simp
       · intro i hi
         rcases List.mem_append.1 hi with hi | hi
         · have:=hlt i hi;omega
         · simp at hi;omega
       · refine List.pairwise_append.2 ⟨hpw,by simp,fun i hi k hk=>?_⟩
         simp at hk;subst hk
         exact hlt i hi
     · cases h3
   · cases ho
 · cases ho
theorem del_run (hE:E.ok) {T kt et:TypeId} {ti ki:TInfo} (hT:E.TI T=some ti) (hd:ti.desc=.map kt et) (hk:E.TI kt=some ki) {x:AV} {v:Value} (hx:RepV γ σ x v)
 {ks vs:List AV} {bs:List Nat} {c:Nat} {w:World} {b:Nat} {kv vv:List Value} (hks:RepVs γ σ ks kv) (hvs:RepVs γ σ vs vv) (hm:MapAtB w.heap[b]? kv vv bs c) {o:AObj} (ho:delK (kdOf ki) ks vs bs c x=some o) {T' ty:TypeId} :
 ∃ es' ks' vs' bs',o=.map ks' vs' bs' c∧(Builtin.delete_ #[T,T'] ty #[.map (some b),v]).run E.P w=.ok (.tuple #[]) (ChangeMaps.setBlock w b (.map es' c))∧RepVs γ σ ks' (es'.toList.map (·.key))∧RepVs γ σ vs' (es'.toList.map (·.val))∧es'.toList.map (·.born)=bs'∧(∀ i ∈ bs',i<c)∧bs'.Pairwise (· < ·):=by
 have hun:=(hE T ti hT).map hd
 obtain ⟨es,hb,rfl,rfl,rfl,hlt,hpw⟩:=hm
 unfold delK at ho
 split at ho
 · rename_i hki
   simp only [Bool.and_eq_true] at hki
   obtain ⟨hki,hko⟩:=hki
   split at ho
   · rename_i j hj
     cases ho
     obtain ⟨hc,hst,hf⟩:=find_run hE hk hki hx (.inl rfl) hks hko hj
     rcases hf with ⟨h3,_⟩ | ⟨j',e,j2,h3,h4,h5,h6,h7⟩
     · cases h3
     · simp only [Option.some.injEq] at h3
       subst h3
       have e2:=(h7 rfl).symm
       subst e2
       refine ⟨es.eraseIdxIfInBounds j,_,_,_,rfl,?_,?_,?_,?_,?_,?_⟩
       · simp [Builtin.delete_,run_underlying hun,MapKept.run_getObj_map hb,hc,h6,MapKept.run_setObj_map _ hb,Result.andThen,ChangeMaps.setBlock]
       all_goals (try simp only [Array.toList_eraseIdxIfInBounds,ChangeMaps.map_eraseIdx])
       · exact RepVs.eraseIdx j hks
       · exact RepVs.eraseIdx j hvs
       · exact fun i hi=>hlt i (List.mem_of_mem_eraseIdx hi)
       · exact List.Pairwise.sublist (List.eraseIdx_sublist _ _) hpw
   · rename_i hj
     cases ho
     obtain ⟨hc,hst,hf⟩:=find_run hE hk hki hx (.inl rfl) hks hko hj
     rcases hf with ⟨_,h6⟩ | ⟨j',e,j2,h3,_⟩
     · refine ⟨es,_,_,_,rfl,?_,hks,hvs,rfl,hlt,hpw⟩
       simp [Builtin.delete_,run_underlying hun,MapKept.run_getObj_map hb,hc,h6,MapKept.run_setObj_map _ hb,Result.andThen,ChangeMaps.setBlock]
     · cases h3
   · cases ho
 · cases ho
end
end Go.Al
namespace Go.Al
inductive MV where
 | t (n:Nat)
 | c (x:AV)
 deriving Inhabited
inductive VI where
 | mov (d:Nat) (x:MV)
 | pick (d:Nat) (c a b:MV)
 | load (d:Nat) (agg:Bool) (size:Nat) (p:MV)
 | gld (d g:Nat)
 | nil (d:Nat) (x:MV)
 | fld (d off:Nat) (p:MV)
 | get (d:Nat) (agg:Bool) (size off:Nat) (x:MV)
 | bin (d:Nat) (op:BinOp) (bool:Bool) (x y:MV)
 | eq (d:Nat) (neg:Bool) (q:EqT) (x y:MV)
 | not (d:Nat) (x:MV)
 | neg (d:Nat) (x:MV)
 | conv (d:Nat) (k:IntKind) (x:MV)
 | mki (d T:Nat) (x:MV)
 | fn (d:Nat) (f:Fn) (first caps:List MV)
 | ext (d i:Nat) (x:MV)
 | max (d:Nat) (xs:List MV)
 | min (d:Nat) (xs:List MV)
 | build (d:Nat) (z:List AV) (parts:List (Nat × Nat × MV))
 deriving Inhabited
inductive PI where
 | idx (d sz:Nat) (x i:MV)
 | aidx (d len sz:Nat) (x i:MV)
 | aget (d len:Nat) (agg:Bool) (size:Nat) (x i:MV)
 | sget (d:Nat) (x i:MV)
 | quo (d:Nat) (x y:MV)
 | rem (d:Nat) (x y:MV)
 | shl (d:Nat) (x y:MV)
 | shr (d:Nat) (x y:MV)
 | cut (d sz:Nat) (x lo:MV) (hi:Option MV)
 | pre (d sz:Nat) (x:MV) (hi:Option MV)
 | pre3 (d sz:Nat) (x hi mx:MV)
 | len (d:Nat) (x:MV)
 | slen (d:Nat) (x:MV)
 | mlen (d:Nat) (x:MV)
 | look (d:Nat) (ok:Bool) (kd:D) (z:AV) (m x:MV)
 | ent (d:Nat) (it:MV)
 deriving Inhabited
inductive EI where
 | alloc (d:Nat) (zero:List AV)
 | box (d:Nat) (x:MV)
 | store (size:Nat) (agg:Bool) (p x:MV)
 | mkmap (d:Nat)
 | mk (d e sz bytes:Nat) (z:AV) (l c:MV)
 | app (d e sz bytes:Nat) (x y:MV)
 | call (d:Option Nat) (f:FuncId) (args:List MV)
 | callv (d:Option Nat) (f:MV) (args:List MV)
 | mkl (d e sz n:Nat) (z:AV) (parts:List (Nat × MV))
 | mput (kd:D) (m x v:MV)
 | mdel (d:Option Nat) (kd:D) (m x:MV)
 | clr (d:Option Nat) (sz:Nat) (z:AV) (x:MV)
 | die
 | rng (d:Nat) (m:MV)
 | nxt (d:Nat) (it:MV)
 deriving Inhabited
inductive MI where
 | v (i:VI)
 | p (i:PI)
 | e (i:EI)
 deriving Inhabited
inductive AT where
 | done
 | pure0 (g:Option (Nat × Bool)) (i:MI) (next:AT)
 | pure1 (g:Option (Nat × Bool)) (i:MI) (next:AT)
 | alt (g:Option (Nat × Bool)) (i:MI) (next rest:AT)
 | base (t:AT)
 | stop
 deriving Inhabited
inductive MC where
 | skip | ret
 | exit (id:Nat)
 | seq (a b:MC)
 | cond (t:Nat) (a b:MC)
 | block (id:Nat) (c:MC)
 | loop (c:MC)
 | ops (l:List (Option (Nat × Bool) × MI))
 | any (wr:Bool) (t:AT)
 | rngf (f:MV) (ps:Array Tmp) (a b:MC)
 deriving Inhabited
def mv (fr:List (Nat × AV)):MV→AV
 | .t n=>get fr n
 | .c x=>x
def cV:Operand→Option MV
 | .tmp t=>some (.t t)
 | .const v=>some (.c (ofV v))
 | .func f=>some (.c (.fn (.func f) [] []))
 | .global _=>none
theorem cV_ev {fr:List (Nat × AV)} {x:Operand} {y:MV} (h:cV x=some y):ev fr x=mv fr y:=by
 cases x <;> simp [cV] at h <;> subst h <;> rfl
def cVs:List Operand→Option (List MV)
 | []=>some []
 | x::r=>match cV x,cVs r with | some y,some ys=>some (y::ys) | _,_=>none
theorem cVs_ev {fr:List (Nat × AV)}:∀ {xs:List Operand} {ys:List MV},cVs xs=some ys→xs.map (ev fr)=ys.map (mv fr)
 | [],ys,h=>by simp [cVs] at h;subst h;rfl
 | x::r,ys,h=>by
   simp only [cVs] at h
   split at h
   · rename_i y zs h1 h2
     cases h
     simp [cV_ev h1,cVs_ev h2]
   · cases h
def cParts (place:Nat→Option (Nat × Nat)):List (Nat × Operand)→Option (List (Nat × Nat × MV))
 | []=>some []
 | (i,x)::r=>match place i,cV x,cParts place r with
   | some (off,size),some x,some ps=>some ((off,size,x)::ps)
   | _,_,_=>none
def placesOf (E:Env):List (Nat × TypeId)→Option (List (Nat × Nat))
 | []=>some []
 | (off,ty)::r=>match E.TI ty,placesOf E r with
   | some i,some l=>some ((off,i.size)::l)
   | _,_=>none
def cParts1:List (Nat × Operand)→Option (List (Nat × MV))
 | []=>some []
 | (i,x)::r=>match cV x,cParts1 r with
   | some x,some ps=>some ((i,x)::ps)
   | _,_=>none
def cOp (E:Env) (o:Oper):Option MI :=
 match o.op,o.dst with
 | .move x,some d | .assign x,some d=>(cV x).map fun x=>.v (.mov d x)
 | .pick c a b,some d=>match cV c,cV a,cV b with | some c,some a,some b=>some (.v (.pick d c a b)) | _,_,_=>none
 | .load T p,some d=>match E.TI T,cV p with
   | some i,some p=>some (.v (.load d i.agg i.size p))
   | some i,none=>match p with
     | .global g=>if i.agg=false∧i.size=1∧(glob g).isSome=true then some (.v (.gld d g)) else none
     | _=>none
   | _,_=>none
 | .nilCheck x,some d=>(cV x).map fun x=>.v (.nil d x)
 | .fieldAddr T p f,some d=>match E.TI T,cV p with
   | some i,some p=>match i.desc with
     | .struct fs=>match fs[f]? with
       | some (off,ty)=>match E.TI ty with
         | some fi=>if fi.size=0 then none else some (.v (.fld d off p))
         | none=>none
       | none=>none
     | _=>none
   | _,_=>none
 | .field T x f,some d=>match E.TI T,cV x with
   | some i,some x=>match i.desc with
     | .struct fs=>match fs[f]? with
       | some (off,ty)=>match E.TI ty with
         | some fi=>some (.v (.get d fi.agg fi.size off x))
         | none=>none
       | none=>none
     | _=>none
   | _,_=>none
 | .indexAddr T x i,some d=>match E.TI T,cV x,cV i with
   | some ti,some x,some i=>match ti.desc with
     | .slice e=>(E.TI e).map fun ei=>.p (.idx d ei.size x i)
     | .array len e=>(E.TI e).map fun ei=>.p (.aidx d len ei.size x i)
     | _=>none
   | _,_,_=>none
 | .index T x i,some d=>match E.TI T,cV x,cV i with
   | some ti,some x,some i=>match ti.desc with
     | .array len e=>(E.TI e).map fun ei=>.p (.aget d len ei.agg ei.size x i)
     | .string=>some (.p (.sget d x i))
     | _=>none
   | _,_,_=>none
 | .binOp op T x y _,some d=>match cV x,cV y with
   | some x,some y=>match op with
     | .quo=>some (.p (.quo d x y))
     | .rem=>some (.p (.rem d x y))
     | .shl=>some (.p (.shl d x y))
     | .shr=>some (.p (.shr d x y))
     | .eql=>match eqOf E T with
       | some q=>some (.v (.eq d false q x y))
       | none=>some (.v (.bin d .eql (match E.TI T with | some i=>i.desc == .bool | none=>false) x y))
     | .neq=>match eqOf E T with
       | some q=>some (.v (.eq d true q x y))
       | none=>some (.v (.bin d .neq (match E.TI T with | some i=>i.desc == .bool | none=>false) x y))
     | op=>some (.v (.bin d op (match E.TI T with | some i=>i.desc == .bool | none=>false) x y))
   | _,_=>none
 | .unOp .not _ x,some d=>(cV x).map fun x=>.v (.not d x)
 | .unOp .neg _ x,some d=>(cV x).map fun x=>.v (.neg d x)
 | .convert S T x,some d=>match E.TI S,E.TI T,cV x with
   | some _,some ti,some x=>match ti.desc with
     | .int k=>some (.v (.conv d k x))
     | _=>none
   | _,_,_=>none
 | .makeInterface T x,some d=>match E.TI T,cV x with
   | some i,some x=>if isIface i.desc then none else some (.v (.mki d T x))
   | _,_=>none
 | .makeFunc f first caps,some d=>match cVs first.toList,cVs caps.toList with | some a,some b=>some (.v (.fn d f a b)) | _,_=>none
 | .extract t i,some d=>(cV t).map fun t=>.v (.ext d i t)
 | .slice T x lo hi none,some d=>match E.TI T,cV x with
   | some ti,some x=>match ti.desc with
     | .slice e=>match E.TI e,lo,hi with
       | some ei,none,some hi=>(cV hi).map fun hi=>.p (.pre d ei.size x (some hi))
       | some ei,some lo,some hi=>match cV lo,cV hi with | some lo,some hi=>some (.p (.cut d ei.size x lo (some hi))) | _,_=>none
       | some ei,some lo,none=>(cV lo).map fun lo=>.p (.cut d ei.size x lo none)
       | some ei,none,none=>some (.p (.pre d ei.size x none))
       | _,_,_=>none
     | _=>none
   | _,_=>none
 | .call { callee:=.builtin .len,args,argTypes },some d=>match argTypes.toList,args.toList with
   | [T],[x]=>match E.TI T,cV x with
     | some ti,some x=>match ti.desc with
       | .slice _=>some (.p (.len d x))
       | .string=>some (.p (.slen d x))
       | .map _ _=>some (.p (.mlen d x))
       | _=>none
     | _,_=>none
   | _,_=>none
 | .call { callee:=.builtin .max,args,.. },some d=>(cVs args.toList).map fun l=>.v (.max d l)
 | .call { callee:=.builtin .min,args,.. },some d=>(cVs args.toList).map fun l=>.v (.min d l)
 | .alloc T,some d=>(E.TI T).map fun i=>.e (.alloc d (i.zero.map ofV))
 | .box T x,some d=>(cV x).map fun x=>.e (.box d x)
 | .store T p x,none=>match E.TI T,cV p,cV x with | some i,some p,some x=>some (.e (.store i.size i.agg p x)) | _,_,_=>none
 | .makeMap T none,some d=>some (.e (.mkmap d))
 | .makeSlice T l c,some d=>match E.TI T,cV l,cV c with
   | some ti,some l,some c=>match ti.desc with
     | .slice e=>(E.TI e).map fun ei=>.e (.mk d e ei.size ei.bytes (ofCells ei.agg (ei.zero.map ofV)) l c)
     | _=>none
   | _,_,_=>none
 | .call { callee:=.builtin .append,args,argTypes },some d=>match argTypes.toList,args.toList with
   | [t,t'],[x,y]=>if t=t' then
       (match E.TI t,cV x,cV y with
         | some ti,some x,some y=>match ti.desc with
           | .slice e=>(E.TI e).map fun ei=>.e (.app d e ei.size ei.bytes x y)
           | _=>none
         | _,_,_=>none) else none
   | _,_=>none
 | .build T parts,some d=>match E.TI T with
   | some ti=>match ti.desc with
     | .struct fs=>match placesOf E fs with
       | some pl=>(cParts (pl[·]?) parts.toList).map fun ps=>.v (.build d (ti.zero.map ofV) ps)
       | none=>none
     | .array _ e=>match E.TI e with
       | some ei=>(cParts (fun i=>some (i * ei.size,ei.size)) parts.toList).map fun ps=>.v (.build d (ti.zero.map ofV) ps)
       | none=>none
     | _=>none
   | none=>none
 | .buildSlice T n parts,some d=>match E.TI T with
   | some ti=>match ti.desc with
     | .slice e=>match E.TI e with
       | some ei=>(cParts1 parts.toList).map fun ps=>.e (.mkl d e ei.size n (ofCells ei.agg (ei.zero.map ofV)) ps)
       | none=>none
     | _=>none
   | none=>none
 | .call { callee:=.value (.func f),args,.. },d=>(cVs args.toList).map fun l=>.e (.call d f l)
 | .call { callee:=.value (.tmp f),args,.. },d=>(cVs args.toList).map fun l=>.e (.callv d (.t f) l)
 | .lookup T m x ok,some d=>match E.TI T,cV m,cV x with
   | some ti,some m,some x=>match ti.desc with
     | .map kt et=>match E.TI kt,E.TI et with
       | some ki,some ei=>some (.p (.look d ok (kdOf ki) (ofCells ei.agg (ei.zero.map ofV)) m x))
       | _,_=>none
     | _=>none
   | _,_,_=>none
 | .mapUpdate T m x v,none=>match E.TI T,cV m,cV x,cV v with
   | some ti,some m,some x,some v=>match ti.desc with
     | .map kt et=>match E.TI kt with
       | some ki=>some (.e (.mput (kdOf ki) m x v))
       | none=>none
     | _=>none
   | _,_,_,_=>none
 | .call { callee:=.builtin .delete,args,argTypes },d=>match argTypes.toList,args.toList with
   | [T,_],[m,x]=>match E.TI T,cV m,cV x with
     | some ti,some m,some x=>match ti.desc with
       | .map kt et=>match E.TI kt with
         | some ki=>some (.e (.mdel d (kdOf ki) m x))
         | none=>none
       | _=>none
     | _,_,_=>none
   | _,_=>none
 | .range T x,some d=>match E.TI T,cV x with
   | some ti,some x=>match ti.desc with
     | .map _ _=>some (.e (.rng d x))
     | _=>none
   | _,_=>none
 | .next it false,some d=>(cV it).map fun it=>.e (.nxt d it)
 | .entry it,some d=>(cV it).map fun it=>.p (.ent d it)
 | .slice T x none (some hi) (some mx),some d=>match E.TI T,cV x,cV hi,cV mx with
   | some ti,some x,some hi,some mx=>match ti.desc with
     | .slice e=>(E.TI e).map fun ei=>.p (.pre3 d ei.size x hi mx)
     | _=>none
   | _,_,_,_=>none
 | .call { callee:=.builtin .clear,args,argTypes },d=>match argTypes.toList,args.toList with
   | [T],[x]=>match E.TI T,cV x with
     | some ti,some x=>match ti.desc with
       | .slice e=>match E.TI e with
         | some ei=>some (.e (.clr d ei.size (ofCells ei.agg (ei.zero.map ofV)) x))
         | none=>none
       | _=>none
     | _,_=>none
   | _,_=>none
 | .panic _,none=>some (.e .die)
 | _,_=>none
def cGuard (ops:Array Oper) (o:Oper):Option (Option (Nat × Bool)):=match o.guard with
 | none=>some none
 | some (j,want)=>((ops[j]?).bind (·.dst)).map fun t=>some (t,want)
def cOps (E:Env) (ops:Array Oper):List Oper→Option (List (Option (Nat × Bool) × MI))
 | []=>some []
 | o::r=>match cGuard ops o,cOp E o,cOps E ops r with
   | some g,some i,some is=>some ((g,i)::is)
   | _,_,_=>none
def isPure:MI→Bool | .v _ | .p _=>true | .e _=>false
def readsV:VI→Bool | .load _ _ _ _=>true | .gld _ _=>true | _=>false
def readsP:PI→Bool | .mlen _ _=>true | .look _ _ _ _ _ _=>true | .ent _ _=>true | _=>false
def readsI:MI→Bool | .v i=>readsV i | .p i=>readsP i | .e _=>false
def tainted (ops:Array Oper) (tt:List Nat) (o:Oper):Bool:=(o.looksAt ops).any fun t=>tt.contains t
def taint (tt:List Nat) (o:Oper):List Nat:=match o.dst with | some d=>d::tt | none=>tt
def rootStep (E:Env) (ops:Array Oper) (t:Nat):Nat:=match ops.toList.find? (fun o=>match cOp E o with | some (.v (.fld d _ _)) | some (.v (.nil d _)) | some (.v (.mov d _)) | some (.p (.idx d _ _ _)) | some (.p (.aidx d _ _ _ _))=>d == t | _=>false) with
 | some o=>(match cOp E o with | some (.v (.fld _ _ (.t u))) | some (.v (.nil _ (.t u))) | some (.v (.mov _ (.t u)))=>u | some (.p (.idx _ _ (.t u) _)) | some (.p (.aidx _ _ _ (.t u) _))=>u | _=>t)
 | none=>t
def rootOf (E:Env) (ops:Array Oper) (t:Nat):Nat:=rootStep E ops (rootStep E ops (rootStep E ops (rootStep E ops t)))
def hazard (E:Env) (ops:Array Oper) (mi:MI):Bool:=match mi with
 | .v (.load _ _ _ (.t p))=>ops.any fun o=>match cOp E o with
   | some (.e (.store _ _ (.t q) _))=>rootOf E ops p == rootOf E ops q
   | _=>false
 | .p (.look _ _ _ _ _ _)=>ops.any fun o=>match cOp E o with
   | some (.e (.mput _ _ _ _)) | some (.e (.mdel _ _ _ _))=>true
   | _=>false
 | _=>false
def canTake (E:Env) (ops:Array Oper) (listed:Array Bool) (tt:List Nat) (i:Nat):Bool:=match ops[i]? with
 | some o=>match cOp E o with
   | some mi=>isPure mi && Region.free .any ops listed i && !(tainted ops tt o && readsI mi) && !hazard E ops mi
   | none=>false
 | none=>false
def changes (E:Env) (o:Oper):Bool:=match cOp E o with
 | some (.e i)=>(match i with | .store _ _ _ _ | .app _ _ _ _ _ _ | .mput _ _ _ _ | .mdel _ _ _ _ | .clr _ _ _ _ | .nxt _ _=>true | _=>false)
 | some _=>false
 | none=>true
def based:Bool→AT→AT
 | true,t=>.base t
 | false,t=>t
def cAny (E:Env) (ops:Array Oper) (nw:Bool):Nat→Array Bool→List Nat→Option AT
 | 0,listed,_=>if (Region.ready .any ops listed).isEmpty then some .done else none
 | n+1,listed,tt=>match Region.ready .any ops listed with
   | []=>some .done
   | r::rs=>match (r::rs).find? (canTake E ops listed tt) with
     | some i=>match ops[i]? with
       | some o=>match cOp E o,cGuard ops o with
         | some mi,some g =>
           if tainted ops tt o then (cAny E ops nw n (listed.setIfInBounds i true) (taint tt o)).map (.pure1 g mi)
           else (cAny E ops nw n (listed.setIfInBounds i true) tt).map (.pure0 g mi)
         | _,_=>none
       | none=>none
     | none=>(r::rs).foldr (fun i rest=>match ops[i]? with
       | some o=>match cOp E o,cGuard ops o,(cAny E ops nw n (listed.setIfInBounds i true) (if nw then [] else taint tt o)).map (based nw),rest with
         | some mi,some g,some next,some rest=>some (.alt g mi next rest)
         | _,_,_,_=>none
       | none=>none) (some .stop)
def writes:AT→Bool
 | .done | .stop=>false
 | .pure0 _ _ t | .pure1 _ _ t | .base t=>writes t
 | .alt _ i t r=>(match i with | .e (.store _ _ _ _) | .e (.app _ _ _ _ _ _) | .e (.mput _ _ _ _) | .e (.mdel _ _ _ _) | .e (.clr _ _ _ _) | .e (.nxt _ _)=>true | _=>false) || writes t || writes r
def noDefer (ops:Array Oper):Bool:=ops.toList.all fun o=>match o.op with | .defer _=>false | _=>true
def cC (E:Env):Code→Option MC
 | .skip | .label _=>some .skip
 | .ret=>some .ret
 | .exit id=>some (.exit id)
 | .seq a b=>match cC E a,cC E b with | some a,some b=>some (.seq a b) | _,_=>none
 | .cond (.tmp t) x y=>match cC E x,cC E y with | some x,some y=>some (.cond t x y) | _,_=>none
 | .cond (.const (.bool b)) x y=>if b then cC E x else cC E y
 | .rangeFunc f ps x y=>match cV f,cC E x,cC E y with | some f,some x,some y=>some (.rngf f ps x y) | _,_,_=>none
 | .block id c=>(cC E c).map (.block id)
 | .scope c=>cC E c
 | .loop c=>(cC E c).map .loop
 | .region _ ops false=>(cOps E ops ops.toList).map .ops
 | .region _ ops true=>if Region.noSelect ops && noDefer ops then (cAny E ops (!ops.any (changes E)) ops.size (Array.replicate ops.size false) []).map (fun t=>.any (writes t) t) else none
 | _=>none
end Go.Al
namespace Go.Al
mutual
def sc (k:Nat):AV→Bool
 | .agg xs=>scL k xs
 | .tup xs=>scL k xs
 | .fn f a b=>scL k a && scL k b
 | .ifc t x=>sc k x
 | .slc id _ _=>decide (id<k)
 | .op id _=>decide (id<k)
 | .ep id _ _ _=>decide (id<k)
 | .mp id=>decide (id<k)
 | .itr id=>decide (id<k)
 | .yld id=>decide (id<k)
 | .sub id _ _ _=>decide (id<k)
 | .int _ _ | .bool _ | .str _ | .raw _ | .junk | .bad | .view _ _ | .vp _ | .mview _ _ | .full _ _=>true
def scL (k:Nat):List AV→Bool
 | []=>true
 | x::xs=>sc k x && scL k xs
end
def scO (k:Nat):AObj→Bool
 | .box cs=>scL k cs
 | .arr _ _ xs=>scL k xs
 | .map ks vs _ _=>scL k ks && scL k vs
 | .mit (some id) _ _ _=>decide (id<k)
 | .loop _ _ fr _ _ _ _ _=>fr.all fun p=>sc k p.2
 | _=>true
section
variable {γ:Gm} {σ σ':Sg} {k:Nat}
theorem ref_sc (hs:∀ i,i<k→σ'[i]?=σ[i]?) {id:Nat} (hid:decide (id<k)=true) {R:Option (Option Nat × Nat)→Prop} (h:∃ e,σ[id]?=some e∧R e):∃ e,σ'[id]?=some e∧R e:=by
 rw [hs id (by simpa using hid)];exact h
mutual
theorem RepV.sc (hs:∀ i,i<k→σ'[i]?=σ[i]?):∀ (x:AV) (v:Value),Go.Al.sc k x=true→RepV γ σ x v→RepV γ σ' x v
 | .int ..,_,_,h=>h
 | .bool ..,_,_,h=>h
 | .str ..,_,_,h=>h
 | .raw ..,_,_,h=>h
 | .junk,_,_,h=>h
 | .bad,_,_,h=>h
 | .view ..,_,_,h=>h
 | .vp ..,_,_,h=>h
 | .mview ..,_,_,h=>h
 | .full ..,_,_,h=>h
 | .slc ..,_,hx,h=>ref_sc hs hx h
 | .op ..,_,hx,h=>ref_sc hs hx h
 | .ep ..,_,hx,h=>ref_sc hs hx h
 | .mp ..,_,hx,h=>ref_sc hs hx h
 | .itr ..,_,hx,h=>ref_sc hs hx h
 | .yld ..,_,hx,h=>ref_sc hs hx h
 | .sub ..,_,hx,h=>ref_sc hs hx h
 | .agg xs,_,hx,⟨vs,h1,h2,h3⟩=>⟨vs,h1,RepVs.sc hs xs vs hx h2,h3⟩
 | .tup xs,_,hx,⟨vs,h1,h2⟩=>⟨vs,h1,RepVs.sc hs xs vs hx h2⟩
 | .fn f a b,_,hx,⟨fv,cv,h1,h2,h3⟩=>by
   simp only [Go.Al.sc,Bool.and_eq_true] at hx
   exact ⟨fv,cv,h1,RepVs.sc hs a fv hx.1 h2,RepVs.sc hs b cv hx.2 h3⟩
 | .ifc t x,_,hx,⟨u,h1,h2⟩=>⟨u,h1,RepV.sc hs x u hx h2⟩
theorem RepVs.sc (hs:∀ i,i<k→σ'[i]?=σ[i]?):∀ (xs:List AV) (vs:List Value),scL k xs=true→RepVs γ σ xs vs→RepVs γ σ' xs vs
 | [],_,_,h=>h
 | x::xs,_,hx,⟨v,vs',h1,h2,h3⟩=>by
   simp only [scL,Bool.and_eq_true] at hx
   exact ⟨v,vs',h1,RepV.sc hs x v hx.1 h2,RepVs.sc hs xs vs' hx.2 h3⟩
end
end
end Go.Al
