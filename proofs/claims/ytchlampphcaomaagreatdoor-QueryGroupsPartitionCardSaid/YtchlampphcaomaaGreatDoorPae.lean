/-
 A part of the proof: see the text of the law.
-/
import Derived.Test.YtchlampphcaomaaGreatDoorFxz
import Derived.Test.YtchlampphcaomaaGreatDoorEai
import Derived.Test.YtchlampphcaomaaGreatDoorEao
set_option linter.unusedSimpArgs false
set_option linter.unusedVariables false
namespace Go.Proofs.Try
open Go.Proofs.Tryz
open Go.Al
set_option maxRecDepth 20000
set_option maxHeartbeats 8000000
def okRow (ks:List Int) (r:List VL):Prop:=r.length=ks.length∧∀ i,i<r.length→inCol ks r i
theorem okRow_of {ks:List Int} {r:List VL} (h:OfR ks r):okRow ks r:=h.2
theorem okRow_right {ks:List Int} {r:List VL} (h:okRow ks r):∀ v ∈ r,v.Right:=fun v hv=>by
 obtain ⟨i,hi⟩:=List.getElem?_of_mem hv
 have hlt:=(List.getElem?_eq_some_iff.1 hi).1
 have:=(h.2 i hlt).1
 rwa [List.getD_eq_getElem?_getD,hi] at this
theorem ofB_k (b:Bool):(VL.ofB b).k=3:=rfl
theorem okK_iff {w k:Int}:okK w k=true↔k=w∨k=0:=by simp [okK]
theorem dec_kind {s:Bool} {a b:VL} (ha:a.k=0∨a.k=3) (hb:b.k=0∨b.k=3):(VL.dec s a b).2=0∧((VL.dec s a b).1.k=0∨(VL.dec s a b).1.k=3):=by
 have h1:a.logical=true:=by simp only [VL.logical,decide_eq_true_eq];omega
 have h2:b.logical=true:=by simp only [VL.logical,decide_eq_true_eq];omega
 unfold VL.dec
 rw [h1,h2]
 simp only [Bool.not_true,Bool.or_self,Bool.false_eq_true,if_false]
 split
 · exact ⟨rfl,.inr rfl⟩
 · split
   · exact ⟨rfl,.inl rfl⟩
   · exact ⟨rfl,.inr rfl⟩
theorem eval_kind {ks:List Int} {r:List VL} (ho:okRow ks r):∀ t:T,t.wf→(t.kind ks).2=0 →
 ((t.eval r).2=0∧((t.eval r).1.k=0∨(t.eval r).1.k=(t.kind ks).1))∨((t.eval r).2=360∧(t.eval r).1=VL.null)
 | .col n,hw,h=>by
   obtain ⟨hf,_⟩:=kind_ok ks (.col n) hw h
   obtain ⟨h1,h2⟩:=hf
   have hn:(n.toNat:Int)=n:=by omega
   have:=(ho.2 n.toNat (by have:=ho.1;omega)).2
   left
   refine ⟨rfl,?_⟩
   simp only [T.eval,T.kind,kN,if_pos] at h ⊢
   split at h
   · simp at h
   · rename_i hh
     rw [if_neg hh]
     exact this
 | .val v,hw,h=>by
   obtain ⟨_,hv⟩:=kind_ok ks (.val v) hw h
   have hv:v.Right:=hv
   left
   exact ⟨rfl,.inr (by simp [T.eval,T.kind,kN,hv])⟩
 | .un op a,hw,h=>by
   rw [T.kind] at h ⊢
   split at h
   · rename_i h1
     have ih:=eval_kind ho a hw.2 h1
     simp only [h1,if_true,if_pos]
     rw [T.eval]
     rcases ih with ⟨e1,e2⟩ | ⟨e1,e2⟩
     · rw [if_pos e1]
       generalize (a.eval r).1=v at *
       generalize (a.kind ks).1=k1 at *
       rcases hw.1 with rfl | rfl
       · by_cases hk:k1=3∨k1=0
         · left
           have hl:v.logical=true:=by simp only [VL.logical,decide_eq_true_eq];omega
           have hkk:okK 3 k1=true:=okK_iff.2 hk
           simp only [eN,kN,ariB,cmpB,VL.not19,hl,hkk,List.all_cons,List.all_nil,List.getD_cons_zero,Bool.and_true]
           simp
           split
           · rename_i hz;exact ⟨rfl,.inl hz⟩
           · exact ⟨rfl,.inr rfl⟩
         · have hkk:okK 3 k1=false:=by rw [← Bool.not_eq_true,okK_iff];exact hk
           simp [kN,ariB,cmpB,hkk] at h
       · left
         simp [eN,kN,ariB,cmpB,ofB_k]
     · rw [if_neg (by omega)]
       right
       exact ⟨e1,rfl⟩
   · exact absurd h (by assumption)
 | .bin op a b,hw,h=>by
   rw [T.kind] at h ⊢
   split at h
   · rename_i h1
     split at h
     · rename_i h2
       have iha:=eval_kind ho a hw.2.1 h1
       have ihb:=eval_kind ho b hw.2.2 h2
       simp only [h1,h2,if_true,if_pos]
       rw [T.eval]
       rcases iha with ⟨e1,e2⟩ | ⟨e1,e2⟩
       · rw [if_pos e1]
         rcases ihb with ⟨g1,g2⟩ | ⟨g1,g2⟩
         · rw [if_pos g1]
           generalize (a.eval r).1=v at *
           generalize (b.eval r).1=u at *
           generalize (a.kind ks).1=k1 at *
           generalize (b.kind ks).1=k2 at *
           have hop:=hw.1
           have hc:op=3∨op=4∨op=5∨(6≤op∧op≤11)∨op=12∨op=13:=by omega
           have ari:∀ o:Int,(o=3∨o=4∨o=5)→(kN ks o 0 VL.null [k1,k2]).2=0→((eN r o 0 VL.null [v,u]).2=0∧((eN r o 0 VL.null [v,u]).1.k=0∨(eN r o 0 VL.null [v,u]).1.k=(kN ks o 0 VL.null [k1,k2]).1)) ∨
            ((eN r o 0 VL.null [v,u]).2=360∧(eN r o 0 VL.null [v,u]).1=VL.null):=by
            intro o hoo h
            have hb:ariB o=true:=by simp only [ariB,decide_eq_true_eq];omega
            have hcm:cmpB o=false:=by simp only [cmpB,decide_eq_false_iff_not];omega
            have n1:¬ o=1:=by omega
            have n2:¬ o=2:=by omega
            have n12:¬ o=12:=by omega
            have n13:¬ o=13:=by omega
            have n14:¬ o=14:=by omega
            have n15:¬ o=15:=by omega
            have hk:[k1,k2].all (okK 1)=true:=by
             by_cases hk:[k1,k2].all (okK 1)=true
             · exact hk
             · simp only [kN,n1,n2,hb,hk,if_false,if_true] at h
               simp at h
            simp only [eN,kN,n1,n2,n12,n13,n14,n15,hb,hcm,hk,if_false,if_true,Bool.false_eq_true,List.getD_cons_zero,List.getD_cons_succ]
            split
            · exact .inl ⟨rfl,.inl rfl⟩
            · split
              · exact .inl ⟨rfl,.inr rfl⟩
              · exact .inr ⟨rfl,rfl⟩
           rcases hc with rfl | rfl | rfl | hc | rfl | rfl
           · exact ari 3 (by omega) h
           · exact ari 4 (by omega) h
           · exact ari 5 (by omega) h
           · left
             have hcm:cmpB op=true:=by simp only [cmpB,decide_eq_true_eq];omega
             have hb:ariB op=false:=by simp only [ariB,decide_eq_false_iff_not];omega
             have n1:¬ op=1:=by omega
             have n2:¬ op=2:=by omega
             have n12:¬ op=12:=by omega
             have n13:¬ op=13:=by omega
             have n14:¬ op=14:=by omega
             have n15:¬ op=15:=by omega
             have hk:(k2=k1∨k2=0)∨(k1=k2∨k1=0):=by
              by_cases hk:[k1,k2].all (okK k1)=true∨[k1,k2].all (okK k2)=true
              · rcases hk with hk | hk
                · simp only [List.all_cons,List.all_nil,Bool.and_true,Bool.and_eq_true,okK_iff] at hk
                  exact .inl hk.2
                · simp only [List.all_cons,List.all_nil,Bool.and_true,Bool.and_eq_true,okK_iff] at hk
                  exact .inr hk.1
              · simp only [kN,n1,n2,hb,hcm,if_false,if_true,Bool.false_eq_true,List.getD_cons_zero,List.getD_cons_succ,hk] at h
                simp at h
             simp only [kN,n1,n2,hb,hcm,if_false,if_true,Bool.false_eq_true,List.getD_cons_zero,List.getD_cons_succ] at h ⊢
             split at h
             · rename_i hh
               rw [if_pos hh]
               simp only [eN,n1,n2,n12,n13,n14,n15,hcm,if_false,if_true,List.getD_cons_zero,List.getD_cons_succ,VL.test]
               rw [if_neg (by omega)]
               split
               · exact ⟨rfl,.inl rfl⟩
               · rename_i hz
                 rw [if_neg (by omega)]
                 exact ⟨rfl,.inr rfl⟩
             · simp at h
           · left
             have hk:(k1=3∨k1=0)∧(k2=3∨k2=0):=by
              by_cases hk:[k1,k2].all (okK 3)=true
              · simpa only [List.all_cons,List.all_nil,Bool.and_true,Bool.and_eq_true,okK_iff] using hk
              · simp [kN,ariB,cmpB] at h
                simp only [List.all_cons,List.all_nil,Bool.and_true,Bool.and_eq_true,okK_iff] at hk
                simp_all [okK]
             have hkk:[k1,k2].all (okK 3)=true:=by simpa only [List.all_cons,List.all_nil,Bool.and_true,Bool.and_eq_true,okK_iff] using hk
             have:=dec_kind (s:=false) (a:=v) (b:=u) (by omega) (by omega)
             simpa [eN,kN,ariB,cmpB,hkk] using this
           · left
             have hk:(k1=3∨k1=0)∧(k2=3∨k2=0):=by
              by_cases hk:[k1,k2].all (okK 3)=true
              · simpa only [List.all_cons,List.all_nil,Bool.and_true,Bool.and_eq_true,okK_iff] using hk
              · simp [kN,ariB,cmpB] at h
                simp only [List.all_cons,List.all_nil,Bool.and_true,Bool.and_eq_true,okK_iff] at hk
                simp_all [okK]
             have hkk:[k1,k2].all (okK 3)=true:=by simpa only [List.all_cons,List.all_nil,Bool.and_true,Bool.and_eq_true,okK_iff] using hk
             have:=dec_kind (s:=true) (a:=v) (b:=u) (by omega) (by omega)
             simpa [eN,kN,ariB,cmpB,hkk] using this
         · rw [if_neg (by omega)]
           right
           exact ⟨g1,rfl⟩
       · rw [if_neg (by omega)]
         right
         exact ⟨e1,rfl⟩
     · exact absurd h (by assumption)
   · exact absurd h (by assumption)
abbrev Rws:=List (List VL)
def lim (r:Rws × Int):Rws × Int:=if r.2=0 then (if 4000<r.1.length then ([],2) else r) else ([],r.2)
def holdE (e:EX) (l:Rws):Rws × Int:=if (mapE (fun r=>e.tr.eval r) l).2=0 then (l.filter fun r=>e.tr.holds r,0) else ([],(mapE (fun r=>e.tr.eval r) l).2)
def valuesE (cols:List EX) (r:List VL):List VL × Int:=mapE (fun e=>e.tr.eval r) cols
def joinE (e:EX) (l m:Rws):Rws × Int:=((mapE (fun a=>holdE e (m.map (a ++ ·))) l).1.flatten,(mapE (fun a=>holdE e (m.map (a ++ ·))) l).2)
def stepA (fn:Int) (best v:VL):VL :=
 if v.k=0 then best else if best.k=0 then v else if fn=2 then ⟨best.k,best.n+v.n,best.s⟩ else if (fn=3∧v.cmp best<0)∨(fn=4∧0<v.cmp best) then v else best
def foldA (a:AG) (l:Rws):VL:=(mapE (fun r=>a.arg.tr.eval r) l).1.foldl (stepA a.fn) VL.null
def aggE (a:AG) (l:Rws):VL × Int :=
 if a.fn=1 then (⟨1,l.length,⟨#[]⟩⟩,0)
 else if (mapE (fun r=>a.arg.tr.eval r) l).2=0 then (if (foldA a l).Right then (foldA a l,0) else (VL.null,360))
 else (VL.null,(mapE (fun r=>a.arg.tr.eval r) l).2)
def aggsE (ags:List AG) (l:Rws):List VL × Int:=mapE (fun a=>aggE a l) ags
def runsF {α κ:Type} [DecidableEq κ] (key:α→κ):Nat→List α→List (List α)
 | 0,_=>[]
 | _+1,[]=>[]
 | n+1,x::l=>(x::l.takeWhile (fun y=>decide (key y=key x)))::runsF key n (l.dropWhile (fun y=>decide (key y=key x)))
def keyed (g:List Int) (x y:List VL):Int:=lexC (keyC g x) (keyC g y)
def rowsK (g:List Int) (l:Rws):List Rws:=runsF (keyC g) (stab (keyed g) l).length (stab (keyed g) l)
def runE (g:List Int) (ags:List AG) (run:Rws):List VL × Int:=(keyC g (run.headD default)++(aggsE ags run).1,(aggsE ags run).2)
def groupE (g:List Int) (ags:List AG) (l:Rws):Rws × Int :=
 if g=[] then ([(aggsE ags (stab (keyed g) l)).1],(aggsE ags (stab (keyed g) l)).2) else mapE (runE g ags) (rowsK g l)
def addD (out:Rws) (r:List VL):Rws:=if r ∈ out then out else out++[r]
def distE (l:Rws):Rws:=l.foldl addD []
def namedD (n:ByteArray) (d:DA):Bool:=decide (d.t.name=n)
def nodeR (db:List DA) (q:QY) (ins:List Rws):Rws × Int :=
 if q.kind=1 then ((db.getD (fidx (namedD q.tab) db).toNat default).rows,0)
 else if q.kind=2 then holdE q.cond (ins.getD 0 [])
 else if q.kind=4 then joinE q.cond (ins.getD 0 []) (ins.getD 1 [])
 else if q.kind=3 then mapE (valuesE q.cols) (ins.getD 0 [])
 else if q.kind=5 then groupE q.grp q.aggs (ins.getD 0 [])
 else if q.kind=6 then (stab (ordC q.ord) (ins.getD 0 []),0)
 else if q.kind=7 then ((ins.getD 0 []).take q.n.toNat,0)
 else (distE (ins.getD 0 []),0)
mutual
def QY.run (db:List DA):QY→Rws × Int
 | .mk k t s c cols g a o n=>if (QY.runL db s).2≠0 then ([],(QY.runL db s).2) else lim (nodeR db (.mk k t s c cols g a o n) (QY.runL db s).1)
def QY.runL (db:List DA):List QY→List Rws × Int
 | []=>([],0)
 | q::l=>if (q.run db).2≠0 then ([],(q.run db).2) else if (QY.runL db l).2≠0 then ([],(QY.runL db l).2) else ((q.run db).1::(QY.runL db l).1,0)
end
theorem runL_map (db:List DA):∀ l:List QY,QY.runL db l=mapE (QY.run db) l
 | []=>rfl
 | q::l=>by rw [QY.runL,mapE,runL_map db l]
theorem run_eq (db:List DA) (q:QY):q.run db=if (mapE (QY.run db) q.subs).2≠0 then ([],(mapE (QY.run db) q.subs).2) else lim (nodeR db q (mapE (QY.run db) q.subs).1):=by
 cases q
 rw [QY.run,runL_map]
 rfl
noncomputable def meaning (db:List DA) (q:QY):Rws × Int:=if (schema (db.map DA.t) q).2≠0 then ([],(schema (db.map DA.t) q).2) else q.run db
theorem lim_len (r:Rws × Int):(lim r).1.length≤4000:=by
 unfold lim;repeat' split
 all_goals simp_all
theorem lim_ok {r:Rws × Int} (h:(lim r).2=0):r.2=0∧r.1.length≤4000∧lim r=r:=by
 unfold lim at h ⊢;split at h
 · split at h
   · simp at h
   · rename_i h1 h2;exact ⟨h1,by omega,by rw [if_pos h1,if_neg h2]⟩
 · exact absurd h (by assumption)
theorem mapE_mem {α β:Type} {f:α→β × Int} {l:List α} {y:β} (h:y ∈ (mapE f l).1):∃ x ∈ l,(f x).2=0∧(f x).1=y:=by
 rcases mapE_cases (f:=f) l with ⟨h1,h2⟩ | ⟨h1,h2⟩
 · rw [mapE_ok h2] at h
   obtain ⟨x,hx,rfl⟩:=List.mem_map.1 h
   exact ⟨x,hx,h2 x hx,rfl⟩
 · rw [h1] at h;simp at h
theorem holdE_mem {e:EX} {l:Rws} {x:List VL} (h:x ∈ (holdE e l).1):x ∈ l∧e.tr.holds x=true:=by
 unfold holdE at h;split at h
 · exact List.mem_filter.1 h
 · simp at h
theorem distE_mem {l:Rws} {x:List VL}:x ∈ distE l↔x ∈ l:=by
 have key:∀ (l out:Rws),x ∈ l.foldl addD out↔x ∈ out∨x ∈ l:=by
  intro l
  induction l with
  | nil=>intro out;simp
  | cons y l ih =>
    intro out
    rw [List.foldl_cons,ih]
    unfold addD
    split
    · rename_i h
      constructor
      · rintro (h1 | h1)
        · exact .inl h1
        · exact .inr (List.mem_cons_of_mem _ h1)
      · rintro (h1 | h1)
        · exact .inl h1
        · rcases List.mem_cons.1 h1 with rfl | h1
          · exact .inl h
          · exact .inr h1
    · simp [or_assoc]
 have:=key l []
 simpa [distE] using this
theorem runsF_mem {α κ:Type} [DecidableEq κ] {key:α→κ}:∀ {n:Nat} {l:List α} {m:List α},m ∈ runsF key n l→m≠[]∧∀ x ∈ m,x ∈ l
 | 0,_,_,h=>by simp [runsF] at h
 | _+1,[],_,h=>by simp [runsF] at h
 | n+1,x::l,m,h=>by
   rw [runsF,List.mem_cons] at h
   rcases h with rfl | h
   · refine ⟨by simp,fun y hy=>?_⟩
     rcases List.mem_cons.1 hy with rfl | hy
     · exact List.mem_cons_self ..
     · exact List.mem_cons_of_mem _ (List.takeWhile_subset _ hy)
   · obtain ⟨h1,h2⟩:=runsF_mem h
     exact ⟨h1,fun y hy=>List.mem_cons_of_mem _ (List.dropWhile_subset _ (h2 y hy))⟩
theorem okRow_app {k m:List Int} {a b:List VL} (ha:okRow k a) (hb:okRow m b):okRow (k++m) (a++b):=by
 obtain ⟨a1,a2⟩:=ha
 obtain ⟨b1,b2⟩:=hb
 refine ⟨by simp [a1,b1],fun i hi=>?_⟩
 unfold inCol
 rw [List.length_append] at hi
 by_cases h:i<a.length
 · have:=a2 i h
   unfold inCol at this
   simpa [List.getD_eq_getElem?_getD,List.getElem?_append_left,h,show i<k.length by omega] using this
 · have:=b2 (i - a.length) (by omega)
   unfold inCol at this
   simpa [List.getD_eq_getElem?_getD,List.getElem?_append_right,show a.length≤i by omega,show k.length≤i by omega,a1] using this
def okV (k:Int) (v:VL):Prop:=v.Right∧(v.k=0∨v.k=k)
theorem okRow_nil:okRow [] []:=⟨rfl,fun i hi=>by simp at hi⟩
theorem okRow_cons {k:Int} {v:VL} {ks:List Int} {r:List VL} (hv:okV k v) (hr:okRow ks r):okRow (k::ks) (v::r):=by
 refine ⟨by simp [hr.1],fun i hi=>?_⟩
 cases i with
 | zero=>exact hv
 | succ i=>exact hr.2 i (by simpa using hi)
theorem okRow_get {ks:List Int} {r:List VL} (h:okRow ks r) {i:Nat} (hi:i<ks.length):okV (ks.getD i 0) (r.getD i default):=h.2 i (by rw [h.1];exact hi)
theorem okRow_map {α:Type} {f:α→Int} {g:α→VL}:∀ {l:List α},(∀ x ∈ l,okV (f x) (g x))→okRow (l.map f) (l.map g)
 | [],_=>okRow_nil
 | x::l,h=>okRow_cons (h x (by simp)) (okRow_map fun y hy=>h y (by simp [hy]))
theorem eval_ok {ks:List Int} {r:List VL} (ho:okRow ks r) {e:EX} (hk:(chk ks e).2=0) (he:(e.tr.eval r).2=0):okV (chk ks e).1 (e.tr.eval r).1:=by
 obtain ⟨h1,h2,h3⟩:=chk_ok hk
 obtain ⟨_,hw,_⟩:=ex_tr e h1
 obtain ⟨f1,f2⟩:=kind_ok ks e.tr hw h2
 refine ⟨T.eval_right (okRow_right ho) e.tr hw (by rw [ho.1];exact f1) f2,?_⟩
 rw [h3]
 rcases eval_kind ho e.tr hw h2 with h | h
 · exact h.2
 · omega
theorem valuesE_ok {ks:List Int} {r:List VL} (ho:okRow ks r):∀ {l:List EX},(mapE (chk ks) l).2=0→(valuesE l r).2=0→okRow (mapE (chk ks) l).1 (valuesE l r).1:=by
 intro l h1 h2
 rcases mapE_cases (f:=chk ks) l with ⟨_,h3⟩ | ⟨_,h3⟩
 · rcases mapE_cases (f:=fun e:EX=>e.tr.eval r) l with ⟨_,h4⟩ | ⟨_,h4⟩
   · unfold valuesE
     rw [mapE_ok h3,mapE_ok h4]
     exact okRow_map fun x hx=>eval_ok ho (h3 x hx) (h4 x hx)
   · exact absurd h2 h4
 · exact absurd h1 h3
theorem stepA_ok {k:Int} {fn:Int} {b v:VL} (hb:b.k=0∨b.k=k) (hv:v.k=0∨v.k=k):(stepA fn b v).k=0∨(stepA fn b v).k=k:=by
 unfold stepA;repeat' split
 all_goals first | exact hb | exact hv
theorem foldA_k {k:Int} {fn:Int}:∀ {l:List VL} {b:VL},(b.k=0∨b.k=k)→(∀ v ∈ l,v.k=0∨v.k=k)→(l.foldl (stepA fn) b).k=0∨(l.foldl (stepA fn) b).k=k
 | [],b,hb,_=>hb
 | v::l,b,hb,h=>by
   rw [List.foldl_cons]
   exact foldA_k (stepA_ok hb (h v (by simp))) fun w hw=>h w (by simp [hw])
theorem aggE_ok {ks:List Int} {a:AG} {l:Rws} (hl:l.length≤4000) (ho:∀ r ∈ l,okRow ks r) (hk:(aggK ks a).2=0) (he:(aggE a l).2=0):okV (aggK ks a).1 (aggE a l).1:=by
 unfold aggE at he ⊢
 by_cases h1:a.fn=1
 · rw [if_pos h1] at he ⊢
   rw [aggK,if_pos h1]
   exact ⟨.inr (.inl ⟨rfl,by simp only;omega,by simp only;omega,rfl⟩),.inr rfl⟩
 · rw [if_neg h1] at he ⊢
   split at he
   · rename_i h2
     rw [if_pos h2]
     split at he
     · rename_i h3
       rw [if_pos h3]
       refine ⟨h3,?_⟩
       rw [aggK,if_neg h1] at hk ⊢
       split at hk
       · rename_i hf
         rw [if_pos hf]
         have hck:(chk ks a.arg).2=0:=by
          split at hk
          · rename_i h;exact h.1
          · exact hk
         have hall:∀ v ∈ (mapE (fun r=>a.arg.tr.eval r) l).1,v.k=0∨v.k=(chk ks a.arg).1:=fun v hv=>by
          obtain ⟨r,hr,h4,rfl⟩:=mapE_mem hv
          exact (eval_ok (ho r hr) hck h4).2
         split
         · rename_i hs
           rw [if_pos hs] at hk
           simp only at hk ⊢
           have hck2:(chk ks a.arg).1=1∨(chk ks a.arg).1=0:=by
            split at hk <;> omega
           exact foldA_k (.inl rfl) fun v hv=>by rcases hall v hv with h | h <;> omega
         · exact foldA_k (.inl rfl) hall
       · simp at hk
     · simp at he
   · rename_i h2;exact absurd he h2
theorem aggsE_ok {ks:List Int} {ags:List AG} {l:Rws} (hl:l.length≤4000) (ho:∀ r ∈ l,okRow ks r) (hk:(mapE (aggK ks) ags).2=0) (he:(aggsE ags l).2=0):okRow (mapE (aggK ks) ags).1 (aggsE ags l).1:=by
 rcases mapE_cases (f:=aggK ks) ags with ⟨_,h3⟩ | ⟨_,h3⟩
 · rcases mapE_cases (f:=fun a=>aggE a l) ags with ⟨_,h4⟩ | ⟨_,h4⟩
   · unfold aggsE
     rw [mapE_ok h3,mapE_ok h4]
     exact okRow_map fun x hx=>aggE_ok hl ho (h3 x hx) (h4 x hx)
   · exact absurd he h4
 · exact absurd hk h3
theorem keyC_ok {ks:List Int} {g:List Int} {r:List VL} (ho:okRow ks r) (hg:∀ c ∈ g,0≤c∧c<ks.length):okRow (g.map fun c=>ks.getD c.toNat 0) (keyC g r) :=
 okRow_map fun c hc=>okRow_get ho (by have:=hg c hc;omega)
theorem fidx_map {α β:Type} (f:α→β) (p:β→Bool) (l:List α):fidx p (l.map f)=fidx (fun x=>p (f x)) l:=by
 unfold fidx
 rw [List.findIdx?_map]
 rfl
theorem runsF_le {α κ:Type} [DecidableEq κ] {key:α→κ}:∀ {n:Nat} {l m:List α},m ∈ runsF key n l→m.length≤l.length
 | 0,_,_,h=>by simp [runsF] at h
 | _+1,[],_,h=>by simp [runsF] at h
 | n+1,x::l,m,h=>by
   rw [runsF,List.mem_cons] at h
   rcases h with rfl | h
   · have:=(List.takeWhile_sublist (fun y=>decide (key y=key x)) (l:=l)).length_le
     simp only [List.length_cons];omega
   · have:=runsF_le h
     have:=(List.dropWhile_sublist (fun y=>decide (key y=key x)) (l:=l)).length_le
     simp only [List.length_cons];omega
theorem groupE_ok {ks g:List Int} {ags:List AG} {l:Rws} (hl:l.length≤4000) (ho:∀ r ∈ l,okRow ks r) (hk:(groupsK ks g ags).2=0) (he:(groupE g ags l).2=0):∀ r ∈ (groupE g ags l).1,okRow (groupsK ks g ags).1 r:=by
 have hg:gOk ks g∧(mapE (aggK ks) ags).2=0∧(groupsK ks g ags).1=g.map (fun c=>ks.getD c.toNat 0)++(mapE (aggK ks) ags).1:=by
  unfold groupsK at hk ⊢
  split at hk
  · simp at hk
  split at hk
  · simp at hk
  split at hk
  · rename_i h;exact absurd hk h
  rename_i h1 h2 h3
  rw [if_neg h1,if_neg h2,if_neg h3]
  exact ⟨by simp only [not_or,Decidable.not_not] at h1;exact h1.2,by simpa using h3,rfl⟩
 obtain ⟨hg,h1,h2⟩:=hg
 rw [h2]
 have hs:∀ r ∈ stab (keyed g) l,okRow ks r:=fun r hr=>ho r (stab_mem.1 hr)
 have hsl:(stab (keyed g) l).length≤4000:=by rw [stab_length];exact hl
 unfold groupE at he ⊢
 split
 · rename_i hn
   rw [if_pos hn] at he
   subst hn
   intro r hr
   rw [List.mem_singleton.1 hr]
   exact aggsE_ok hsl hs h1 he
 · intro r hr
   obtain ⟨m,hm,h3,rfl⟩:=mapE_mem hr
   obtain ⟨h4,h5⟩:=runsF_mem hm
   have h6:=runsF_le hm
   unfold runE at h3 ⊢
   refine okRow_app (keyC_ok (hs _ (h5 _ ?_)) hg.2) (aggsE_ok (by omega) (fun r hr=>hs r (h5 r hr)) h1 h3)
   cases m with
   | nil=>exact absurd rfl h4
   | cons x m=>exact List.mem_cons_self ..
theorem nodeR_ok {db:List DA} (hdb:∀ d ∈ db,d.right) {q:QY} {ks:List (List Int)} {ins:List Rws} (hq:q.node=true) (hlk:ks.length=q.subs.length) (hli:ins.length=q.subs.length)
 (hk:(nodeK (db.map DA.t) q ks.flatten).2=0) (hl:∀ i,(ins.getD i []).length≤4000) (hr:∀ i,i<q.subs.length→∀ r ∈ ins.getD i [],okRow (ks.getD i []) r) (he:(nodeR db q ins).2=0) :
 ∀ r ∈ (nodeR db q ins).1,okRow (nodeK (db.map DA.t) q ks.flatten).1 r:=by
 obtain ⟨hk1,hk8,_,hsn,_⟩:=node_iff.1 hq
 have hk':q.kind=1∨q.kind=4∨(q.kind≠1∧q.kind≠4):=by omega
 unfold nodeR at he ⊢
 unfold nodeK at hk ⊢
 rcases hk' with hq1 | hq4 | ⟨hn1,hn4⟩
 · rw [if_pos hq1] at he hk ⊢
   rw [if_pos hq1]
   have hf:fidx (named q.tab) (db.map DA.t)=fidx (namedD q.tab) db:=fidx_map _ _ _
   unfold scanK at hk ⊢
   rw [hf] at hk ⊢
   split at hk
   · simp at hk
   rename_i h0
   rw [if_neg h0]
   have hlt:fidx (namedD q.tab) db<db.length:=fidx_lt (by omega)
   generalize fidx (namedD q.tab) db=j at *
   have hj:j.toNat<db.length:=by omega
   have hd:(db.map DA.t).getD j.toNat default=(db.getD j.toNat default).t:=by simp [hj]
   intro r hr
   simp only [hd]
   exact okRow_of (hdb _ (by simp [hj]) r hr)
 · have n1:¬ q.kind=1:=by omega
   have n2:¬ q.kind=2:=by omega
   rw [if_neg n1,if_neg n2,if_pos hq4] at he hk ⊢
   rw [if_neg n1,if_neg n2,if_pos hq4]
   have hs2:q.subs.length=2:=by rw [hsn,hq4];rfl
   rw [hs2] at hlk hli hr
   obtain ⟨k0,k1,rfl⟩:∃ a b,ks=[a,b]:=by
    rcases ks with _ | ⟨a,_ | ⟨b,_ | ⟨c,l⟩⟩⟩ <;> simp at hlk
    exact ⟨a,b,rfl⟩
   obtain ⟨i0,i1,rfl⟩:∃ a b,ins=[a,b]:=by
    rcases ins with _ | ⟨a,_ | ⟨b,_ | ⟨c,l⟩⟩⟩ <;> simp at hli
    exact ⟨a,b,rfl⟩
   have hr0:=hr 0 (by omega)
   have hr1:=hr 1 (by omega)
   simp only [List.getD_cons_zero,List.getD_cons_succ] at hr0 hr1 ⊢
   split at hk
   · simp at hk
   rename_i h32
   split at hk
   · rename_i h;exact absurd hk h
   rename_i ht
   rw [if_neg h32,if_neg ht]
   intro r hr
   unfold joinE at hr
   obtain ⟨x,hx,hr⟩:=List.mem_flatten.1 hr
   obtain ⟨a,ha,_,rfl⟩:=mapE_mem hx
   obtain ⟨hr,_⟩:=holdE_mem hr
   obtain ⟨b,hb,rfl⟩:=List.mem_map.1 hr
   simp only [List.flatten_cons,List.flatten_nil,List.append_nil]
   exact okRow_app (hr0 a ha) (hr1 b hb)
 · have hs1:q.subs.length=1:=by rw [hsn,subsN,if_neg hn1,if_neg hn4]
   rw [hs1] at hlk hli hr
   obtain ⟨k0,rfl⟩:∃ a,ks=[a]:=by
    rcases ks with _ | ⟨a,_ | ⟨b,l⟩⟩ <;> simp at hlk
    exact ⟨a,rfl⟩
   obtain ⟨i0,rfl⟩:∃ a,ins=[a]:=by
    rcases ins with _ | ⟨a,_ | ⟨b,l⟩⟩ <;> simp at hli
    exact ⟨a,rfl⟩
   have hr0:=hr 0 (by omega)
   have hl0:=hl 0
   simp only [List.getD_cons_zero,List.flatten_cons,List.flatten_nil,List.append_nil] at hr0 hl0 hk he ⊢
   rw [if_neg hn1] at he hk ⊢
   rw [if_neg hn1]
   split at he
   · rename_i h2
     rw [if_pos h2] at hk ⊢
     rw [if_pos h2]
     split at hk
     · rename_i h;exact absurd hk h
     rename_i ht
     rw [if_neg ht]
     intro r hr
     exact hr0 r (holdE_mem hr).1
   rename_i h2
   rw [if_neg h2,if_neg hn4] at hk ⊢
   rw [if_neg h2,if_neg hn4]
   split at he
   · rename_i h3
     rw [if_pos h3] at hk ⊢
     rw [if_pos h3]
     intro r hr
     obtain ⟨x,hx,h5,rfl⟩:=mapE_mem hr
     unfold projK at hk ⊢
     split at hk
     · simp at hk
     split at hk
     · simp at hk
     rename_i h6 h7
     rw [if_neg h6,if_neg h7]
     exact valuesE_ok (hr0 x hx) hk h5
   rename_i h3
   rw [if_neg h3] at hk ⊢
   rw [if_neg h3]
   split at he
   · rename_i h5
     rw [if_pos h5] at hk ⊢
     rw [if_pos h5]
     exact groupE_ok hl0 hr0 hk he
   rename_i h5
   rw [if_neg h5] at hk ⊢
   rw [if_neg h5]
   split at he
   · rename_i h6
     rw [if_pos h6] at hk ⊢
     rw [if_pos h6]
     split at hk
     · simp at hk
     rename_i h7
     rw [if_neg h7]
     intro r hr
     exact hr0 r (stab_mem.1 hr)
   rename_i h6
   rw [if_neg h6] at hk ⊢
   rw [if_neg h6]
   split at he
   · rename_i h7
     rw [if_pos h7] at hk ⊢
     rw [if_pos h7]
     split at hk
     · simp at hk
     rename_i h8
     rw [if_neg h8]
     intro r hr
     exact hr0 r (List.mem_of_mem_take hr)
   rename_i h7
   rw [if_neg h7] at hk ⊢
   rw [if_neg h7]
   intro r hr
   exact hr0 r (distE_mem.1 hr)
theorem sch_parts {tb:List TB} {q:QY} (h:(q.sch tb).2=0):(∀ s ∈ q.subs,(s.sch tb).2=0)∧q.sch tb=nodeK tb q (q.subs.map fun s=>(s.sch tb).1).flatten:=by
 rw [sch_eq] at h ⊢
 rcases mapE_cases (f:=QY.sch tb) q.subs with ⟨h3,h4⟩ | ⟨h3,h4⟩
 · rw [mapE_ok h4,if_neg (by simp)]
   exact ⟨h4,rfl⟩
 · rw [if_pos h4] at h
   exact absurd h h4
theorem run_parts {db:List DA} {q:QY} (h:(q.run db).2=0):(∀ s ∈ q.subs,(s.run db).2=0)∧q.run db=lim (nodeR db q (q.subs.map fun s=>(s.run db).1)):=by
 rw [run_eq] at h ⊢
 rcases mapE_cases (f:=QY.run db) q.subs with ⟨h3,h4⟩ | ⟨h3,h4⟩
 · rw [mapE_ok h4,if_neg (by simp)]
   exact ⟨h4,rfl⟩
 · rw [if_pos h4] at h
   exact absurd h h4
theorem run_len (db:List DA) (q:QY):(q.run db).1.length≤4000:=by
 rw [run_eq];split
 · simp
 · exact lim_len _
theorem run_err (db:List DA) (q:QY) (h:(q.run db).2≠0):(q.run db).1=[]:=by
 rw [run_eq] at h ⊢;split at h
 · rename_i h1;rw [if_pos h1]
 · rename_i h1
   rw [if_neg h1]
   unfold lim at h ⊢
   split at h
   · rename_i h2
     split at h
     · rename_i h3;rw [if_pos h2,if_pos h3]
     · exact absurd h2 h
   · rename_i h2;rw [if_neg h2]
theorem getD_map2 {α β:Type} [Inhabited α] {f:α→β} {l:List α} {i:Nat} {d:β} (h:i<l.length):(l.map f).getD i d=f (l.getD i default):=by
 simp [h]
theorem run_kinds {db:List DA} (hdb:∀ d ∈ db,d.right) (q:QY):q.formed=true→(q.sch (db.map DA.t)).2=0→∀ r ∈ (q.run db).1,okRow (q.sch (db.map DA.t)).1 r:=by
 refine q_ind (p:=fun q=>q.formed=true→(q.sch (db.map DA.t)).2=0→∀ r ∈ (q.run db).1,okRow (q.sch (db.map DA.t)).1 r) (fun q ih hf hs=>?_) q
 obtain ⟨hn,hfs⟩:=formed_node hf
 obtain ⟨s1,s2⟩:=sch_parts hs
 by_cases hr:(q.run db).2=0
 · obtain ⟨r1,r2⟩:=run_parts hr
   rw [r2] at hr
   obtain ⟨l1,_,l3⟩:=lim_ok hr
   rw [s2] at hs ⊢
   rw [r2,l3]
   refine nodeR_ok hdb hn (by simp) (by simp) hs (fun i=>?_) (fun i hi r hr=>?_) l1
   · by_cases hi:i<q.subs.length
     · rw [getD_map2 hi];exact run_len db _
     · simp [List.getD_eq_getElem?_getD,List.getElem?_eq_none (by simpa using hi)]
   · rw [getD_map2 hi] at hr ⊢
     exact ih i hi (hfs _ (sub_mem hi)) (s1 _ (sub_mem hi)) r hr
 · rw [run_err db q hr]
   simp
set_option maxHeartbeats 4000000
def filtQ (e:EX) (q:QY):QY:=.mk 2 ⟨#[]⟩ [q] e [] [] [] [] 0
def joinQ (e:EX) (p q:QY):QY:=.mk 4 ⟨#[]⟩ [p,q] e [] [] [] [] 0
theorem meaning_ok {db:List DA} {q:QY} (h:(meaning db q).2=0):(schema (db.map DA.t) q).2=0∧meaning db q=q.run db∧(q.run db).2=0:=by
 unfold meaning at h ⊢
 split at h
 · rename_i h1;exact absurd h h1
 · rename_i h1;rw [if_neg h1];exact ⟨by simpa using h1,rfl,h⟩
theorem schema_ok {tb:List TB} {q:QY} (h:(schema tb q).2=0):q.formed=true∧schema tb q=q.sch tb∧(q.sch tb).2=0∧IntKind.i64.wrap q.count≤40:=by
 unfold schema at h ⊢
 split at h
 · simp at h
 · rename_i h1
   split at h
   · rename_i h2;rw [if_neg h1,if_pos h2];exact ⟨h2,rfl,h,by omega⟩
   · simp at h
theorem truthE_ok {ks:List Int} {e:EX} (h:truthE ks e=0):(chk ks e).2=0:=by
 unfold truthE at h
 split at h
 · rename_i h1;exact h1.1
 · exact h
structure IsCmp {α:Type} (f:α→α→Int):Prop where
 anti:∀ a b,f b a = - f a b
 eq:∀ a b,f a b=0→a=b
 trans:∀ a b c,f a b≤0→f b c≤0→f a c≤0
theorem IsCmp.self {α:Type} {f:α→α→Int} (h:IsCmp f) (a:α):f a a=0:=by have:=h.anti a a;omega
theorem sgn_cmp:IsCmp sgn:=⟨fun a b=>by unfold sgn;(repeat' split) <;> omega,fun a b h=>by revert h;unfold sgn;(repeat' split) <;> omega,fun a b c h1 h2=>by revert h1 h2;unfold sgn;(repeat' split) <;> omega⟩
theorem bytes_cmp:IsCmp Lib.compareBytes where
 anti:=by
  intro a
  induction a with
  | nil=>intro b;cases b <;> simp [Lib.compareBytes]
  | cons x a ih =>
    intro b
    cases b with
    | nil=>simp [Lib.compareBytes]
    | cons y b =>
      simp only [Lib.compareBytes]
      have h1:x<y↔x.toNat<y.toNat:=UInt8.lt_iff_toNat_lt
      have h2:y<x↔y.toNat<x.toNat:=UInt8.lt_iff_toNat_lt
      have:=ih b
      simp only [h1,h2]
      (repeat' split) <;> omega
 eq:=by
  intro a
  induction a with
  | nil=>intro b;cases b <;> simp [Lib.compareBytes]
  | cons x a ih =>
    intro b
    cases b with
    | nil=>simp [Lib.compareBytes]
    | cons y b =>
      simp only [Lib.compareBytes]
      have h1:x<y↔x.toNat<y.toNat:=UInt8.lt_iff_toNat_lt
      have h2:y<x↔y.toNat<x.toNat:=UInt8.lt_iff_toNat_lt
      simp only [h1,h2]
      intro h
      split at h
      · omega
      · split at h
        · omega
        · have hxy:x=y:=UInt8.toNat_inj.1 (by omega)
          rw [hxy,ih b h]
 trans:=by
  intro a
  induction a with
  | nil=>intro b c _ _;cases c <;> simp [Lib.compareBytes]
  | cons x a ih =>
    intro b c h1 h2
    cases b with
    | nil=>simp [Lib.compareBytes] at h1
    | cons y b =>
      cases c with
      | nil=>simp [Lib.compareBytes] at h2
      | cons z c =>
        simp only [Lib.compareBytes] at h1 h2 ⊢
        simp only [UInt8.lt_iff_toNat_lt] at h1 h2 ⊢
        have:=ih b c
        (repeat' split) <;> first | omega | (split at h1 <;> (try split at h1) <;> split at h2 <;> (try split at h2) <;> omega)
theorem lex_cmp {α β:Type} {f:α→α→Int} {g:β→β→Int} (hf:IsCmp f) (hg:IsCmp g):IsCmp (fun a b:α × β=>if f a.1 b.1=0 then g a.2 b.2 else f a.1 b.1) where
 anti:=by
  intro a b
  have h1:=hf.anti a.1 b.1
  have h2:=hg.anti a.2 b.2
  (repeat' split) <;> omega
 eq:=by
  intro a b h
  split at h
  · rename_i h1
    exact Prod.ext (hf.eq _ _ h1) (hg.eq _ _ h)
  · contradiction
 trans:=by
  intro a b c h1 h2
  have t:=hf.trans a.1 b.1 c.1
  have u:=hg.trans a.2 b.2 c.2
  show (if f a.1 c.1=0 then g a.2 c.2 else f a.1 c.1)≤0
  by_cases e1:f a.1 b.1=0
  · by_cases e2:f b.1 c.1=0
    · rw [if_pos e1] at h1
      rw [if_pos e2] at h2
      have:=hf.eq _ _ e1
      rw [← this] at e2
      rw [if_pos e2]
      exact u h1 h2
    · rw [if_neg e2] at h2
      have:=hf.eq _ _ e1
      rw [← this] at e2 h2
      rw [if_neg e2]
      exact h2
  · rw [if_neg e1] at h1
    by_cases e2:f b.1 c.1=0
    · have:=hf.eq _ _ e2
      rw [← this,if_neg e1]
      exact h1
    · rw [if_neg e2] at h2
      have t1:=t h1 h2
      have h3:f a.1 c.1≠0:=by
       intro h0
       have:=hf.eq _ _ h0
       rw [this] at h1 e1
       have:=hf.anti c.1 b.1
       omega
      rw [if_neg h3]
      exact t1
theorem VL.ext' {a b:VL} (h1:a.k=b.k) (h2:a.n=b.n) (h3:a.s.data.toList=b.s.data.toList):a=b:=by
 obtain ⟨k,n,⟨⟨s⟩⟩⟩:=a
 obtain ⟨k',n',⟨⟨s'⟩⟩⟩:=b
 simp only at h1 h2 h3
 rw [h1,h2,h3]
theorem vl_cmp:IsCmp VL.cmp:=by
 have h:=lex_cmp sgn_cmp (lex_cmp sgn_cmp bytes_cmp)
 have e:∀ a b:VL,a.cmp b=(if sgn a.k b.k=0 then (if sgn a.n b.n=0 then Lib.compareBytes a.s.data.toList b.s.data.toList else sgn a.n b.n) else sgn a.k b.k):=fun a b=>by
  unfold VL.cmp orI orI orI orI
  (repeat' split) <;> omega
 refine ⟨fun a b=>?_,fun a b h0=>?_,fun a b c h1 h2=>?_⟩
 · rw [e,e];exact h.anti (a.k,a.n,a.s.data.toList) (b.k,b.n,b.s.data.toList)
 · rw [e] at h0
   have:=h.eq (a.k,a.n,a.s.data.toList) (b.k,b.n,b.s.data.toList) h0
   simp only [Prod.mk.injEq] at this
   exact VL.ext' this.1 this.2.1 this.2.2
 · rw [e] at h1 h2 ⊢
   exact h.trans (a.k,a.n,a.s.data.toList) (b.k,b.n,b.s.data.toList) (c.k,c.n,c.s.data.toList) h1 h2
theorem IsCmp.lt_trans {α:Type} {f:α→α→Int} (h:IsCmp f) {a b c:α} (h1:f a b<0) (h2:f b c≤0):f a c<0:=by
 have t:=h.trans a b c (by omega) h2
 by_cases h0:f a c=0
 · have:=h.eq _ _ h0
   subst this
   have:=h.anti a b
   omega
 · omega
structure IsOrd {α:Type} (f:α→α→Int):Prop where
 anti:∀ a b,f b a = - f a b
 trans:∀ a b c,f a b≤0→f b c≤0→f a c≤0
theorem IsCmp.ord {α:Type} {f:α→α→Int} (h:IsCmp f):IsOrd f:=⟨h.anti,h.trans⟩
theorem IsOrd.swo {α:Type} {f:α→α→Int} (h:IsOrd f):Swo f where
 asym x y h1:=by have:=h.anti x y;omega
 ntr x y z h1:=by
  by_cases h2:f x y<0
  · exact .inl h2
  · by_cases h3:f y z<0
    · exact .inr h3
    · have a1:=h.anti x y
      have a2:=h.anti y z
      have a3:=h.anti x z
      have:=h.trans z y x (by omega) (by omega)
      omega
theorem IsOrd.comap {α β:Type} {f:α→α→Int} (h:IsOrd f) (g:β→α):IsOrd fun x y=>f (g x) (g y) :=
 ⟨fun a b=>h.anti _ _,fun a b c h1 h2=>h.trans _ _ _ h1 h2⟩
theorem IsOrd.neg {α:Type} {f:α→α→Int} (h:IsOrd f):IsOrd fun x y=>- f x y :=
 ⟨fun a b=>by have:=h.anti a b;omega,fun a b c h1 h2=>by have:=h.trans c b a (by have:=h.anti b c;omega) (by have:=h.anti a b;omega);have:=h.anti a c;omega⟩
theorem IsOrd.lex {α:Type} {f g:α→α→Int} (hf:IsOrd f) (hg:IsOrd g):IsOrd fun x y=>if f x y=0 then g x y else f x y where
 anti a b:=by
  have h1:=hf.anti a b
  have h2:=hg.anti a b
  (repeat' split) <;> omega
 trans a b c h1 h2:=by
  have t1:=hf.trans a b c
  have t2:=hf.trans c a b
  have t3:=hf.trans b c a
  have t4:=hg.trans a b c
  have a1:=hf.anti a b
  have a2:=hf.anti b c
  have a3:=hf.anti a c
  have a4:=hf.anti c a
  (repeat' split at h1) <;> (repeat' split at h2) <;> (repeat' split) <;> first | omega | (exact t4 (by omega) (by omega)) | skip
theorem IsOrd.zero {α:Type}:IsOrd fun _ _:α=>(0:Int):=⟨fun _ _=>by simp,fun _ _ _ _ _=>Int.le_refl _⟩
theorem ordC_ord:∀ o:List OD,IsOrd (ordC o)
 | []=>IsOrd.zero
 | o::l=>by
   have hf:IsOrd fun x y:List VL=>if o.down=true then -((x.getD o.col.toNat default).cmp (y.getD o.col.toNat default)) else (x.getD o.col.toNat default).cmp (y.getD o.col.toNat default):=by
    cases hd:o.down
    · simpa using vl_cmp.ord.comap (fun x:List VL=>x.getD o.col.toNat default)
    · simpa using (vl_cmp.ord.comap (fun x:List VL=>x.getD o.col.toNat default)).neg
   exact hf.lex (ordC_ord l)
theorem lexC_anti:∀ l m:List VL,lexC m l = - lexC l m
 | [],[]=>by simp [lexC]
 | [],_::_=>by simp [lexC]
 | _::_,[]=>by simp [lexC]
 | a::l,b::m=>by
   have h1:=vl_cmp.anti a b
   have h2:=lexC_anti l m
   unfold lexC
   (repeat' split) <;> omega
theorem lexC_eq:∀ l m:List VL,lexC l m=0→l=m
 | [],[],_=>rfl
 | [],_::_,h=>by simp [lexC] at h
 | _::_,[],h=>by simp [lexC] at h
 | a::l,b::m,h=>by
   unfold lexC at h
   split at h
   · rename_i h1;rw [vl_cmp.eq a b h1,lexC_eq l m h]
   · exact absurd h (by assumption)
theorem lexC_trans:∀ l m n:List VL,lexC l m≤0→lexC m n≤0→lexC l n≤0
 | [],_,[],_,_=>by simp [lexC]
 | [],_,_::_,_,_=>by simp [lexC]
 | _::_,[],_,h,_=>by simp [lexC] at h
 | _::_,_::_,[],_,h=>by simp [lexC] at h
 | a::l,b::m,c::n,h1,h2=>by
   have t0:=lexC_trans l m n
   have t1:=vl_cmp.trans a b c
   have t2:=vl_cmp.trans c a b
   have t3:=vl_cmp.trans b c a
   have a1:=vl_cmp.anti a b
   have a2:=vl_cmp.anti b c
   have a3:=vl_cmp.anti a c
   unfold lexC at h1 h2 ⊢
   (repeat' split at h1) <;> (repeat' split at h2) <;> (repeat' split) <;> first | omega | (exact t0 h1 h2)
theorem lexC_cmp:IsCmp lexC:=⟨lexC_anti,lexC_eq,lexC_trans⟩
mutual
def EX.cm (f:Int→Int):EX→EX
 | .mk op n k i s args=>.mk op (if op=1 then f n else n) k i s (EX.cmL f args)
def EX.cmL (f:Int→Int):List EX→List EX
 | []=>[]
 | e::es=>e.cm f::EX.cmL f es
end
def T.cm (f:Int→Int):T→T
 | .col n=>.col (f n)
 | .val v=>.val v
 | .un op a=>.un op (a.cm f)
 | .bin op a b=>.bin op (a.cm f) (b.cm f)
theorem mkT_cm {f:Int→Int} {op n:Int} {v:VL} {l:List T}:mkT op (if op=1 then f n else n) v (l.map (T.cm f))=(mkT op n v l).cm f:=by
 match l with
 | []=>by_cases h:op=1 <;> simp [mkT,h,T.cm]
 | [a]=>rfl
 | a::b::l=>rfl
mutual
theorem cm_tr (f:Int→Int):∀ e:EX,(e.cm f).tr=e.tr.cm f
 | .mk op n k i s args=>by rw [EX.cm,EX.tr,EX.tr,cm_trL f args,mkT_cm]
theorem cm_trL (f:Int→Int):∀ l:List EX,EX.trL (EX.cmL f l)=(EX.trL l).map (T.cm f)
 | []=>rfl
 | e::es=>by rw [EX.cmL,EX.trL,EX.trL,List.map_cons,cm_tr f e,cm_trL f es]
end
def tuI (lf rt:Int) (n:Int):Int:=if n<lf then IntKind.i64.wrap (n+rt) else IntKind.i64.wrap (n - lf)
theorem wrap_small {n:Int} (h:0≤n) (h2:n≤1000000000000):IntKind.i64.wrap n=n:=wrap_i64 (by omega) (by omega)
theorem rows_ok {db:List DA} (hdb:∀ d ∈ db,d.right) {q:QY} (h:(schema (db.map DA.t) q).2=0):∀ r ∈ (q.run db).1,okRow (schema (db.map DA.t) q).1 r:=by
 obtain ⟨f,e,s,_⟩:=schema_ok h
 rw [e]
 exact run_kinds hdb q f s
end Go.Proofs.Try
