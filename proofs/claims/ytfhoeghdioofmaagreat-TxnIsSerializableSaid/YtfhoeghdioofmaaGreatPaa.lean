/-
 A part of the proof.
-/
set_option linter.unusedSimpArgs false
set_option linter.unusedVariables false
namespace Go.Proofs.Try
structure VL where (k:Int) (n:Int) (s:ByteArray) deriving Inhabited,DecidableEq
structure WR where (tab row:Int) (dead:Bool) (vals:List VL) deriving Inhabited,DecidableEq
structure Acc where
 mode:Int
 snap:Int
 done:Bool
 stamp:Int
 reads:List Int
 writes:List Int
 deriving Inhabited
structure TX where (mode snap:Int) (done:Bool) (stamp:Int) (log:List WR) (rows:List (Int × Int)) (whole:List Int) deriving Inhabited
structure TS where (last shown begun:Int) (kept:List TX) (act:List (Int × TX)) deriving Inhabited
structure CL where (kind tx a b:Int) (dead:Bool) (vals:List VL) deriving Inhabited
structure RS where (n:Int) (w:List WR) (e:Int) deriving Inhabited
def WR.key (w:WR):Int × Int:=(w.tab,w.row)
def itemI (k:Int × Int):Int:=k.1 * 2147483648+k.2
def withL (n:Int):List Int->List Int
 | []=>[n]
 | x::l=>if n<=x then n::(x::l).filter (fun y=>decide (y≠n)) else x::withL n l
def ascL (l:List Int):List Int:=l.foldl (fun m n=>withL n m) []
def keyLt (a b:Int × Int):Bool:=decide (a.1<b.1\/(a.1=b.1/\a.2<b.2))
def putW (w:WR):List WR->List WR
 | []=>[w]
 | x::l=>if keyLt w.key x.key=true then w::x::l else if w.key=x.key then w::l else x::putW w l
def lastW (log:List WR):List WR:=log.foldl (fun m w=>putW w m) []
def leastA (s:TS):Int:=s.act.foldl (fun m p=>min m p.2.snap) s.shown
def leastK (s:TS):Int:=s.kept.foldl (fun k t=>if leastA s<t.stamp then min k t.snap else k) (leastA s)
def gone (k:Int) (t:TX):Bool:=decide (t.stamp<=k) && (decide (0<t.stamp) || decide (t.snap<=k))
def forgetS (s:TS):TS:={ s with kept:=s.kept.filter fun t=>!gone (leastK s) t }
def allS (s:TS):List TX:=s.kept++s.act.map (·.2)
def seenOf (t o:TX):List Int:=match (lastW o.log).find? (fun w=>t.whole.contains w.tab) with | some w=>[itemI w.key] | none=>[]
def readsOf (l:List TX) (k:Nat):List Int :=
 ascL ((l.getD k default).rows.map itemI++(List.range l.length).flatMap fun i=>if i=k then [] else seenOf (l.getD k default) (l.getD i default))
def accOf (l:List TX) (k:Nat):Acc:=⟨(l.getD k default).mode,(l.getD k default).snap,(l.getD k default).done,(l.getD k default).stamp,readsOf l k,(lastW (l.getD k default).log).map fun w=>itemI w.key⟩
def histL (l:List TX):List Acc:=(List.range l.length).map (accOf l)
def histS (s:TS):List Acc:=histL (allS s)
def getT (s:TS) (tx:Int):Option TX:=(s.act.find? fun p=>decide (p.1=tx)).map (·.2)
def setT (s:TS) (tx:Int) (t:TX):TS:={ s with act:=s.act.map fun p=>if p.1=tx then (tx,t) else p }
def delT (s:TS) (tx:Int):TS:={ s with act:=s.act.filter fun p=>decide (p.1≠tx) }
def beginS (s:TS) (mode:Int):RS × TS :=
 if mode<0\/2<mode then (⟨0,[],1⟩,s)
 else if 16<=s.act.length\/40<=s.kept.length+s.act.length then (⟨0,[],2⟩,s)
 else (⟨s.begun+1,[],0⟩,forgetS { s with begun:=s.begun+1,act:=s.act++[(s.begun+1,⟨mode,s.shown,false,0,[],[],[]⟩)] })
def readT (t:TX) (tab row:Int):TX :=
 if t.whole.contains tab=true\/t.rows.contains (tab,row)=true then t
 else if 0<row/\t.rows.length<24 then { t with rows:=t.rows++[(tab,row)] }
 else { t with whole:=t.whole++[tab],rows:=t.rows.filter fun r=>decide (r.1≠tab) }
theorem mem_withL {n x:Int}:∀ {l:List Int},x ∈ withL n l↔x=n\/x ∈ l
 | []=>by simp [withL]
 | y::l=>by
   rw [withL]
   split
   . simp only [List.mem_cons,List.mem_filter,decide_eq_true_eq]
     constructor
     . rintro (h | ⟨h,_⟩)
       . exact .inl h
       . exact .inr h
     . rintro (h | h)
       . exact .inl h
       . by_cases e:x=n
         . exact .inl e
         . exact .inr ⟨h,e⟩
   . rw [List.mem_cons,mem_withL (l:=l),List.mem_cons]
     constructor
     . rintro (h | h | h)
       . exact .inr (.inl h)
       . exact .inl h
       . exact .inr (.inr h)
     . rintro (h | h | h)
       . exact .inr (.inl h)
       . exact .inl h
       . exact .inr (.inr h)
theorem withL_asc {n:Int}:∀ {l:List Int},l.Pairwise (· < ·)->(withL n l).Pairwise (· < ·)
 | [],_=>by simp [withL]
 | y::l,h=>by
   obtain ⟨h1,h2⟩:=List.pairwise_cons.1 h
   rw [withL]
   split
   . rename_i hn
     refine List.pairwise_cons.2 ⟨fun x hx=>?_,h.sublist List.filter_sublist⟩
     obtain ⟨hx,hne⟩:=List.mem_filter.1 hx
     simp only [decide_eq_true_eq] at hne
     rcases List.mem_cons.1 hx with rfl | hx
     . omega
     . have:=h1 x hx;omega
   . rename_i hn
     refine List.pairwise_cons.2 ⟨fun x hx=>?_,withL_asc h2⟩
     rcases mem_withL.1 hx with rfl | hx
     . omega
     . exact h1 x hx
theorem ascL_snoc (l:List Int) (n:Int):ascL (l++[n])=withL n (ascL l):=by simp [ascL]
theorem ascL_asc (l:List Int):(ascL l).Pairwise (· < ·):=by
 have:∀ (l m:List Int),m.Pairwise (· < ·)->(l.foldl (fun m n=>withL n m) m).Pairwise (· < ·):=by
  intro l
  induction l with
  | nil=>intro m h;exact h
  | cons n l ih=>intro m h;exact ih _ (withL_asc h)
 exact this l [] List.Pairwise.nil
theorem mem_ascL {x:Int} (l:List Int):x ∈ ascL l↔x ∈ l:=by
 have:∀ (l m:List Int),x ∈ l.foldl (fun m n=>withL n m) m↔x ∈ m\/x ∈ l:=by
  intro l
  induction l with
  | nil=>intro m;simp
  | cons n l ih =>
    intro m
    rw [List.foldl_cons,ih,mem_withL,List.mem_cons]
    constructor
    . rintro ((h | h) | h)
      . exact .inr (.inl h)
      . exact .inl h
      . exact .inr (.inr h)
    . rintro (h | h | h)
      . exact .inl (.inr h)
      . exact .inl (.inl h)
      . exact .inr h
 simpa [ascL] using this l []
theorem asc_eq {l m:List Int} (hl:l.Pairwise (· < ·)) (hm:m.Pairwise (· < ·)) (h:∀ x,x ∈ l↔x ∈ m):l=m:=by
 have nd:∀ {l:List Int},l.Pairwise (· < ·)->l.Nodup:=fun h=>h.imp fun {a b} h e=>by omega
 refine List.Perm.eq_of_pairwise (le:=(·<=·)) (fun a b _ _ h1 h2=>by omega) (hl.imp fun h=>by omega) (hm.imp fun h=>by omega) ((List.perm_ext_iff_of_nodup (nd hl) (nd hm)).2 h)
theorem keyLt_iff {a b:Int × Int}:keyLt a b=true↔a.1<b.1\/(a.1=b.1/\a.2<b.2):=by simp [keyLt]
theorem keyLt_irr (a:Int × Int):¬ keyLt a a=true:=by rw [keyLt_iff];omega
theorem keyLt_trans {a b c:Int × Int} (h1:keyLt a b=true) (h2:keyLt b c=true):keyLt a c=true:=by
 rw [keyLt_iff] at *;omega
theorem keyLt_tri (a b:Int × Int):keyLt a b=true\/a=b\/keyLt b a=true:=by
 rw [keyLt_iff,keyLt_iff,Prod.ext_iff];omega
abbrev SrtW (l:List WR):Prop:=l.Pairwise fun a b=>keyLt a.key b.key=true
theorem mem_putW {w x:WR}:∀ {l:List WR},SrtW l->(x ∈ putW w l↔x=w\/(x ∈ l/\x.key≠w.key))
 | [],_=>by simp [putW]
 | y::l,h=>by
   obtain ⟨h1,h2⟩:=List.pairwise_cons.1 h
   rw [putW]
   split
   . rename_i hlt
     simp only [List.mem_cons]
     have hne:x=y\/x ∈ l->x.key≠w.key:=by
      rintro (rfl | hx) e
      . rw [e] at hlt;exact keyLt_irr _ hlt
      . have:=keyLt_trans hlt (h1 x hx)
        rw [e] at this;exact keyLt_irr _ this
     constructor
     . rintro (h | h)
       . exact .inl h
       . exact .inr ⟨h,hne h⟩
     . rintro (h | h)
       . exact .inl h
       . exact .inr h.1
   . rename_i hlt
     split
     . rename_i he
       simp only [List.mem_cons]
       constructor
       . rintro (h | h)
         . exact .inl h
         . refine .inr ⟨.inr h,fun e=>?_⟩
           have:=h1 x h
           rw [e,he] at this
           exact keyLt_irr _ this
       . rintro (h | ⟨h | h,hk⟩)
         . exact .inl h
         . subst h;exact absurd he.symm hk
         . exact .inr h
     . rename_i he
       rw [List.mem_cons,mem_putW h2,List.mem_cons]
       constructor
       . rintro (h | h | ⟨h,hk⟩)
         . subst h;exact .inr ⟨.inl rfl,fun e=>he e.symm⟩
         . exact .inl h
         . exact .inr ⟨.inr h,hk⟩
       . rintro (h | ⟨h | h,hk⟩)
         . exact .inr (.inl h)
         . exact .inl h
         . exact .inr (.inr ⟨h,hk⟩)
theorem putW_srt {w:WR}:∀ {l:List WR},SrtW l->SrtW (putW w l)
 | [],_=>by simp [putW]
 | y::l,h=>by
   obtain ⟨h1,h2⟩:=List.pairwise_cons.1 h
   rw [putW]
   split
   . rename_i hlt
     refine List.pairwise_cons.2 ⟨fun x hx=>?_,h⟩
     rcases List.mem_cons.1 hx with rfl | hx
     . exact hlt
     . exact keyLt_trans hlt (h1 x hx)
   . rename_i hlt
     split
     . rename_i he
       exact List.pairwise_cons.2 ⟨fun x hx=>by rw [he];exact h1 x hx,h2⟩
     . rename_i he
       refine List.pairwise_cons.2 ⟨fun x hx=>?_,putW_srt h2⟩
       rcases (mem_putW h2).1 hx with rfl | ⟨hx,_⟩
       . rcases keyLt_tri x.key y.key with h | h | h
         . exact absurd h hlt
         . exact absurd h he
         . exact h
       . exact h1 x hx
theorem lastW_snoc (log:List WR) (w:WR):lastW (log++[w])=putW w (lastW log):=by simp [lastW]
theorem rev_ind {α:Type} {p:List α->Prop} (h0:p []) (h1:∀ l x,p l->p (l++[x])) (l:List α):p l:=by
 have:∀ n (l:List α),l.length=n->p l:=by
  intro n
  induction n with
  | zero=>intro l hl;rw [List.eq_nil_of_length_eq_zero hl];exact h0
  | succ n ih =>
    intro l hl
    have hne:l≠[]:=fun e=>by rw [e] at hl;cases hl
    rw [<- List.dropLast_concat_getLast hne]
    exact h1 _ _ (ih _ (by simp [hl]))
 exact this _ l rfl
theorem lastW_srt (log:List WR):SrtW (lastW log):=rev_ind (p:=fun l=>SrtW (lastW l)) List.Pairwise.nil (fun l x ih=>by rw [lastW_snoc];exact putW_srt ih) log
theorem mem_lastW_key {log:List WR} {k:Int × Int}:(∃ w ∈ lastW log,w.key=k)↔∃ w ∈ log,w.key=k:=by
 refine rev_ind (p:=fun log=>(∃ w ∈ lastW log,w.key=k)↔∃ w ∈ log,w.key=k) (by simp [lastW]) (fun log x ih=>?_) log
 rw [lastW_snoc]
 constructor
 . rintro ⟨w,hw,e⟩
   rcases (mem_putW (lastW_srt log)).1 hw with rfl | ⟨hw,_⟩
   . exact ⟨w,by simp,e⟩
   . obtain ⟨v,hv,e2⟩:=ih.1 ⟨w,hw,e⟩
     exact ⟨v,by simp [hv],e2⟩
 . rintro ⟨w,hw,e⟩
   by_cases hk:x.key=k
   . exact ⟨x,(mem_putW (lastW_srt log)).2 (.inl rfl),hk⟩
   . rcases List.mem_append.1 hw with hw | hw
     . obtain ⟨v,hv,e2⟩:=ih.2 ⟨w,hw,e⟩
       exact ⟨v,(mem_putW (lastW_srt log)).2 (.inr ⟨hv,fun h=>hk (by rw [<- h,e2])⟩),e2⟩
     . rw [List.mem_singleton.1 hw] at e;exact absurd e hk
theorem lastW_mem {log:List WR}:∀ w ∈ lastW log,w ∈ log:=by
 refine rev_ind (p:=fun log=>∀ w ∈ lastW log,w ∈ log) (by simp [lastW]) (fun log x ih=>?_) log
 rw [lastW_snoc]
 intro w hw
 rcases (mem_putW (lastW_srt log)).1 hw with rfl | ⟨hw,_⟩
 . simp
 . exact List.mem_append_left _ (ih w hw)
end Go.Proofs.Try
