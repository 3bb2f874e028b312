/-
 A part of the proof: see the text of the law.
-/
import Derived.Test.YtchlampphcaomaaGreatDoorAlphaF
set_option linter.unusedSimpArgs false
set_option linter.unusedVariables false
namespace Go.Al
def AR (P:Program) (m:Nat) (N:FN) (L:List Nat) (H0:List AObj) (t:AT) (k:List It) (Q:Exit→AS→Prop) (fr0 fr:List (Nat × AV)) (H:List AObj):Prop :=
 anyW P L (fun fr H=>R P m N k Q .normal fr H) t H0 fr0 fr H
inductive Kn where
 | o (l:List (Option (Nat × Bool) × MI)) (k:List It) (Q:Exit→AS→Prop) (fr:List (Nat × AV)) (H:List AObj)
 | a0 (L:List Nat) (H0:List AObj) (t:AT) (k:List It) (Q:Exit→AS→Prop) (fr0 fr:List (Nat × AV)) (H:List AObj)
 | a1 (L:List Nat) (H0:List AObj) (t:AT) (k:List It) (Q:Exit→AS→Prop) (fr0 fr:List (Nat × AV)) (H:List AObj)
 | a2 (L:List Nat) (H0:List AObj) (t:AT) (k:List It) (Q:Exit→AS→Prop) (fr0 fr:List (Nat × AV)) (H:List AObj)
inductive Ke where
 | o (l:List (Option (Nat × Bool) × MI)) (k:List It) (Q:Exit→AS→Prop)
 | a (L:List Nat) (H0:List AObj) (t:AT) (k:List It) (Q:Exit→AS→Prop) (fr0:List (Nat × AV))
def rK (P:Program) (m:Nat) (N:FN):Kn→Nat→AV→Prop
 | .o l k Q fr H,d,x=>R P m N (.o l::k) Q .normal ((d,x)::fr) H
 | .a0 L H0 t k Q fr0 fr H,d,x=>AR P m N L H0 t k Q ((d,x)::fr0) ((d,x)::fr) H
 | .a1 L H0 t k Q fr0 fr H,d,x=>AR P m N L H0 t k Q ((d,.junk)::fr0) ((d,x)::fr) H
 | .a2 L H0 t k Q fr0 fr H,d,x=>AR P m N L H0 t k Q fr0 ((d,x)::fr) H
def rE (P:Program) (m:Nat) (N:FN):Ke→List (Nat × AV)→List AObj→Prop
 | .o l k Q,fr,H=>R P m N (.o l::k) Q .normal fr H
 | .a L H0 t k Q fr0,fr,H=>AR P m N L H0 t k Q fr0 fr H
section
variable {P:Program} {m:Nat} {N:FN} {k:List It} {l:List (Option (Nat × Bool) × MI)} {Q:Exit→AS→Prop} {fr fr0:List (Nat × AV)} {H H0:List AObj} {e:Exit} {L:List Nat} {t:AT} {c:Kn} {q:Ke}
theorem rKo {d:Nat} {x:AV}:rK P m N (.o l k Q fr H) d x=R P m N (.o l::k) Q .normal ((d,x)::fr) H:=rfl
theorem rKa0 {d:Nat} {x:AV}:rK P m N (.a0 L H0 t k Q fr0 fr H) d x=AR P m N L H0 t k Q ((d,x)::fr0) ((d,x)::fr) H:=rfl
theorem rKa1 {d:Nat} {x:AV}:rK P m N (.a1 L H0 t k Q fr0 fr H) d x=AR P m N L H0 t k Q ((d,.junk)::fr0) ((d,x)::fr) H:=rfl
theorem rKa2 {d:Nat} {x:AV}:rK P m N (.a2 L H0 t k Q fr0 fr H) d x=AR P m N L H0 t k Q fr0 ((d,x)::fr) H:=rfl
theorem rEo:rE P m N (.o l k Q) fr H=R P m N (.o l::k) Q .normal fr H:=rfl
theorem rEa:rE P m N (.a L H0 t k Q fr0) fr H=AR P m N L H0 t k Q fr0 fr H:=rfl
def guardR (P:Program) (m:Nat) (N:FN) (v:AV) (t:Nat) (want:Bool) (i:MI) (l:List (Option (Nat × Bool) × MI)) (k:List It) (Q:Exit→AS→Prop) (fr:List (Nat × AV)) (H:List AObj):Prop:=match v with
 | .bool b=>(b=want→R P m N (.o ((none,i)::l)::k) Q .normal ((t,.bool want)::fr) H)∧(b = !want→R P m N (.o l::k) Q .normal (putO ((t,.bool !want)::fr) (dstOfI i) (.tup [])) H)
 | .tup []=>R P m N (.o l::k) Q .normal (putO fr (dstOfI i) (.tup [])) H
 | _=>False
theorem Rg {t:Nat} {want:Bool} {i:MI}:R P m N (.o ((some (t,want),i)::l)::k) Q .normal fr H=guardR P m N (get fr t) t want i l k Q fr H:=by
 simp only [R,mopsW,guardR];rfl
theorem guardU {t:Nat} {want:Bool} {i:MI}:guardR P m N (.tup []) t want i l k Q fr H=R P m N (.o l::k) Q .normal (putO fr (dstOfI i) (.tup [])) H:=rfl
theorem guardTT {t:Nat} {i:MI}:guardR P m N (.bool true) t true i l k Q fr H=R P m N (.o ((none,i)::l)::k) Q .normal ((t,.bool true)::fr) H:=by simp [guardR]
theorem guardFF {t:Nat} {i:MI}:guardR P m N (.bool false) t false i l k Q fr H=R P m N (.o ((none,i)::l)::k) Q .normal ((t,.bool false)::fr) H:=by simp [guardR]
theorem guardTF {t:Nat} {i:MI}:guardR P m N (.bool true) t false i l k Q fr H=R P m N (.o l::k) Q .normal (putO ((t,.bool true)::fr) (dstOfI i) (.tup [])) H:=by simp [guardR]
theorem guardFT {t:Nat} {i:MI}:guardR P m N (.bool false) t true i l k Q fr H=R P m N (.o l::k) Q .normal (putO ((t,.bool false)::fr) (dstOfI i) (.tup [])) H:=by simp [guardR]
theorem guard_i {b:Bool} {t:Nat} {want:Bool} {i:MI} (h1:b=want→R P m N (.o ((none,i)::l)::k) Q .normal ((t,.bool want)::fr) H) (h2:b = !want→R P m N (.o l::k) Q .normal (putO ((t,.bool !want)::fr) (dstOfI i) (.tup [])) H) :
 guardR P m N (.bool b) t want i l k Q fr H:=⟨h1,h2⟩
def valR (P:Program) (m:Nat) (N:FN) (v:Option (Nat × AV)) (c:Kn):Prop:=match v with
 | some (d,x)=>rK P m N c d x
 | none=>False
theorem valR_some {d:Nat} {x:AV}:valR P m N (some (d,x)) c=rK P m N c d x:=rfl
theorem Rv {i:VI}:R P m N (.o ((none,.v i)::l)::k) Q .normal fr H=valR P m N (viV fr H i) (.o l k Q fr H):=by
 simp only [R,mopsW,miW,valR];rfl
def piR (P:Program) (m:Nat) (N:FN) (fr:List (Nat × AV)) (H:List AObj) (c:Kn) (i:PI):Prop:=piP fr H (fun d x=>rK P m N c d x) i
theorem Rp {i:PI}:R P m N (.o ((none,.p i)::l)::k) Q .normal fr H=piR P m N fr H (.o l k Q fr H) i:=rfl
def IdxR (P:Program) (m:Nat) (N:FN) (xs:List AV) (n:Int) (d:Nat) (c:Kn):Prop :=
 ∃ y cs,0≤n∧xs[n.toNat]?=some y∧cellsO y=some cs∧rK P m N c d (.vp cs)
def epR (P:Program) (m:Nat) (N:FN) (o:Option AObj) (n:Int) (q id sz d:Nat) (c:Kn):Prop:=match o with
 | some (.arr _ _ (_::_))=>0≤n∧n<q∧rK P m N c d (.ep id sz n.toNat 0)
 | _=>False
def epS (P:Program) (m:Nat) (N:FN) (o:Option AObj) (n:Int) (off q id sz d:Nat) (c:Kn):Prop:=match o with
 | some (.arr _ _ _)=>0≤n∧n<q∧rK P m N c d (.ep id sz (off+n.toNat) 0)
 | _=>False
theorem epS_arr {E:TypeId} {sz0:Nat} {xs:List AV} {n:Int} {off q id sz d:Nat}:epS P m N (some (.arr E sz0 xs)) n off q id sz d c=(0≤n∧n<q∧rK P m N c d (.ep id sz (off+n.toNat) 0)):=rfl
def idxR (P:Program) (m:Nat) (N:FN) (H:List AObj) (d sz:Nat) (x i:AV) (c:Kn):Prop:=match x,i with
 | .view sz' xs,.int _ n=>sz'=sz∧IdxR P m N xs n d c
 | .slc id sz' q,.int _ n=>sz'=sz∧epR P m N H[id]? n q id sz d c
 | .sub id sz' off q,.int _ n=>sz'=sz∧epS P m N H[id]? n off q id sz d c
 | _,_=>False
theorem Ridx {d sz:Nat} {x i:MV}:piR P m N fr H c (.idx d sz x i)=idxR P m N H d sz (mv fr x) (mv fr i) c:=by
 apply propext
 simp only [piR,piP]
 unfold idxR IdxR Idx epR epS
 generalize mv fr x=u
 generalize mv fr i=v
 cases u <;> cases v <;> try exact Iff.rfl
 · refine and_congr Iff.rfl ⟨?_,?_⟩
   · rintro ⟨y,h1,h2,h3⟩
     split at h3
     · rename_i cs hcs;exact ⟨y,cs,h1,h2,hcs,h3⟩
     · exact h3.elim
   · rintro ⟨y,cs,h1,h2,h3,h4⟩
     exact ⟨y,h1,h2,by simp only [h3];exact h4⟩
theorem idxR_view {d sz sz':Nat} {xs:List AV} {ki:IntKind} {n:Int}:idxR P m N H d sz (.view sz' xs) (.int ki n) c=(sz'=sz∧IdxR P m N xs n d c):=rfl
theorem idxR_slc {d sz sz' id q:Nat} {ki:IntKind} {n:Int}:idxR P m N H d sz (.slc id sz' q) (.int ki n) c=(sz'=sz∧epR P m N H[id]? n q id sz d c):=rfl
theorem idxR_sub {d sz sz' id off q:Nat} {ki:IntKind} {n:Int}:idxR P m N H d sz (.sub id sz' off q) (.int ki n) c=(sz'=sz∧epS P m N H[id]? n off q id sz d c):=rfl
theorem epR_cons {E:TypeId} {sz0:Nat} {x:AV} {xs:List AV} {n:Int} {q id sz d:Nat}:epR P m N (some (.arr E sz0 (x::xs))) n q id sz d c=(0≤n∧n<q∧rK P m N c d (.ep id sz n.toNat 0)):=rfl
theorem epR_ne {E:TypeId} {sz0:Nat} {xs:List AV} {n:Int} {q id sz d:Nat} (h:q=xs.length) (h0:0≤n) (h1:n<q):epR P m N (some (.arr E sz0 xs)) n q id sz d c=rK P m N c d (.ep id sz n.toNat 0):=by
 cases xs with
 | nil=>simp at h;omega
 | cons x xs=>rw [epR_cons];simp [h0,h1]
theorem IdxR_map {α:Type} {f:α→AV} {xs:List α} {n:Int} {d:Nat} {dflt:α} {cs:α→List AV} (hf:∀ x,cellsO (f x)=some (cs x)) (h0:0≤n) (h1:n<xs.length) :
 IdxR P m N (xs.map f) n d c=rK P m N c d (.vp (cs (xs.getD n.toNat dflt))):=by
 have hlt:n.toNat<xs.length:=by omega
 have hx:(xs.map f)[n.toNat]?=some (f (xs.getD n.toNat dflt)):=by simp [hlt]
 apply propext
 unfold IdxR
 constructor
 · rintro ⟨y,cs',_,h2,h3,h4⟩
   rw [hx] at h2;cases h2
   rw [hf] at h3;cases h3
   exact h4
 · intro h
   exact ⟨_,_,h0,hx,hf _,h⟩
def aidxR (P:Program) (m:Nat) (N:FN) (d len sz:Nat) (p:Option (List AV)) (x i:AV) (c:Kn):Prop:=match p,i with
 | some _,.int _ n=>0≤n∧n<len∧rK P m N c d (ptrAdd (n.toNat * sz) x)
 | _,_=>False
theorem Raidx {d len sz:Nat} {x i:MV}:piR P m N fr H c (.aidx d len sz x i)=aidxR P m N d len sz (ptrCells H (mv fr x)) (mv fr x) (mv fr i) c:=rfl
theorem aidxR_some {d len sz:Nat} {cs:List AV} {x:AV} {ki:IntKind} {n:Int}:aidxR P m N d len sz (some cs) x (.int ki n) c=(0≤n∧n<len∧rK P m N c d (ptrAdd (n.toNat * sz) x)):=rfl
def partR (P:Program) (m:Nat) (N:FN) (d:Nat) (o:Option AV) (c:Kn):Prop:=match o with | some x=>rK P m N c d x | none=>False
theorem partR_some {d:Nat} {x:AV}:partR P m N d (some x) c=rK P m N c d x:=rfl
def agetR (P:Program) (m:Nat) (N:FN) (d len:Nat) (agg:Bool) (size:Nat) (x i:AV) (c:Kn):Prop:=match x,i with
 | .agg xs,.int _ n=>0≤n∧n<len∧partR P m N d (partB agg size (n.toNat * size) xs) c
 | _,_=>False
theorem Raget {d len size:Nat} {agg:Bool} {x i:MV}:piR P m N fr H c (.aget d len agg size x i)=agetR P m N d len agg size (mv fr x) (mv fr i) c:=rfl
theorem agetR_agg {d len size:Nat} {agg:Bool} {xs:List AV} {ki:IntKind} {n:Int}:agetR P m N d len agg size (.agg xs) (.int ki n) c=(0≤n∧n<len∧partR P m N d (partB agg size (n.toNat * size) xs) c):=rfl
def sgetR (P:Program) (m:Nat) (N:FN) (d:Nat) (x i:AV) (c:Kn):Prop:=match x,i with
 | .str s,.int _ n=>0≤n∧∃ h:n.toNat<s.size,rK P m N c d (.int .u8 s[n.toNat].toNat)
 | _,_=>False
theorem Rsget {d:Nat} {x i:MV}:piR P m N fr H c (.sget d x i)=sgetR P m N d (mv fr x) (mv fr i) c:=rfl
def quoR (P:Program) (m:Nat) (N:FN) (d:Nat) (x y:AV) (c:Kn):Prop:=match x,y with
 | .int kx a,.int ky b=>kx=ky∧b≠0∧rK P m N c d (.int kx (kx.wrap (a.tdiv b)))
 | _,_=>False
theorem Rquo {d:Nat} {x y:MV}:piR P m N fr H c (.quo d x y)=quoR P m N d (mv fr x) (mv fr y) c:=rfl
theorem quoR_int {d:Nat} {kx ky:IntKind} {a b:Int}:quoR P m N d (.int kx a) (.int ky b) c=(kx=ky∧b≠0∧rK P m N c d (.int kx (kx.wrap (a.tdiv b)))):=rfl
def remR (P:Program) (m:Nat) (N:FN) (d:Nat) (x y:AV) (c:Kn):Prop:=match x,y with
 | .int kx a,.int ky b=>kx=ky∧b≠0∧rK P m N c d (.int kx (a.tmod b))
 | _,_=>False
theorem Rrem {d:Nat} {x y:MV}:piR P m N fr H c (.rem d x y)=remR P m N d (mv fr x) (mv fr y) c:=rfl
theorem remR_int {d:Nat} {kx ky:IntKind} {a b:Int}:remR P m N d (.int kx a) (.int ky b) c=(kx=ky∧b≠0∧rK P m N c d (.int kx (a.tmod b))):=rfl
def shlR (P:Program) (m:Nat) (N:FN) (d:Nat) (x y:AV) (c:Kn):Prop:=match x,y with
 | .int kx a,.int ky b=>0≤b∧rK P m N c d (.int kx (kx.wrap (a * 2 ^ (min b.toNat kx.bits))))
 | _,_=>False
theorem Rshl {d:Nat} {x y:MV}:piR P m N fr H c (.shl d x y)=shlR P m N d (mv fr x) (mv fr y) c:=rfl
theorem shlR_int {d:Nat} {kx ky:IntKind} {a b:Int}:shlR P m N d (.int kx a) (.int ky b) c=(0≤b∧rK P m N c d (.int kx (kx.wrap (a * 2 ^ (min b.toNat kx.bits))))):=rfl
def shrR (P:Program) (m:Nat) (N:FN) (d:Nat) (x y:AV) (c:Kn):Prop:=match x,y with
 | .int kx a,.int ky b=>0≤b∧rK P m N c d (.int kx (a.fdiv (2 ^ (min b.toNat kx.bits))))
 | _,_=>False
theorem Rshr {d:Nat} {x y:MV}:piR P m N fr H c (.shr d x y)=shrR P m N d (mv fr x) (mv fr y) c:=rfl
theorem shrR_int {d:Nat} {kx ky:IntKind} {a b:Int}:shrR P m N d (.int kx a) (.int ky b) c=(0≤b∧rK P m N c d (.int kx (a.fdiv (2 ^ (min b.toNat kx.bits))))):=rfl
def slcR (P:Program) (m:Nat) (N:FN) (o:Option AObj) (p:Prop) (d:Nat) (x:AV) (c:Kn):Prop:=match o with
 | some (.arr _ _ _)=>p∧rK P m N c d x
 | _=>False
theorem slcR_arr {E:TypeId} {sz:Nat} {xs:List AV} {p:Prop} {d:Nat} {x:AV}:slcR P m N (some (.arr E sz xs)) p d x c=(p∧rK P m N c d x):=rfl
def cutR (P:Program) (m:Nat) (N:FN) (H:List AObj) (d sz:Nat) (x lo hi:AV) (c:Kn):Prop:=match x,lo,hi with
 | .view sz' xs,.int _ l,.int _ h=>sz'=sz∧0≤l∧l≤h∧h≤xs.length∧rK P m N c d (.view sz ((xs.take h.toNat).drop l.toNat))
 | .slc id sz' q,.int _ l,.int _ h=>sz'=sz∧slcR P m N H[id]? (0≤l∧l≤h∧h≤q) d (.sub id sz l.toNat (h.toNat - l.toNat)) c
 | .sub id sz' off q,.int _ l,.int _ h=>sz'=sz∧slcR P m N H[id]? (0≤l∧l≤h∧h≤q) d (.sub id sz (off+l.toNat) (h.toNat - l.toNat)) c
 | _,_,_=>False
theorem Rcut {d sz:Nat} {x lo hi:MV}:piR P m N fr H c (.cut d sz x lo (some hi))=cutR P m N H d sz (mv fr x) (mv fr lo) (mv fr hi) c:=by
 apply propext
 simp only [piR,piP]
 unfold cutR slcR
 generalize mv fr x=u
 generalize mv fr lo=v
 generalize mv fr hi=t
 cases u <;> try exact Iff.rfl
 all_goals
  cases v <;> try exact Iff.rfl
  cases t <;> first
   | exact Iff.rfl
   | (simp only [];split <;> simp [and_assoc, *])
theorem cutR_view {d sz sz':Nat} {xs:List AV} {k1 k2:IntKind} {a b:Int}:cutR P m N H d sz (.view sz' xs) (.int k1 a) (.int k2 b) c=(sz'=sz∧0≤a∧a≤b∧b≤xs.length∧rK P m N c d (.view sz ((xs.take b.toNat).drop a.toNat))):=rfl
theorem cutR_slc {d sz sz' id q:Nat} {k1 k2:IntKind} {a b:Int}:cutR P m N H d sz (.slc id sz' q) (.int k1 a) (.int k2 b) c=(sz'=sz∧slcR P m N H[id]? (0≤a∧a≤b∧b≤q) d (.sub id sz a.toNat (b.toNat - a.toNat)) c):=rfl
theorem cutR_sub {d sz sz' id off q:Nat} {k1 k2:IntKind} {a b:Int}:cutR P m N H d sz (.sub id sz' off q) (.int k1 a) (.int k2 b) c=(sz'=sz∧slcR P m N H[id]? (0≤a∧a≤b∧b≤q) d (.sub id sz (off+a.toNat) (b.toNat - a.toNat)) c):=rfl
def cut0R (P:Program) (m:Nat) (N:FN) (H:List AObj) (d sz:Nat) (x lo:AV) (c:Kn):Prop:=match x,lo with
 | .view sz' xs,.int _ l=>sz'=sz∧0≤l∧l≤xs.length∧rK P m N c d (.view sz (xs.drop l.toNat))
 | .slc id sz' q,.int _ l=>sz'=sz∧slcR P m N H[id]? (0≤l∧l≤q) d (.sub id sz l.toNat (q - l.toNat)) c
 | .sub id sz' off q,.int _ l=>sz'=sz∧slcR P m N H[id]? (0≤l∧l≤q) d (.sub id sz (off+l.toNat) (q - l.toNat)) c
 | _,_=>False
theorem Rcut0 {d sz:Nat} {x lo:MV}:piR P m N fr H c (.cut d sz x lo none)=cut0R P m N H d sz (mv fr x) (mv fr lo) c:=by
 apply propext
 simp only [piR,piP]
 unfold cut0R slcR
 generalize mv fr x=u
 generalize mv fr lo=v
 cases u <;> try exact Iff.rfl
 all_goals
  cases v <;> first
   | exact Iff.rfl
   | (simp only [];split <;> simp [and_assoc, *])
theorem cut0R_view {d sz sz':Nat} {xs:List AV} {k1:IntKind} {a:Int}:cut0R P m N H d sz (.view sz' xs) (.int k1 a) c=(sz'=sz∧0≤a∧a≤xs.length∧rK P m N c d (.view sz (xs.drop a.toNat))):=rfl
theorem cut0R_slc {d sz sz' id q:Nat} {k1:IntKind} {a:Int}:cut0R P m N H d sz (.slc id sz' q) (.int k1 a) c=(sz'=sz∧slcR P m N H[id]? (0≤a∧a≤q) d (.sub id sz a.toNat (q - a.toNat)) c):=rfl
theorem cut0R_sub {d sz sz' id off q:Nat} {k1:IntKind} {a:Int}:cut0R P m N H d sz (.sub id sz' off q) (.int k1 a) c=(sz'=sz∧slcR P m N H[id]? (0≤a∧a≤q) d (.sub id sz (off+a.toNat) (q - a.toNat)) c):=rfl
def preR (P:Program) (m:Nat) (N:FN) (H:List AObj) (d sz:Nat) (x hi:AV) (c:Kn):Prop:=match x,hi with
 | .view sz' xs,.int _ h=>sz'=sz∧0≤h∧h≤xs.length∧rK P m N c d (.view sz (xs.take h.toNat))
 | .slc id sz' q,.int _ h=>sz'=sz∧slcR P m N H[id]? (0≤h∧h≤q) d (.sub id sz 0 h.toNat) c
 | .sub id sz' off q,.int _ h=>sz'=sz∧slcR P m N H[id]? (0≤h∧h≤q) d (.sub id sz off h.toNat) c
 | _,_=>False
theorem Rpre {d sz:Nat} {x hi:MV}:piR P m N fr H c (.pre d sz x (some hi))=preR P m N H d sz (mv fr x) (mv fr hi) c:=by
 apply propext
 simp only [piR,piP]
 unfold preR slcR
 generalize mv fr x=u
 generalize mv fr hi=v
 cases u <;> try exact Iff.rfl
 all_goals
  cases v <;> first
   | exact Iff.rfl
   | (simp only [];split <;> simp [and_assoc, *])
theorem preR_view {d sz sz':Nat} {xs:List AV} {k1:IntKind} {a:Int}:preR P m N H d sz (.view sz' xs) (.int k1 a) c=(sz'=sz∧0≤a∧a≤xs.length∧rK P m N c d (.view sz (xs.take a.toNat))):=rfl
theorem preR_slc {d sz sz' id q:Nat} {k1:IntKind} {a:Int}:preR P m N H d sz (.slc id sz' q) (.int k1 a) c=(sz'=sz∧slcR P m N H[id]? (0≤a∧a≤q) d (.sub id sz 0 a.toNat) c):=rfl
theorem preR_sub {d sz sz' id off q:Nat} {k1:IntKind} {a:Int}:preR P m N H d sz (.sub id sz' off q) (.int k1 a) c=(sz'=sz∧slcR P m N H[id]? (0≤a∧a≤q) d (.sub id sz off a.toNat) c):=rfl
def pre3R (P:Program) (m:Nat) (N:FN) (d sz:Nat) (x hi mx:AV) (c:Kn):Prop:=match x,hi,mx with
 | .view sz' xs,.int _ h,.int _ q=>sz'=sz∧0≤h∧h=q∧h≤xs.length∧rK P m N c d (.full sz (xs.take h.toNat))
 | _,_,_=>False
theorem Rpre3 {d sz:Nat} {x hi mx:MV}:piR P m N fr H c (.pre3 d sz x hi mx)=pre3R P m N d sz (mv fr x) (mv fr hi) (mv fr mx) c:=by
 unfold piR pre3R
 simp only [piP]
 rfl
theorem pre3R_view {d sz sz':Nat} {xs:List AV} {k1 k2:IntKind} {a b:Int}:pre3R P m N d sz (.view sz' xs) (.int k1 a) (.int k2 b) c=(sz'=sz∧0≤a∧a=b∧a≤xs.length∧rK P m N c d (.full sz (xs.take a.toNat))):=rfl
def pre0R (P:Program) (m:Nat) (N:FN) (H:List AObj) (d sz:Nat) (x:AV) (c:Kn):Prop:=match x with
 | .view sz' xs=>sz'=sz∧rK P m N c d (.view sz xs)
 | .slc id sz' q=>sz'=sz∧slcR P m N H[id]? True d (.slc id sz q) c
 | _=>False
theorem Rpre0 {d sz:Nat} {x:MV}:piR P m N fr H c (.pre d sz x none)=pre0R P m N H d sz (mv fr x) c:=by
 apply propext
 simp only [piR,piP]
 unfold pre0R slcR
 generalize mv fr x=u
 cases u <;> try exact Iff.rfl
 rename_i id sz' q
 simp only []
 generalize H[id]?=o
 cases o with
 | none=>exact Iff.rfl
 | some o=>cases o <;> first | exact Iff.rfl | simp
theorem pre0R_view {d sz sz':Nat} {xs:List AV}:pre0R P m N H d sz (.view sz' xs) c=(sz'=sz∧rK P m N c d (.view sz xs)):=rfl
theorem pre0R_slc {d sz sz' id q:Nat}:pre0R P m N H d sz (.slc id sz' q) c=(sz'=sz∧slcR P m N H[id]? True d (.slc id sz q) c):=rfl
def LenR (P:Program) (m:Nat) (N:FN) (n:Nat) (d:Nat) (c:Kn):Prop:=n≤maxLen→rK P m N c d (.int .i64 n)
theorem LenR_ok {n d:Nat} (h:n≤maxLen):LenR P m N n d c=rK P m N c d (.int .i64 n):=by simp [LenR,h]
def lenR (P:Program) (m:Nat) (N:FN) (H:List AObj) (d:Nat) (x:AV) (c:Kn):Prop:=match x with
 | .view _ xs=>LenR P m N xs.length d c
 | .raw (.slice none 0 0)=>rK P m N c d (.int .i64 0)
 | .slc id _ q=>(match H[id]? with | some (.arr _ _ _)=>LenR P m N q d c | _=>False)
 | .sub id _ _ q=>(match H[id]? with | some (.arr _ _ _)=>LenR P m N q d c | _=>False)
 | _=>False
theorem Rlen {d:Nat} {x:MV}:piR P m N fr H c (.len d x)=lenR P m N H d (mv fr x) c:=rfl
theorem lenR_view {d sz:Nat} {xs:List AV}:lenR P m N H d (.view sz xs) c=LenR P m N xs.length d c:=rfl
theorem lenR_nil {d:Nat}:lenR P m N H d (.raw (.slice none 0 0)) c=rK P m N c d (.int .i64 0):=rfl
def lenO (P:Program) (m:Nat) (N:FN) (o:Option AObj) (q d:Nat) (c:Kn):Prop:=match o with | some (.arr _ _ _)=>LenR P m N q d c | _=>False
theorem lenR_slc {d id sz q:Nat}:lenR P m N H d (.slc id sz q) c=lenO P m N H[id]? q d c:=rfl
theorem lenR_sub {d id sz off q:Nat}:lenR P m N H d (.sub id sz off q) c=lenO P m N H[id]? q d c:=rfl
theorem lenO_arr {E:TypeId} {sz q d:Nat} {xs:List AV}:lenO P m N (some (.arr E sz xs)) q d c=LenR P m N q d c:=rfl
def slenR (P:Program) (m:Nat) (N:FN) (d:Nat) (x:AV) (c:Kn):Prop:=match x with | .str s=>rK P m N c d (.int .i64 s.size) | _=>False
theorem Rslen {d:Nat} {x:MV}:piR P m N fr H c (.slen d x)=slenR P m N d (mv fr x) c:=rfl
theorem slenR_str {d:Nat} {s:ByteArray}:slenR P m N d (.str s) c=rK P m N c d (.int .i64 s.size):=rfl
def mlenO (P:Program) (m:Nat) (N:FN) (o:Option AObj) (d:Nat) (c:Kn):Prop:=match o with | some (.map ks _ _ _)=>rK P m N c d (.int .i64 ks.length) | _=>False
def mlenR (P:Program) (m:Nat) (N:FN) (H:List AObj) (d:Nat) (x:AV) (c:Kn):Prop:=match x with
 | .mview ks vs=>rK P m N c d (.int .i64 ks.length)
 | .mp id=>mlenO P m N H[id]? d c
 | _=>False
theorem Rmlen {d:Nat} {x:MV}:piR P m N fr H c (.mlen d x)=mlenR P m N H d (mv fr x) c:=rfl
theorem mlenR_view {d:Nat} {ks vs:List AV}:mlenR P m N H d (.mview ks vs) c=rK P m N c d (.int .i64 ks.length):=rfl
theorem mlenR_mp {d id:Nat}:mlenR P m N H d (.mp id) c=mlenO P m N H[id]? d c:=rfl
theorem mlenO_map {d:Nat} {ks vs:List AV} {bs:List Nat} {cl:Nat}:mlenO P m N (some (.map ks vs bs cl)) d c=rK P m N c d (.int .i64 ks.length):=rfl
def lookR (P:Program) (m:Nat) (N:FN) (H:List AObj) (d:Nat) (ok:Bool) (kd:D) (z mm x:AV) (c:Kn):Prop:=match mm with
 | .mp id=>(match H[id]? with | some (.map ks vs _ _)=>partR P m N d ((look kd z ks vs x).map (lookA ok)) c | _=>False)
 | .mview ks vs=>partR P m N d ((look kd z ks vs x).map (lookA ok)) c
 | .raw (.map none)=>partR P m N d ((look kd z [] [] x).map (lookA ok)) c
 | _=>False
theorem Rlook {d:Nat} {ok:Bool} {kd:D} {z:AV} {mm x:MV}:piR P m N fr H c (.look d ok kd z mm x)=lookR P m N H d ok kd z (mv fr mm) (mv fr x) c:=rfl
def lookO (P:Program) (m:Nat) (N:FN) (o:Option AObj) (d:Nat) (ok:Bool) (kd:D) (z x:AV) (c:Kn):Prop:=match o with
 | some (.map ks vs _ _)=>partR P m N d ((look kd z ks vs x).map (lookA ok)) c
 | _=>False
theorem lookR_mp {d id:Nat} {ok:Bool} {kd:D} {z x:AV}:lookR P m N H d ok kd z (.mp id) x c=lookO P m N H[id]? d ok kd z x c:=rfl
theorem lookO_map {d:Nat} {ok:Bool} {kd:D} {z x:AV} {ks vs:List AV} {bs:List Nat} {cl:Nat}:lookO P m N (some (.map ks vs bs cl)) d ok kd z x c=partR P m N d ((look kd z ks vs x).map (lookA ok)) c:=rfl
theorem lookR_view {d:Nat} {ok:Bool} {kd:D} {z x:AV} {ks vs:List AV}:lookR P m N H d ok kd z (.mview ks vs) x c=partR P m N d ((look kd z ks vs x).map (lookA ok)) c:=rfl
theorem lookR_nil {d:Nat} {ok:Bool} {kd:D} {z x:AV}:lookR P m N H d ok kd z (.raw (.map none)) x c=partR P m N d ((look kd z [] [] x).map (lookA ok)) c:=rfl
def entR (P:Program) (m:Nat) (N:FN) (d:Nat) (seen:List Nat) (last:Nat) (o:Option AObj) (c:Kn):Prop:=match o with
 | some (.map ks vs bs cl)=>cl=last∧∃ (i b:Nat) (kx vx:AV),seen.getLast?=some b∧bs[i]?=some b∧ks[i]?=some kx∧vs[i]?=some vx∧rK P m N c d (.tup [kx,vx])
 | _=>False
def entR0 (P:Program) (m:Nat) (N:FN) (H:List AObj) (d:Nat) (o:Option AObj) (c:Kn):Prop:=match o with
 | some (.mit (some mid) since seen last)=>entR P m N d seen last H[mid]? c
 | _=>False
def entR1 (P:Program) (m:Nat) (N:FN) (H:List AObj) (d:Nat) (it:AV) (c:Kn):Prop:=match it with
 | .itr id=>entR0 P m N H d H[id]? c
 | _=>False
theorem Rent {d:Nat} {it:MV}:piR P m N fr H c (.ent d it)=entR1 P m N H d (mv fr it) c:=by
 unfold piR entR1 entR0 entR
 simp only [piP]
 rfl
theorem entR1_itr {d id:Nat}:entR1 P m N H d (.itr id) c=entR0 P m N H d H[id]? c:=rfl
theorem entR0_mit {d mid since last:Nat} {seen:List Nat}:entR0 P m N H d (some (.mit (some mid) since seen last)) c=entR P m N d seen last H[mid]? c:=rfl
def eiR (P:Program) (m:Nat) (N:FN) (fr:List (Nat × AV)) (H:List AObj) (q:Ke) (i:EI):Prop:=eiW P fr H (fun fr H=>rE P m N q fr H) i
theorem Re {i:EI}:R P m N (.o ((none,.e i)::l)::k) Q .normal fr H=eiR P m N fr H (.o l k Q) i:=rfl
theorem Ralloc {d:Nat} {z:List AV}:eiR P m N fr H q (.alloc d z)=rE P m N q ((d,.op H.length 0)::fr) (H++[.box z]):=rfl
def boxR (P:Program) (m:Nat) (N:FN) (d:Nat) (cs:Option (List AV)) (fr:List (Nat × AV)) (H:List AObj) (q:Ke):Prop:=match cs with | some cs=>rE P m N q ((d,.op H.length 0)::fr) (H++[.box cs]) | none=>False
theorem Rbox {d:Nat} {x:MV}:eiR P m N fr H q (.box d x)=boxR P m N d (cellsO (mv fr x)) fr H q:=rfl
theorem boxR_some {d:Nat} {cs:List AV}:boxR P m N d (some cs) fr H q=rE P m N q ((d,.op H.length 0)::fr) (H++[.box cs]):=rfl
def stO (P:Program) (m:Nat) (N:FN) (o:Option AObj) (size:Nat) (cs:List AV) (id off:Nat) (fr:List (Nat × AV)) (H:List AObj) (q:Ke):Prop:=match o with
 | some (.box bs)=>cs.length=size∧off+size≤bs.length∧rE P m N q fr (H.set id (.box (setAt bs off cs)))
 | _=>False
def stE (P:Program) (m:Nat) (N:FN) (o:Option AObj) (size:Nat) (cs:List AV) (x:AV) (id sz n off:Nat) (fr:List (Nat × AV)) (H:List AObj) (q:Ke):Prop:=match o with
 | some (.arr E' sz' xs)=>match xs[n]? with
   | some (.agg bs)=>sz=sz'∧cs.length=size∧off+size≤bs.length∧rE P m N q fr (H.set id (.arr E' sz' (xs.set n (.agg (setAt bs off cs)))))
   | some _=>sz=sz'∧cs.length=size∧size=1∧off=0∧sz=1∧rE P m N q fr (H.set id (.arr E' sz' (xs.set n x)))
   | none=>False
 | _=>False
def storeR (P:Program) (m:Nat) (N:FN) (size:Nat) (cs:Option (List AV)) (x p:AV) (fr:List (Nat × AV)) (H:List AObj) (q:Ke):Prop:=match cs,p with
 | some cs,.op id off=>stO P m N H[id]? size cs id off fr H q
 | some cs,.ep id sz n off=>stE P m N H[id]? size cs x id sz n off fr H q
 | _,_=>False
theorem Rstore {size:Nat} {agg:Bool} {p x:MV}:eiR P m N fr H q (.store size agg p x)=storeR P m N size (cellsO (mv fr x)) (mv fr x) (mv fr p) fr H q:=rfl
theorem storeR_op {size id off:Nat} {cs:List AV} {x:AV}:storeR P m N size (some cs) x (.op id off) fr H q=stO P m N H[id]? size cs id off fr H q:=rfl
theorem storeR_ep {size id sz n off:Nat} {cs:List AV} {x:AV}:storeR P m N size (some cs) x (.ep id sz n off) fr H q=stE P m N H[id]? size cs x id sz n off fr H q:=rfl
theorem stO_box {size id off:Nat} {cs bs:List AV}:stO P m N (some (.box bs)) size cs id off fr H q=(cs.length=size∧off+size≤bs.length∧rE P m N q fr (H.set id (.box (setAt bs off cs)))):=rfl
theorem stE_flat {α:Type} {f:α→AV} {xs:List α} {size id sz sz' n off:Nat} {E':TypeId} {cs:List AV} {x:AV} (hf:∀ x,match f x with | .agg _=>False | _=>True) (hn:n<xs.length) :
 stE P m N (some (.arr E' sz' (xs.map f))) size cs x id sz n off fr H q=(sz=sz'∧cs.length=size∧size=1∧off=0∧sz=1∧rE P m N q fr (H.set id (.arr E' sz' ((xs.map f).set n x)))):=by
 unfold stE
 have hx:(xs.map f)[n]?=some (f xs[n]):=by simp [hn]
 simp only [hx]
 have:=hf xs[n]
 generalize f xs[n]=y at this
 cases y <;> first | exact this.elim | rfl
theorem Rmkmap {d:Nat}:eiR P m N fr H q (.mkmap d)=rE P m N q ((d,.mp H.length)::fr) (H++[.map [] [] [] 0]):=rfl
def mkR (P:Program) (m:Nat) (N:FN) (d e sz bytes:Nat) (z l c:AV) (fr:List (Nat × AV)) (H:List AObj) (q:Ke):Prop:=match l,c with
 | .int .i64 n,.int .i64 k=>0<sz∧0≤n∧n≤k∧k≤9223372036854775807∧bytes * k≤281474976710656∧rE P m N q ((d,.slc H.length sz n.toNat)::fr) (H++[.arr e sz (List.replicate n.toNat z)])
 | _,_=>False
theorem Rmk {d e sz bytes:Nat} {z:AV} {l c:MV}:eiR P m N fr H q (.mk d e sz bytes z l c)=mkR P m N d e sz bytes z (mv fr l) (mv fr c) fr H q:=by
 unfold eiR mkR
 simp only [eiW]
 rfl
theorem mkR_int {d e sz bytes:Nat} {z:AV} {n k:Int}:mkR P m N d e sz bytes z (.int .i64 n) (.int .i64 k) fr H q=(0<sz∧0≤n∧n≤k∧k≤9223372036854775807∧bytes * k≤281474976710656∧rE P m N q ((d,.slc H.length sz n.toNat)::fr) (H++[.arr e sz (List.replicate n.toNat z)])):=rfl
def apO (P:Program) (m:Nat) (N:FN) (o:Option AObj) (d e sz bytes id sz' n:Nat) (ys:List AV) (fr:List (Nat × AV)) (H:List AObj) (q:Ke):Prop:=match o with
 | some (.arr E' sz'' xs)=>E'=e∧sz''=sz∧sz'=sz∧n=xs.length∧0<sz∧xs.length+ys.length≤maxLen∧(xs.length+ys.length) * bytes≤140737488355328 ∧
    rE P m N q ((d,.slc H.length sz (xs.length+ys.length))::fr) (H.set id .dead++[.arr e sz (xs++ys)])
 | _=>False
def apD (P:Program) (m:Nat) (N:FN) (d e sz id n:Nat) (xs ys:List AV) (fr:List (Nat × AV)) (H:List AObj) (q:Ke):Prop :=
 rE P m N q ((d,.slc H.length sz (n+ys.length))::fr) (H.set id .dead++[.arr e sz (xs.take n++ys)])∨(n+ys.length≤xs.length∧rE P m N q ((d,.sub id sz 0 (n+ys.length))::fr) (H.set id (.arr e sz (setAt xs n ys))))
def apS (P:Program) (m:Nat) (N:FN) (o:Option AObj) (d e sz bytes id sz' off n:Nat) (ys:List AV) (fr:List (Nat × AV)) (H:List AObj) (q:Ke):Prop:=match o with
 | some (.arr E' sz'' xs)=>E'=e∧sz''=sz∧sz'=sz∧off=0∧n≤xs.length∧0<sz∧n+ys.length≤maxLen∧(n+ys.length) * bytes≤140737488355328∧apD P m N d e sz id n xs ys fr H q
 | _=>False
theorem apS_arr {E' sz'':Nat} {xs:List AV} {d e sz bytes id sz' off n:Nat} {ys:List AV}:apS P m N (some (.arr E' sz'' xs)) d e sz bytes id sz' off n ys fr H q=(E'=e∧sz''=sz∧sz'=sz∧off=0∧n≤xs.length∧0<sz∧n+ys.length≤maxLen∧(n+ys.length) * bytes≤140737488355328∧apD P m N d e sz id n xs ys fr H q):=rfl
def appR (P:Program) (m:Nat) (N:FN) (d e sz bytes:Nat) (x:AV) (ys:Option (List AV)) (fr:List (Nat × AV)) (H:List AObj) (q:Ke):Prop:=match x,ys with
 | .slc id sz' n,some ys=>apO P m N H[id]? d e sz bytes id sz' n ys fr H q
 | .sub id sz' off n,some ys=>apS P m N H[id]? d e sz bytes id sz' off n ys fr H q
 | .raw v,some ys=>isNilSlice v=true∧0<sz∧ys.length≤maxLen∧ys.length * bytes≤140737488355328∧rE P m N q ((d,.slc H.length sz ys.length)::fr) (H++[.arr e sz ys])
 | .full sz' xs,some ys=>sz'=sz∧scL 0 ys=true∧0<sz∧xs.length+ys.length≤maxLen∧(xs.length+ys.length) * bytes≤140737488355328∧rE P m N q ((d,.view sz (xs++ys))::fr) H
 | _,_=>False
theorem Rapp {d e sz bytes:Nat} {x y:MV}:eiR P m N fr H q (.app d e sz bytes x y)=appR P m N d e sz bytes (mv fr x) (srcOf H sz (mv fr y)) fr H q:=by
 unfold eiR appR apO apS
 simp only [eiW]
 rfl
theorem appR_sub {d e sz bytes id sz' off n:Nat} {ys:List AV}:appR P m N d e sz bytes (.sub id sz' off n) (some ys) fr H q=apS P m N H[id]? d e sz bytes id sz' off n ys fr H q:=rfl
theorem appR_full {d e sz bytes sz':Nat} {xs ys:List AV}:appR P m N d e sz bytes (.full sz' xs) (some ys) fr H q=(sz'=sz∧scL 0 ys=true∧0<sz∧xs.length+ys.length≤maxLen∧(xs.length+ys.length) * bytes≤140737488355328∧rE P m N q ((d,.view sz (xs++ys))::fr) H):=rfl
theorem appR_slc {d e sz bytes id sz' n:Nat} {ys:List AV}:appR P m N d e sz bytes (.slc id sz' n) (some ys) fr H q=apO P m N H[id]? d e sz bytes id sz' n ys fr H q:=rfl
theorem appR_nil {d e sz bytes:Nat} {v:Value} {ys:List AV}:appR P m N d e sz bytes (.raw v) (some ys) fr H q=(isNilSlice v=true∧0<sz∧ys.length≤maxLen∧ys.length * bytes≤140737488355328∧rE P m N q ((d,.slc H.length sz ys.length)::fr) (H++[.arr e sz ys])):=rfl
theorem apO_arr {E' sz'':Nat} {xs:List AV} {d e sz bytes id sz' n:Nat} {ys:List AV}:apO P m N (some (.arr E' sz'' xs)) d e sz bytes id sz' n ys fr H q=(E'=e∧sz''=sz∧sz'=sz∧n=xs.length∧0<sz∧xs.length+ys.length≤maxLen∧(xs.length+ys.length) * bytes≤140737488355328 ∧
 rE P m N q ((d,.slc H.length sz (xs.length+ys.length))::fr) (H.set id .dead++[.arr e sz (xs++ys)])):=rfl
theorem ap_own {d e sz id n:Nat} {xs ys:List AV} (h:rE P m N q ((d,.slc H.length sz (n+ys.length))::fr) (H.set id .dead++[.arr e sz (xs.take n++ys)])):apD P m N d e sz id n xs ys fr H q:=.inl h
theorem ap_in {d e sz id n:Nat} {xs ys:List AV} (hf:n+ys.length≤xs.length) (h:rE P m N q ((d,.sub id sz 0 (n+ys.length))::fr) (H.set id (.arr e sz (setAt xs n ys)))):apD P m N d e sz id n xs ys fr H q:=.inr ⟨hf,h⟩
def mklD (P:Program) (m:Nat) (N:FN) (d e sz n:Nat) (xs:List AV) (fr:List (Nat × AV)) (H:List AObj) (q:Ke):Prop :=
 rE P m N q ((d,.slc H.length sz n)::fr) (H++[.arr e sz xs])∨(n≠0∧scL 0 xs=true∧rE P m N q ((d,.view sz xs)::fr) H)
theorem mkl_own {d e sz n:Nat} {xs:List AV} (h:rE P m N q ((d,.slc H.length sz n)::fr) (H++[.arr e sz xs])):mklD P m N d e sz n xs fr H q:=.inl h
theorem mkl_view {d e sz n:Nat} {xs:List AV} (hn:n≠0) (hs:scL 0 xs=true) (h:rE P m N q ((d,.view sz xs)::fr) H):mklD P m N d e sz n xs fr H q:=.inr ⟨hn,hs,h⟩
def mklR (P:Program) (m:Nat) (N:FN) (d e sz n:Nat) (xs:Option (List AV)) (fr:List (Nat × AV)) (H:List AObj) (q:Ke):Prop:=match xs with
 | some xs=>0<sz∧n * sz≤16777216∧mklD P m N d e sz n xs fr H q
 | none=>False
theorem Rmkl {d e sz n:Nat} {z:AV} {parts:List (Nat × MV)}:eiR P m N fr H q (.mkl d e sz n z parts)=mklR P m N d e sz n (fillE sz (List.replicate n z) (parts.map fun p=>(p.1,mv fr p.2))) fr H q:=by
 unfold eiR mklR
 simp only [eiW]
 rfl
theorem mklR_some {d e sz n:Nat} {xs:List AV}:mklR P m N d e sz n (some xs) fr H q=(0<sz∧n * sz≤16777216∧mklD P m N d e sz n xs fr H q):=rfl
def putR (P:Program) (m:Nat) (N:FN) (id:Nat) (o:Option AObj) (fr:List (Nat × AV)) (H:List AObj) (q:Ke):Prop:=match o with | some o=>rE P m N q fr (H.set id o) | none=>False
theorem putR_some {id:Nat} {o:AObj}:putR P m N id (some o) fr H q=rE P m N q fr (H.set id o):=rfl
def mputO (P:Program) (m:Nat) (N:FN) (id:Nat) (o:Option AObj) (kd:D) (x v:AV) (fr:List (Nat × AV)) (H:List AObj) (q:Ke):Prop:=match o with
 | some (.map ks vs bs c)=>putR P m N id (putK kd ks vs bs c x v) fr H q
 | _=>False
def mputR (P:Program) (m:Nat) (N:FN) (kd:D) (mm x v:AV) (fr:List (Nat × AV)) (H:List AObj) (q:Ke):Prop:=match mm with
 | .mp id=>mputO P m N id H[id]? kd x v fr H q
 | _=>False
theorem Rmput {kd:D} {mm x v:MV}:eiR P m N fr H q (.mput kd mm x v)=mputR P m N kd (mv fr mm) (mv fr x) (mv fr v) fr H q:=by
 unfold eiR mputR mputO putR
 simp only [eiW]
 rfl
theorem mputR_mp {kd:D} {id:Nat} {x v:AV}:mputR P m N kd (.mp id) x v fr H q=mputO P m N id H[id]? kd x v fr H q:=rfl
theorem mputO_map {kd:D} {id:Nat} {x v:AV} {ks vs:List AV} {bs:List Nat} {c:Nat}:mputO P m N id (some (.map ks vs bs c)) kd x v fr H q=putR P m N id (putK kd ks vs bs c x v) fr H q:=rfl
def mdelO (P:Program) (m:Nat) (N:FN) (d:Option Nat) (id:Nat) (o:Option AObj) (kd:D) (x:AV) (fr:List (Nat × AV)) (H:List AObj) (q:Ke):Prop:=match o with
 | some (.map ks vs bs c)=>putR P m N id (delK kd ks vs bs c x) (putO fr d (.tup [])) H q
 | _=>False
def mdelR (P:Program) (m:Nat) (N:FN) (d:Option Nat) (kd:D) (mm x:AV) (fr:List (Nat × AV)) (H:List AObj) (q:Ke):Prop:=match mm with
 | .mp id=>mdelO P m N d id H[id]? kd x fr H q
 | _=>False
theorem Rmdel {d:Option Nat} {kd:D} {mm x:MV}:eiR P m N fr H q (.mdel d kd mm x)=mdelR P m N d kd (mv fr mm) (mv fr x) fr H q:=by
 unfold eiR mdelR mdelO putR
 simp only [eiW]
 rfl
theorem mdelR_mp {d:Option Nat} {kd:D} {id:Nat} {x:AV}:mdelR P m N d kd (.mp id) x fr H q=mdelO P m N d id H[id]? kd x fr H q:=rfl
theorem mdelO_map {d:Option Nat} {kd:D} {id:Nat} {x:AV} {ks vs:List AV} {bs:List Nat} {c:Nat}:mdelO P m N d id (some (.map ks vs bs c)) kd x fr H q=putR P m N id (delK kd ks vs bs c x) (putO fr d (.tup [])) H q:=rfl
def clrO (P:Program) (m:Nat) (N:FN) (d:Option Nat) (sz id sz' off n:Nat) (z:AV) (o:Option AObj) (fr:List (Nat × AV)) (H:List AObj) (q:Ke):Prop:=match o with
 | some (.arr E' sz'' xs)=>sz'=sz∧sz''=sz∧off+n≤xs.length∧rE P m N q (putO fr d (.tup [])) (H.set id (.arr E' sz (setAt xs off (List.replicate n z))))
 | _=>False
def clrR (P:Program) (m:Nat) (N:FN) (d:Option Nat) (sz:Nat) (z x:AV) (fr:List (Nat × AV)) (H:List AObj) (q:Ke):Prop:=match x with
 | .slc id sz' n=>clrO P m N d sz id sz' 0 n z H[id]? fr H q
 | .sub id sz' off n=>clrO P m N d sz id sz' off n z H[id]? fr H q
 | _=>False
theorem Rclr {d:Option Nat} {sz:Nat} {z:AV} {x:MV}:eiR P m N fr H q (.clr d sz z x)=clrR P m N d sz z (mv fr x) fr H q:=by
 unfold eiR clrR clrO
 simp only [eiW,Nat.zero_add]
 rfl
theorem clrR_slc {d:Option Nat} {sz id sz' n:Nat} {z:AV}:clrR P m N d sz z (.slc id sz' n) fr H q=clrO P m N d sz id sz' 0 n z H[id]? fr H q:=rfl
theorem clrR_sub {d:Option Nat} {sz id sz' off n:Nat} {z:AV}:clrR P m N d sz z (.sub id sz' off n) fr H q=clrO P m N d sz id sz' off n z H[id]? fr H q:=rfl
theorem clrO_arr {d:Option Nat} {sz id sz' off n E' sz'':Nat} {z:AV} {xs:List AV}:clrO P m N d sz id sz' off n z (some (.arr E' sz'' xs)) fr H q=(sz'=sz∧sz''=sz∧off+n≤xs.length∧rE P m N q (putO fr d (.tup [])) (H.set id (.arr E' sz (setAt xs off (List.replicate n z))))):=rfl
def rngO (P:Program) (m:Nat) (N:FN) (d id:Nat) (o:Option AObj) (fr:List (Nat × AV)) (H:List AObj) (q:Ke):Prop:=match o with
 | some (.map _ _ _ c)=>rE P m N q ((d,.itr H.length)::fr) (H++[.mit (some id) c [] c])
 | _=>False
def rngR (P:Program) (m:Nat) (N:FN) (d:Nat) (mm:AV) (fr:List (Nat × AV)) (H:List AObj) (q:Ke):Prop:=match mm with
 | .mp id=>rngO P m N d id H[id]? fr H q
 | .raw (.map none)=>rE P m N q ((d,.itr H.length)::fr) (H++[.mit none 0 [] 0])
 | _=>False
theorem Rrng {d:Nat} {mm:MV}:eiR P m N fr H q (.rng d mm)=rngR P m N d (mv fr mm) fr H q:=by
 unfold eiR rngR rngO
 simp only [eiW]
 rfl
theorem rngR_mp {d id:Nat}:rngR P m N d (.mp id) fr H q=rngO P m N d id H[id]? fr H q:=rfl
theorem rngO_map {d id:Nat} {ks vs:List AV} {bs:List Nat} {c:Nat}:rngO P m N d id (some (.map ks vs bs c)) fr H q=rE P m N q ((d,.itr H.length)::fr) (H++[.mit (some id) c [] c]):=rfl
theorem rngR_nil {d:Nat}:rngR P m N d (.raw (.map none)) fr H q=rE P m N q ((d,.itr H.length)::fr) (H++[.mit none 0 [] 0]):=rfl
def nxtR (P:Program) (m:Nat) (N:FN) (d id mid since:Nat) (seen:List Nat) (last:Nat) (o:Option AObj) (fr:List (Nat × AV)) (H:List AObj) (q:Ke):Prop:=match o with
 | some (.map ks vs bs c)=>(∀ b ∈ bs,b<since)∧since≤last∧((∀ b ∈ bs,b ∈ seen)→rE P m N q ((d,.tup [.bool false])::fr) H) ∧
          ∀ (i b:Nat) (kx vx:AV),bs[i]?=some b→b ∉ seen→ks[i]?=some kx→vs[i]?=some vx→rE P m N q ((d,.tup [.bool true,kx,vx])::fr) (H.set id (.mit (some mid) since (seen++[b]) c))
 | _=>False
def nxtR0 (P:Program) (m:Nat) (N:FN) (d id:Nat) (o:Option AObj) (fr:List (Nat × AV)) (H:List AObj) (q:Ke):Prop:=match o with
 | some (.mit none _ _ _)=>rE P m N q ((d,.tup [.bool false])::fr) H
 | some (.mit (some mid) since seen last)=>nxtR P m N d id mid since seen last H[mid]? fr H q
 | _=>False
def nxtR1 (P:Program) (m:Nat) (N:FN) (d:Nat) (it:AV) (fr:List (Nat × AV)) (H:List AObj) (q:Ke):Prop:=match it with
 | .itr id=>nxtR0 P m N d id H[id]? fr H q
 | _=>False
theorem Rnxt {d:Nat} {it:MV}:eiR P m N fr H q (.nxt d it)=nxtR1 P m N d (mv fr it) fr H q:=by
 unfold eiR nxtR1 nxtR0 nxtR
 simp only [eiW]
 rfl
theorem nxtR1_itr {d id:Nat}:nxtR1 P m N d (.itr id) fr H q=nxtR0 P m N d id H[id]? fr H q:=rfl
theorem nxtR0_none {d id a b:Nat} {l:List Nat}:nxtR0 P m N d id (some (.mit none a l b)) fr H q=rE P m N q ((d,.tup [.bool false])::fr) H:=rfl
theorem nxtR0_some {d id mid since last:Nat} {seen:List Nat}:nxtR0 P m N d id (some (.mit (some mid) since seen last)) fr H q=nxtR P m N d id mid since seen last H[mid]? fr H q:=rfl
def callR (P:Program) (m:Nat) (N:FN) (d:Option Nat) (f:FuncId) (args:List AV) (fr:List (Nat × AV)) (H:List AObj) (q:Ke):Prop:=ACalls P f args H fun r H'=>rE P m N q (putO fr d r) H'
theorem Rcall {d:Option Nat} {f:FuncId} {args:List MV}:eiR P m N fr H q (.call d f args)=callR P m N d f (args.map (mv fr)) fr H q:=rfl
def yldR (P:Program) (m:Nat) (N:FN) (d:Option Nat) (id:Nat) (args:List AV) (fr:List (Nat × AV)) (H:List AObj) (q:Ke):Prop:=AYield P id args H fun r H'=>rE P m N q (putO fr d r) H'
theorem yld_i {d:Option Nat} {id:Nat} {args:List AV} {Q':AV→List AObj→Prop} (h:AYield P id args H Q') (hq:∀ r H',Q' r H'→rE P m N q (putO fr d r) H'):yldR P m N d id args fr H q:=h.mono hq
def callvR (P:Program) (m:Nat) (N:FN) (d:Option Nat) (f:AV) (args:List AV) (fr:List (Nat × AV)) (H:List AObj) (q:Ke):Prop:=match f with
 | .fn (.func g) first caps=>callR P m N d g (first++args++caps) fr H q
 | .yld id=>yldR P m N d id args fr H q
 | _=>False
theorem Rcallv {d:Option Nat} {f:MV} {args:List MV}:eiR P m N fr H q (.callv d f args)=callvR P m N d (mv fr f) (args.map (mv fr)) fr H q:=by
 unfold eiR callvR
 simp only [eiW]
 rfl
theorem callvR_yld {d:Option Nat} {id:Nat} {args:List AV}:callvR P m N d (.yld id) args fr H q=yldR P m N d id args fr H q:=rfl
theorem callvR_fn {d:Option Nat} {g:FuncId} {first caps args:List AV}:callvR P m N d (.fn (.func g) first caps) args fr H q=callR P m N d g (first++args++caps) fr H q:=rfl
theorem call_i {d:Option Nat} {f:FuncId} {args args':List AV} {H':List AObj} (ids:List Nat) (bor:Bool) {Q':AV→List AObj→Prop} (hc:ACalls P f args' H' Q') (hlt:ids.all (· < H.length)=true) (hnd:ids.Nodup)
 (ha:args.map (pa H ids bor 8)=args') (hH:pH H ids bor 8=H')
 (hq:∀ r H'',Q' r H''→(bor=true→nov r=true∧H''.all novO=true)∧rE P m N q (putO fr d (ren (rho ids H.length) r)) (merge (fun o=>o) H ids (H''.map (renO (rho ids H.length))))):callR P m N d f args fr H q:=by
 subst ha hH
 exact ACalls.pass ids bor 8 (by simpa using hlt) hnd hc hq
def AnyR (P:Program) (m:Nat) (N:FN) (t:AT) (k:List It) (Q:Exit→AS→Prop) (fr:List (Nat × AV)) (H:List AObj):Prop:=R P m N (.c (.any true t)::k) Q .normal fr H
theorem Rany:R P m N (.c (.any true t)::k) Q .normal fr H=AnyR P m N t k Q fr H:=rfl
def Any0R (P:Program) (m:Nat) (N:FN) (t:AT) (k:List It) (Q:Exit→AS→Prop) (fr:List (Nat × AV)) (H:List AObj):Prop:=R P m N (.c (.any false t)::k) Q .normal fr H
theorem Rany0:R P m N (.c (.any false t)::k) Q .normal fr H=Any0R P m N t k Q fr H:=rfl
theorem any0_i (L:List Nat) (h:AR P m N L H t k Q fr fr H):Any0R P m N t k Q fr H:=⟨L,h⟩
theorem any00_i (h:AR P m N [] H t k Q fr fr H):Any0R P m N t k Q fr H:=⟨[],h⟩
theorem any_i (L:List Nat) (h:AR P m N L H t (.f::k) Q fr fr H):AnyR P m N t k Q fr H:=⟨L,h⟩
def FrzR (P:Program) (m:Nat) (N:FN) (k:List It) (Q:Exit→AS→Prop) (fr:List (Nat × AV)) (H:List AObj):Prop:=R P m N (.f::k) Q .normal fr H
theorem Rfrz:R P m N (.f::k) Q .normal fr H=FrzR P m N k Q fr H:=rfl
theorem frz0_i (h:R P m N k Q .normal fr H):FrzR P m N k Q fr H:=⟨⟨fr,H⟩,fun γ σ w a hr=>⟨γ,σ,.refl _ _ _,hr⟩,h⟩
theorem Adone:AR P m N L H0 .done k Q fr0 fr H=R P m N k Q .normal fr H:=rfl
def BasR (P:Program) (m:Nat) (N:FN) (L:List Nat) (H0:List AObj) (t:AT) (k:List It) (Q:Exit→AS→Prop) (fr:List (Nat × AV)) (H:List AObj):Prop:=∃ L':List Nat,(∀ id ∈ L',id ∈ L∨H0.length≤id)∧AR P m N L' H t k Q fr fr H
theorem Abase:AR P m N L H0 (.base t) k Q fr0 fr H=BasR P m N L H0 t k Q fr H:=rfl
theorem base0_i (h:AR P m N [] H t k Q fr fr H):BasR P m N L H0 t k Q fr H:=⟨[],by simp,h⟩
theorem base_i (L':List Nat) (hL:L'.all (fun id=>L.contains id || decide (H0.length≤id))=true) (h:AR P m N L' H t k Q fr fr H):BasR P m N L H0 t k Q fr H:=⟨L',fun id hid=>by
 have:=List.all_eq_true.1 hL id hid
 simpa using this,h⟩
theorem Astop:AR P m N L H0 .stop k Q fr0 fr H=True:=rfl
theorem A0v {i:VI}:AR P m N L H0 (.pure0 none (.v i) t) k Q fr0 fr H=valR P m N (viV fr0 (if readsV i then hide L H0 else H0) i) (.a0 L H0 t k Q fr0 fr H):=by
 simp only [AR,anyW,guardW,pureW,valR];rfl
theorem A0p {i:PI}:AR P m N L H0 (.pure0 none (.p i) t) k Q fr0 fr H=((readsP i=true→L=[])∧piR P m N fr0 H0 (.a0 L H0 t k Q fr0 fr H) i):=by
 simp only [AR,anyW,guardW,pureW,piR]
 rfl
theorem A1v {i:VI}:AR P m N L H0 (.pure1 none (.v i) t) k Q fr0 fr H=(readsV i=false∧valR P m N (viV fr H i) (.a1 L H0 t k Q fr0 fr H)):=by
 simp only [AR,anyW,guardW,pureW,valR,readsI]
 refine propext (and_congr_right fun hr=>?_)
 simp only [hr];exact Iff.rfl
theorem A1p {i:PI}:AR P m N L H0 (.pure1 none (.p i) t) k Q fr0 fr H=(readsP i=false∧piR P m N fr H (.a1 L H0 t k Q fr0 fr H) i):=by
 simp only [AR,anyW,guardW,pureW,piR,readsI]
 refine propext (and_congr_right fun hr=>?_)
 simp only [hr]
 exact ⟨fun h=>h.2,fun h=>⟨fun h=>(by cases h),h⟩⟩
def altR (P:Program) (m:Nat) (N:FN) (i:MI) (t:AT) (L:List Nat) (H0:List AObj) (k:List It) (Q:Exit→AS→Prop) (fr0 fr:List (Nat × AV)) (H:List AObj):Prop :=
 altW P H0.length L fr H (fun fr' H'=>AR P m N L H0 t k Q (putO fr0 (dstOfI i) .junk) fr' H') i
theorem Aalt {i:MI} {rest:AT}:AR P m N L H0 (.alt none i t rest) k Q fr0 fr H=(altR P m N i t L H0 k Q fr0 fr H∧AR P m N L H0 rest k Q fr0 fr H):=rfl
theorem altV {i:VI}:altR P m N (.v i) t L H0 k Q fr0 fr H=valR P m N (viV fr H i) (.a2 L H0 t k Q (putO fr0 (dstOfI (.v i)) .junk) fr H):=by
 simp only [altR,altW,miW,valR];rfl
theorem altP {i:PI}:altR P m N (.p i) t L H0 k Q fr0 fr H=piR P m N fr H (.a2 L H0 t k Q (putO fr0 (dstOfI (.p i)) .junk) fr H) i:=rfl
theorem altE_alloc {d:Nat} {z:List AV}:altR P m N (.e (.alloc d z)) t L H0 k Q fr0 fr H=eiR P m N fr H (.a L H0 t k Q (putO fr0 (some d) .junk)) (.alloc d z):=by
 simp [altR,altW,wrote,eiR,dstOfI];rfl
theorem altE_box {d:Nat} {x:MV}:altR P m N (.e (.box d x)) t L H0 k Q fr0 fr H=eiR P m N fr H (.a L H0 t k Q (putO fr0 (some d) .junk)) (.box d x):=by
 simp [altR,altW,wrote,eiR,dstOfI];rfl
theorem altE_mkmap {d:Nat}:altR P m N (.e (.mkmap d)) t L H0 k Q fr0 fr H=eiR P m N fr H (.a L H0 t k Q (putO fr0 (some d) .junk)) (.mkmap d):=by
 simp [altR,altW,wrote,eiR,dstOfI];rfl
theorem altE_mk {d e sz bytes:Nat} {z:AV} {x y:MV}:altR P m N (.e (.mk d e sz bytes z x y)) t L H0 k Q fr0 fr H=eiR P m N fr H (.a L H0 t k Q (putO fr0 (some d) .junk)) (.mk d e sz bytes z x y):=by
 simp [altR,altW,wrote,eiR,dstOfI];rfl
theorem altE_mkl {d e sz n:Nat} {z:AV} {ps:List (Nat × MV)}:altR P m N (.e (.mkl d e sz n z ps)) t L H0 k Q fr0 fr H=eiR P m N fr H (.a L H0 t k Q (putO fr0 (some d) .junk)) (.mkl d e sz n z ps):=by
 simp [altR,altW,wrote,eiR,dstOfI];rfl
theorem altE_store {size:Nat} {agg:Bool} {x y:MV}:altR P m N (.e (.store size agg x y)) t L H0 k Q fr0 fr H=((∀ id ∈ wrote fr (.store size agg x y),id ∈ L∨H0.length≤id)∧eiR P m N fr H (.a L H0 t k Q fr0) (.store size agg x y)):=rfl
theorem altE_app {d e sz bytes:Nat} {x y:MV}:altR P m N (.e (.app d e sz bytes x y)) t L H0 k Q fr0 fr H=((∀ id ∈ wrote fr (.app d e sz bytes x y),id ∈ L∨H0.length≤id)∧eiR P m N fr H (.a L H0 t k Q (putO fr0 (some d) .junk)) (.app d e sz bytes x y)):=rfl
theorem Rdie:eiR P m N fr H q .die=False:=rfl
theorem altE_die:altR P m N (.e .die) t L H0 k Q fr0 fr H=False:=by
 simp [altR,altW,eiW]
theorem altE_clr {d:Option Nat} {sz:Nat} {z:AV} {x:MV}:altR P m N (.e (.clr d sz z x)) t L H0 k Q fr0 fr H=((∀ id ∈ wrote fr (.clr d sz z x),id ∈ L∨H0.length≤id)∧eiR P m N fr H (.a L H0 t k Q (putO fr0 d .junk)) (.clr d sz z x)):=rfl
theorem altE_mput {kd:D} {mm x v:MV}:altR P m N (.e (.mput kd mm x v)) t L H0 k Q fr0 fr H=((∀ id ∈ wrote fr (.mput kd mm x v),id ∈ L∨H0.length≤id)∧eiR P m N fr H (.a L H0 t k Q fr0) (.mput kd mm x v)):=rfl
def keOk (q:Ke) (H:List AObj) (ids:List Nat):Prop:=match q with
 | .a L H0 _ _ _ _=>callOk H0.length L H ids
 | .o _ _ _=>ids=[]
theorem keOk_nil {q:Ke} {H:List AObj}:keOk q H []:=by
 cases q
 · rfl
 · exact callOk_nil
def acallR (P:Program) (m:Nat) (N:FN) (d:Option Nat) (f:FuncId) (args:List AV) (fr:List (Nat × AV)) (H:List AObj) (q:Ke):Prop :=
 ∃ ids bor Q',keOk q H ids∧ACalls P f (args.map (pa H ids bor 8)) (pH H ids bor 8) Q'∧∀ r H',Q' r H'→(bor=true→nov r=true∧H'.all novO=true)∧rE P m N q (putO fr d (ren (rho ids H.length) r)) (merge (fun o=>o) H ids (H'.map (renO (rho ids H.length))))
theorem altC {d:Option Nat} {f:FuncId} {args:List MV}:altR P m N (.e (.call d f args)) t L H0 k Q fr0 fr H=acallR P m N d f (args.map (mv fr)) fr H (.a L H0 t k Q (putO fr0 d .junk)):=rfl
def acallvR (P:Program) (m:Nat) (N:FN) (d:Option Nat) (f:AV) (args:List AV) (fr:List (Nat × AV)) (H:List AObj) (q:Ke):Prop:=match f with
 | .fn (.func g) first caps=>acallR P m N d g (first++args++caps) fr H q
 | _=>False
theorem altCv {d:Option Nat} {f:MV} {args:List MV}:altR P m N (.e (.callv d f args)) t L H0 k Q fr0 fr H=acallvR P m N d (mv fr f) (args.map (mv fr)) fr H (.a L H0 t k Q (putO fr0 d .junk)):=by
 unfold altR acallvR
 simp only [altW]
 rfl
theorem acallvR_fn {d:Option Nat} {g:FuncId} {first caps args:List AV}:acallvR P m N d (.fn (.func g) first caps) args fr H q=acallR P m N d g (first++args++caps) fr H q:=rfl
theorem acall_i {d:Option Nat} {f:FuncId} {args args':List AV} (bor:Bool) {Q':AV→List AObj→Prop} (hc:ACalls P f args' [] Q') (ha:args.map (pa H [] bor 8)=args')
 (hq:∀ r H'',Q' r H''→(bor=true→nov r=true∧H''.all novO=true)∧rE P m N q (putO fr d (ren (rho [] H.length) r)) (H++H''.map (renO (rho [] H.length)))):acallR P m N d f args fr H q:=by
 subst ha
 refine ⟨[],bor,Q',keOk_nil,hc,fun r H' h=>?_⟩
 have:=hq r H' h
 simp only [merge,setAll,List.length_nil,List.take_zero,List.map_nil,List.drop_zero,List.map_id'] at this ⊢
 exact this
theorem acallI_i {d:Option Nat} {f:FuncId} {args:List AV} (ids:List Nat) (bor:Bool) {L:List Nat} {H0:List AObj} {t:AT} {k:List It} {Q:Exit→AS→Prop} {fr0:List (Nat × AV)} (h1:ids.all (fun id=>L.contains id || decide (H0.length≤id))=true) (h2:ids.all (· < H.length)=true) (h3:ids.Nodup)
 (h:∃ Q',ACalls P f (args.map (pa H ids bor 8)) (pH H ids bor 8) Q'∧∀ r H'',Q' r H''→(bor=true→nov r=true∧H''.all novO=true)∧rE P m N (.a L H0 t k Q fr0) (putO fr d (ren (rho ids H.length) r)) (merge (fun o=>o) H ids (H''.map (renO (rho ids H.length))))):acallR P m N d f args fr H (.a L H0 t k Q fr0):=by
 obtain ⟨Q',h4,h5⟩:=h
 refine ⟨ids,bor,Q',⟨fun id hid=>?_,by simpa using h2,h3⟩,h4,h5⟩
 have:=List.all_eq_true.1 h1 id hid
 simpa using this
def agD (P:Program) (m:Nat) (N:FN) (v:AV) (g:Nat) (want:Bool) (i:MI) (nd t:AT) (L:List Nat) (H0:List AObj) (k:List It) (Q:Exit→AS→Prop) (fr0 fr:List (Nat × AV)) (H:List AObj):Prop:=match v with
 | .bool b=>(b=want→AR P m N L H0 nd k Q ((g,.bool want)::fr0) ((g,.bool want)::fr) H)∧(b = !want→AR P m N L H0 t k Q (putO ((g,.bool !want)::fr0) (dstOfI i) (.tup [])) (putO ((g,.bool !want)::fr) (dstOfI i) (.tup [])) H)
 | .tup []=>AR P m N L H0 t k Q (putO fr0 (dstOfI i) (.tup [])) (putO fr (dstOfI i) (.tup [])) H
 | _=>False
theorem Ag0 {g:Nat} {want:Bool} {i:MI}:AR P m N L H0 (.pure0 (some (g,want)) i t) k Q fr0 fr H=agD P m N (get fr g) g want i (.pure0 none i t) t L H0 k Q fr0 fr H:=by
 simp only [AR,anyW,guardW,agD];rfl
theorem Ag1 {g:Nat} {want:Bool} {i:MI}:AR P m N L H0 (.pure1 (some (g,want)) i t) k Q fr0 fr H=agD P m N (get fr g) g want i (.pure1 none i t) t L H0 k Q fr0 fr H:=by
 simp only [AR,anyW,guardW,agD];rfl
theorem Aag {g:Nat} {want:Bool} {i:MI} {rest:AT}:AR P m N L H0 (.alt (some (g,want)) i t rest) k Q fr0 fr H=(agD P m N (get fr g) g want i (.alt none i t .stop) t L H0 k Q fr0 fr H∧AR P m N L H0 rest k Q fr0 fr H):=by
 simp only [AR,anyW,guardW,agD,and_true];rfl
section
variable {g:Nat} {i:MI} {nd:AT}
theorem agU {want:Bool}:agD P m N (.tup []) g want i nd t L H0 k Q fr0 fr H=AR P m N L H0 t k Q (putO fr0 (dstOfI i) (.tup [])) (putO fr (dstOfI i) (.tup [])) H:=rfl
theorem agTT:agD P m N (.bool true) g true i nd t L H0 k Q fr0 fr H=AR P m N L H0 nd k Q ((g,.bool true)::fr0) ((g,.bool true)::fr) H:=by simp [agD]
theorem agFF:agD P m N (.bool false) g false i nd t L H0 k Q fr0 fr H=AR P m N L H0 nd k Q ((g,.bool false)::fr0) ((g,.bool false)::fr) H:=by simp [agD]
theorem agTF:agD P m N (.bool true) g false i nd t L H0 k Q fr0 fr H=AR P m N L H0 t k Q (putO ((g,.bool true)::fr0) (dstOfI i) (.tup [])) (putO ((g,.bool true)::fr) (dstOfI i) (.tup [])) H:=by simp [agD]
theorem agFT:agD P m N (.bool false) g true i nd t L H0 k Q fr0 fr H=AR P m N L H0 t k Q (putO ((g,.bool false)::fr0) (dstOfI i) (.tup [])) (putO ((g,.bool false)::fr) (dstOfI i) (.tup [])) H:=by simp [agD]
theorem ag_i {b want:Bool} (h1:b=want→AR P m N L H0 nd k Q ((g,.bool want)::fr0) ((g,.bool want)::fr) H) (h2:b = !want→AR P m N L H0 t k Q (putO ((g,.bool !want)::fr0) (dstOfI i) (.tup [])) (putO ((g,.bool !want)::fr) (dstOfI i) (.tup [])) H):agD P m N (.bool b) g want i nd t L H0 k Q fr0 fr H:=⟨h1,h2⟩
theorem ag_d {p:Prop} [Decidable p] (h1:p→AR P m N L H0 nd k Q ((g,.bool true)::fr0) ((g,.bool true)::fr) H) (h2:¬p→AR P m N L H0 t k Q (putO ((g,.bool false)::fr0) (dstOfI i) (.tup [])) (putO ((g,.bool false)::fr) (dstOfI i) (.tup [])) H):agD P m N (.bool (decide p)) g true i nd t L H0 k Q fr0 fr H:=⟨fun h=>h1 (by simpa using h),fun h=>h2 (by simpa using h)⟩
theorem ag_nd {p:Prop} [Decidable p] (h1:¬p→AR P m N L H0 nd k Q ((g,.bool true)::fr0) ((g,.bool true)::fr) H) (h2:p→AR P m N L H0 t k Q (putO ((g,.bool false)::fr0) (dstOfI i) (.tup [])) (putO ((g,.bool false)::fr) (dstOfI i) (.tup [])) H):agD P m N (.bool (!decide p)) g true i nd t L H0 k Q fr0 fr H:=⟨fun h=>h1 (by simpa using h),fun h=>h2 (by simpa using h)⟩
theorem ag_df {p:Prop} [Decidable p] (h1:¬p→AR P m N L H0 nd k Q ((g,.bool false)::fr0) ((g,.bool false)::fr) H) (h2:p→AR P m N L H0 t k Q (putO ((g,.bool true)::fr0) (dstOfI i) (.tup [])) (putO ((g,.bool true)::fr) (dstOfI i) (.tup [])) H):agD P m N (.bool (decide p)) g false i nd t L H0 k Q fr0 fr H:=⟨fun h=>h1 (by simpa using h),fun h=>h2 (by simpa using h)⟩
theorem ag_ndf {p:Prop} [Decidable p] (h1:p→AR P m N L H0 nd k Q ((g,.bool false)::fr0) ((g,.bool false)::fr) H) (h2:¬p→AR P m N L H0 t k Q (putO ((g,.bool true)::fr0) (dstOfI i) (.tup [])) (putO ((g,.bool true)::fr) (dstOfI i) (.tup [])) H):agD P m N (.bool (!decide p)) g false i nd t L H0 k Q fr0 fr H:=⟨fun h=>h1 (by simpa using h),fun h=>h2 (by simpa using h)⟩
end
end
end Go.Al
