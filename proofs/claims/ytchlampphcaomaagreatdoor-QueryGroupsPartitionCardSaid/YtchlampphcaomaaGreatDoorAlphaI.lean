/-
 A part of the proof: see the text of the law.
-/
import Derived.Test.YtchlampphcaomaaGreatDoorAlphaH
set_option linter.unusedSimpArgs false
set_option linter.unusedVariables false
namespace Go.Al
def paY (o:Option Nat):AV:=match o with | some j=>.yld j | none=>.junk
section
variable {H:List AObj} {l:List Nat} {bor:Bool} {n:Nat}
theorem pos_nil {id k:Nat}:pos [] id k=none:=rfl
theorem pos_cons {j id k:Nat}:pos (j::l) id k=if j=id then some k else pos l id (k+1):=rfl
def vwS (o:Option Nat) (ob:Option AObj) (H:List AObj) (l:List Nat) (n sz q:Nat):AV:=match o,ob with
 | none,some (.arr _ sz' xs)=>if sz=sz'∧q≤xs.length then .view sz ((xs.take q).map (vw H l n)) else .junk
 | _,_=>.junk
def vwB (o:Option Nat) (ob:Option AObj) (H:List AObj) (l:List Nat) (n off:Nat):AV:=match o,ob with
 | none,some (.box cs)=>.vp ((cs.drop off).map (vw H l n)) | _,_=>.junk
def vwE (o:Option Nat) (ob:Option AObj) (H:List AObj) (l:List Nat) (n sz i off:Nat):AV:=match o,ob with
 | none,some (.arr _ sz' xs)=>if sz=sz' then (match xs[i]? with | some x=>(match cellsO x with | some cs=>.vp ((cs.drop off).map (vw H l n)) | none=>.junk) | none=>.junk) else .junk
 | _,_=>.junk
def vwM (o:Option Nat) (ob:Option AObj) (H:List AObj) (l:List Nat) (n:Nat):AV:=match o,ob with
 | none,some (.map ks vs _ _)=>.mview (ks.map (vw H l n)) (vs.map (vw H l n)) | _,_=>.junk
theorem vw_int {k:IntKind} {i:Int}:vw H l n (.int k i)=.int k i:=by cases n <;> rfl
theorem vw_bool {b:Bool}:vw H l n (.bool b)=.bool b:=by cases n <;> rfl
theorem vw_str {s:ByteArray}:vw H l n (.str s)=.str s:=by cases n <;> rfl
theorem vw_raw {v:Value}:vw H l n (.raw v)=.raw v:=by cases n <;> rfl
theorem vw_view {sz:Nat} {xs:List AV}:vw H l n (.view sz xs)=.view sz xs:=by cases n <;> rfl
theorem vw_vp {cs:List AV}:vw H l n (.vp cs)=.vp cs:=by cases n <;> rfl
theorem vw_mview {ks vs:List AV}:vw H l n (.mview ks vs)=.mview ks vs:=by cases n <;> rfl
theorem vw_agg {xs:List AV}:vw H l (n+1) (.agg xs)=.agg (xs.map (vw H l n)):=rfl
theorem vw_tup {xs:List AV}:vw H l (n+1) (.tup xs)=.tup (xs.map (vw H l n)):=rfl
theorem vw_fn {f:Fn} {a b:List AV}:vw H l (n+1) (.fn f a b)=.fn f (a.map (vw H l n)) (b.map (vw H l n)):=rfl
theorem vw_ifc {t:TypeId} {x:AV}:vw H l (n+1) (.ifc t x)=.ifc t (vw H l n x):=rfl
theorem vw_slc {id sz q:Nat}:vw H l (n+1) (.slc id sz q)=vwS (pos l id 0) H[id]? H l n sz q:=rfl
theorem vw_op {id off:Nat}:vw H l (n+1) (.op id off)=vwB (pos l id 0) H[id]? H l n off:=rfl
theorem vw_ep {id sz i off:Nat}:vw H l (n+1) (.ep id sz i off)=vwE (pos l id 0) H[id]? H l n sz i off:=rfl
theorem vw_mp {id:Nat}:vw H l (n+1) (.mp id)=vwM (pos l id 0) H[id]? H l n:=rfl
def vwU (o:Option Nat) (ob:Option AObj) (H:List AObj) (l:List Nat) (n sz off q:Nat):AV:=match o,ob with
 | none,some (.arr _ sz' xs)=>if sz=sz'∧off+q≤xs.length then .view sz (((xs.drop off).take q).map (vw H l n)) else .junk
 | _,_=>.junk
theorem vw_sub {id sz off q:Nat}:vw H l (n+1) (.sub id sz off q)=vwU (pos l id 0) H[id]? H l n sz off q:=rfl
theorem vwU_arr {E:TypeId} {sz:Nat} {xs:List AV} {off q:Nat} (hq:off+q≤xs.length):vwU none (some (.arr E sz xs)) H l n sz off q=.view sz (((xs.drop off).take q).map (vw H l n)):=by
 simp [vwU,hq]
theorem vwS_arr {E:TypeId} {sz:Nat} {xs:List AV} {q:Nat} (hq:q=xs.length):vwS none (some (.arr E sz xs)) H l n sz q=.view sz (xs.map (vw H l n)):=by
 subst hq;simp [vwS]
theorem vwB_box {cs:List AV} {off:Nat}:vwB none (some (.box cs)) H l n off=.vp ((cs.drop off).map (vw H l n)):=rfl
theorem vwM_map {ks vs:List AV} {bs:List Nat} {c:Nat}:vwM none (some (.map ks vs bs c)) H l n=.mview (ks.map (vw H l n)) (vs.map (vw H l n)):=rfl
theorem map_same {α:Type} {f:α→AV} {g:AV→AV} (h:∀ x,g (f x)=f x) (xs:List α):(xs.map f).map g=xs.map f:=by
 simp [h]
theorem vw_ints {k:IntKind} {xs:List Int}:(xs.map (AV.int k)).map (vw H l n)=xs.map (AV.int k):=map_same (fun _=>vw_int) xs
theorem vw_bools {xs:List Bool}:(xs.map AV.bool).map (vw H l n)=xs.map AV.bool:=map_same (fun _=>vw_bool) xs
def paR (o:Option Nat) (f:Nat→AV) (bor:Bool) (y:AV):AV:=match o with | some j=>f j | none=>if bor then y else .junk
theorem paR_some {j:Nat} {f:Nat→AV} {y:AV}:paR (some j) f bor y=f j:=rfl
theorem paR_lent {f:Nat→AV} {y:AV}:paR none f true y=y:=rfl
theorem paR_junk {f:Nat→AV} {y:AV}:paR none f false y=.junk:=rfl
theorem pa_int {k:IntKind} {i:Int}:pa H l bor n (.int k i)=.int k i:=by cases n <;> rfl
theorem pa_bool {b:Bool}:pa H l bor n (.bool b)=.bool b:=by cases n <;> rfl
theorem pa_str {s:ByteArray}:pa H l bor n (.str s)=.str s:=by cases n <;> rfl
theorem pa_raw {v:Value}:pa H l bor n (.raw v)=.raw v:=by cases n <;> rfl
theorem pa_view {sz:Nat} {xs:List AV}:pa H l bor n (.view sz xs)=.view sz xs:=by cases n <;> rfl
theorem pa_vp {cs:List AV}:pa H l bor n (.vp cs)=.vp cs:=by cases n <;> rfl
theorem pa_mview {ks vs:List AV}:pa H l bor n (.mview ks vs)=.mview ks vs:=by cases n <;> rfl
theorem pa_junk:pa H l bor n .junk=.junk:=by cases n <;> rfl
theorem pa_agg {xs:List AV}:pa H l bor (n+1) (.agg xs)=.agg (xs.map (pa H l bor n)):=rfl
theorem pa_tup {xs:List AV}:pa H l bor (n+1) (.tup xs)=.tup (xs.map (pa H l bor n)):=rfl
theorem pa_fn {f:Fn} {a b:List AV}:pa H l bor (n+1) (.fn f a b)=.fn f (a.map (pa H l bor n)) (b.map (pa H l bor n)):=rfl
theorem pa_ifc {t:TypeId} {x:AV}:pa H l bor (n+1) (.ifc t x)=.ifc t (pa H l bor n x):=rfl
theorem pa_slc {id sz q:Nat}:pa H l bor (n+1) (.slc id sz q)=paR (pos l id 0) (fun j=>.slc j sz q) bor (vw H l (n+1) (.slc id sz q)):=rfl
theorem pa_sub {id sz off q:Nat}:pa H l bor (n+1) (.sub id sz off q)=paR (pos l id 0) (fun j=>.sub j sz off q) bor (vw H l (n+1) (.sub id sz off q)):=rfl
theorem pa_op {id off:Nat}:pa H l bor (n+1) (.op id off)=paR (pos l id 0) (fun j=>.op j off) bor (vw H l (n+1) (.op id off)):=rfl
theorem pa_ep {id sz i off:Nat}:pa H l bor (n+1) (.ep id sz i off)=paR (pos l id 0) (fun j=>.ep j sz i off) bor (vw H l (n+1) (.ep id sz i off)):=rfl
theorem pa_mp {id:Nat}:pa H l bor (n+1) (.mp id)=paR (pos l id 0) .mp bor (vw H l (n+1) (.mp id)):=rfl
theorem pa_ints {k:IntKind} {xs:List Int}:(xs.map (AV.int k)).map (pa H l bor n)=xs.map (AV.int k):=map_same (fun _=>pa_int) xs
theorem pa_bools {xs:List Bool}:(xs.map AV.bool).map (pa H l bor n)=xs.map AV.bool:=map_same (fun _=>pa_bool) xs
theorem pH_nil:pH H [] bor n=[]:=rfl
theorem pH_def:pH H l bor n=l.map fun i=>po H l bor n (H[i]?.getD .dead):=rfl
theorem pa_yld {id:Nat}:pa H l bor (n+1) (.yld id)=paY (pos l id 0):=rfl
theorem paY_some {j:Nat}:paY (some j)=.yld j:=rfl
theorem po_loop {st:LoopState} {pd:Option Code} {fr:List (Nat × AV)} {q:Nat} {fn:FuncId} {ps:Array Tmp} {as bd:Code}:po H l bor n (.loop st pd fr q fn ps as bd)=.loop st pd (fr.map fun p=>(p.1,pa H l bor n p.2)) q fn ps as bd:=rfl
theorem zipPut_nil {xs:List AV} {fr:List (Nat × AV)}:zipPut [] xs fr=fr:=by cases xs <;> rfl
theorem zipPut_cons {p:Tmp} {ps:List Tmp} {x:AV} {xs:List AV} {fr:List (Nat × AV)}:zipPut (p::ps) (x::xs) fr=zipPut ps xs ((p,x)::fr):=rfl
theorem po_box {cs:List AV}:po H l bor n (.box cs)=.box (cs.map (pa H l bor n)):=rfl
theorem po_arr {E:TypeId} {sz:Nat} {xs:List AV}:po H l bor n (.arr E sz xs)=.arr E sz (xs.map (pa H l bor n)):=rfl
theorem po_map {ks vs:List AV} {bs:List Nat} {c:Nat}:po H l bor n (.map ks vs bs c)=.map (ks.map (pa H l bor n)) (vs.map (pa H l bor n)) bs c:=rfl
end
theorem rho_nil {n i:Nat}:rho [] n i=n+i:=rfl
theorem rho_zero {j n:Nat} {l:List Nat}:rho (j::l) n 0=j:=rfl
theorem rho_succ {j n i:Nat} {l:List Nat}:rho (j::l) n (i+1)=rho l n i:=by
 simp [rho,Nat.add_sub_add_right]
theorem renL_map {α:Type} {ρ:Nat→Nat} {f:α→AV} (h:∀ x,ren ρ (f x)=f x):∀ (xs:List α),renL ρ (xs.map f)=xs.map f
 | []=>rfl
 | x::xs=>by simp [renL,h,renL_map h xs]
theorem renL_ints {ρ:Nat→Nat} {k:IntKind} {xs:List Int}:renL ρ (xs.map (AV.int k))=xs.map (AV.int k):=renL_map (fun _=>rfl) xs
theorem renL_bools {ρ:Nat→Nat} {xs:List Bool}:renL ρ (xs.map AV.bool)=xs.map AV.bool:=renL_map (fun _=>rfl) xs
theorem novL_map {α:Type} {f:α→AV} (h:∀ x,nov (f x)=true):∀ (xs:List α),novL (xs.map f)=true
 | []=>rfl
 | x::xs=>by simp [novL,h,novL_map h xs]
theorem novL_ints {k:IntKind} {xs:List Int}:novL (xs.map (AV.int k))=true:=novL_map (fun _=>rfl) xs
theorem novL_bools {xs:List Bool}:novL (xs.map AV.bool)=true:=novL_map (fun _=>rfl) xs
section
variable {P:Program} {m:Nat} {N:FN} {k:List It} {l:List (Option (Nat × Bool) × MI)} {Q:Exit→AS→Prop} {fr fr0:List (Nat × AV)} {H H0:List AObj} {L:List Nat} {T:AT} {c:Kn} {q:Ke}
theorem cond_d {p:Prop} [Decidable p] {t:Nat} {x y:MC} (h1:p→R P m N (.c x::k) Q .normal ((t,.bool true)::fr) H) (h2:¬p→R P m N (.c y::k) Q .normal ((t,.bool false)::fr) H):condR P m N (.bool (decide p)) t x y k Q fr H :=
 cond_i (fun h=>h1 (by simpa using h)) (fun h=>h2 (by simpa using h))
theorem cond_nd {p:Prop} [Decidable p] {t:Nat} {x y:MC} (h1:¬p→R P m N (.c x::k) Q .normal ((t,.bool true)::fr) H) (h2:p→R P m N (.c y::k) Q .normal ((t,.bool false)::fr) H):condR P m N (.bool (!decide p)) t x y k Q fr H :=
 cond_i (fun h=>h1 (by simpa using h)) (fun h=>h2 (by simpa using h))
theorem guard_d {p:Prop} [Decidable p] {t:Nat} {i:MI} (h1:p→R P m N (.o ((none,i)::l)::k) Q .normal ((t,.bool true)::fr) H) (h2:¬p→R P m N (.o l::k) Q .normal (putO ((t,.bool false)::fr) (dstOfI i) (.tup [])) H) :
 guardR P m N (.bool (decide p)) t true i l k Q fr H:=guard_i (fun h=>h1 (by simpa using h)) (fun h=>h2 (by simpa using h))
theorem guard_nd {p:Prop} [Decidable p] {t:Nat} {i:MI} (h1:¬p→R P m N (.o ((none,i)::l)::k) Q .normal ((t,.bool true)::fr) H) (h2:p→R P m N (.o l::k) Q .normal (putO ((t,.bool false)::fr) (dstOfI i) (.tup [])) H) :
 guardR P m N (.bool (!decide p)) t true i l k Q fr H:=guard_i (fun h=>h1 (by simpa using h)) (fun h=>h2 (by simpa using h))
theorem guard_df {p:Prop} [Decidable p] {t:Nat} {i:MI} (h1:¬p→R P m N (.o ((none,i)::l)::k) Q .normal ((t,.bool false)::fr) H) (h2:p→R P m N (.o l::k) Q .normal (putO ((t,.bool true)::fr) (dstOfI i) (.tup [])) H) :
 guardR P m N (.bool (decide p)) t false i l k Q fr H:=guard_i (fun h=>h1 (by simpa using h)) (fun h=>h2 (by simpa using h))
theorem guard_ndf {p:Prop} [Decidable p] {t:Nat} {i:MI} (h1:p→R P m N (.o ((none,i)::l)::k) Q .normal ((t,.bool false)::fr) H) (h2:¬p→R P m N (.o l::k) Q .normal (putO ((t,.bool true)::fr) (dstOfI i) (.tup [])) H) :
 guardR P m N (.bool (!decide p)) t false i l k Q fr H:=guard_i (fun h=>h1 (by simpa using h)) (fun h=>h2 (by simpa using h))
theorem LenR_i {n d:Nat} (h:n≤maxLen→rK P m N c d (.int .i64 n)):LenR P m N n d c:=h
def callN (P:Program) (m:Nat) (N:FN) (d:Option Nat) (f:FuncId) (args:List AV) (H':List AObj) (ids:List Nat) (bor:Bool) (fr:List (Nat × AV)) (H:List AObj) (q:Ke):Prop :=
 ∃ Q',ACalls P f args H' Q'∧∀ r H'',Q' r H''→(bor=true→nov r=true∧H''.all novO=true)∧rE P m N q (putO fr d (ren (rho ids H.length) r)) (merge (fun o=>o) H ids (H''.map (renO (rho ids H.length))))
theorem callN_i {d:Option Nat} {f:FuncId} {args:List AV} (ids:List Nat) (bor:Bool) (hlt:ids.all (· < H.length)=true) (hnd:ids.Nodup) (h:callN P m N d f (args.map (pa H ids bor 8)) (pH H ids bor 8) ids bor fr H q):callR P m N d f args fr H q:=by
 obtain ⟨Q',hc,hq⟩:=h
 exact call_i ids bor hc hlt hnd rfl rfl hq
def acallN (P:Program) (m:Nat) (N:FN) (d:Option Nat) (f:FuncId) (args:List AV) (bor:Bool) (fr:List (Nat × AV)) (H:List AObj) (q:Ke):Prop :=
 ∃ Q',ACalls P f args [] Q'∧∀ r H'',Q' r H''→(bor=true→nov r=true∧H''.all novO=true)∧rE P m N q (putO fr d (ren (rho [] H.length) r)) (H++H''.map (renO (rho [] H.length)))
theorem acallN_i {d:Option Nat} {f:FuncId} {args:List AV} (bor:Bool) (h:acallN P m N d f (args.map (pa H [] bor 8)) bor fr H q):acallR P m N d f args fr H q:=by
 obtain ⟨Q',hc,hq⟩:=h
 exact acall_i bor hc rfl hq
section
variable {q':Prop}
end
end
end Go.Al
namespace Go.Al
section
inductive St:Prop→Prop where
 | a1 {P m N k Q fr H t x y} {p:Prop} [Decidable p] (h1:p→R P m N (.c x::k) Q .normal ((t,.bool true)::fr) H) (h2:¬p→R P m N (.c y::k) Q .normal ((t,.bool false)::fr) H):St (condR P m N (.bool (decide p)) t x y k Q fr H)
 | a2 {P m N k Q fr H t x y} {p:Prop} [Decidable p] (h1:¬p→R P m N (.c x::k) Q .normal ((t,.bool true)::fr) H) (h2:p→R P m N (.c y::k) Q .normal ((t,.bool false)::fr) H):St (condR P m N (.bool (!decide p)) t x y k Q fr H)
 | a3 {P m N k Q fr H t x y} {b:Bool} (h1:b=true→R P m N (.c x::k) Q .normal ((t,.bool true)::fr) H) (h2:b=false→R P m N (.c y::k) Q .normal ((t,.bool false)::fr) H):St (condR P m N (.bool b) t x y k Q fr H)
 | b1 {P m N k l Q fr H t i} {p:Prop} [Decidable p] (h1:p→R P m N (.o ((none,i)::l)::k) Q .normal ((t,.bool true)::fr) H) (h2:¬p→R P m N (.o l::k) Q .normal (putO ((t,.bool false)::fr) (dstOfI i) (.tup [])) H):St (guardR P m N (.bool (decide p)) t true i l k Q fr H)
 | b2 {P m N k l Q fr H t i} {p:Prop} [Decidable p] (h1:¬p→R P m N (.o ((none,i)::l)::k) Q .normal ((t,.bool true)::fr) H) (h2:p→R P m N (.o l::k) Q .normal (putO ((t,.bool false)::fr) (dstOfI i) (.tup [])) H):St (guardR P m N (.bool (!decide p)) t true i l k Q fr H)
 | b3 {P m N k l Q fr H t i} {p:Prop} [Decidable p] (h1:¬p→R P m N (.o ((none,i)::l)::k) Q .normal ((t,.bool false)::fr) H) (h2:p→R P m N (.o l::k) Q .normal (putO ((t,.bool true)::fr) (dstOfI i) (.tup [])) H):St (guardR P m N (.bool (decide p)) t false i l k Q fr H)
 | b4 {P m N k l Q fr H t i} {p:Prop} [Decidable p] (h1:p→R P m N (.o ((none,i)::l)::k) Q .normal ((t,.bool false)::fr) H) (h2:¬p→R P m N (.o l::k) Q .normal (putO ((t,.bool true)::fr) (dstOfI i) (.tup [])) H):St (guardR P m N (.bool (!decide p)) t false i l k Q fr H)
 | b5 {P m N k l Q fr H t i} {b want:Bool} (h1:b=want→R P m N (.o ((none,i)::l)::k) Q .normal ((t,.bool want)::fr) H) (h2:b = !want→R P m N (.o l::k) Q .normal (putO ((t,.bool !want)::fr) (dstOfI i) (.tup [])) H):St (guardR P m N (.bool b) t want i l k Q fr H)
 | c1 {P m N k L H0 nd tt Q fr0 fr H g i} {p:Prop} [Decidable p] (h1:p→AR P m N L H0 nd k Q ((g,.bool true)::fr0) ((g,.bool true)::fr) H) (h2:¬p→AR P m N L H0 tt k Q (putO ((g,.bool false)::fr0) (dstOfI i) (.tup [])) (putO ((g,.bool false)::fr) (dstOfI i) (.tup [])) H):St (agD P m N (.bool (decide p)) g true i nd tt L H0 k Q fr0 fr H)
 | c2 {P m N k L H0 nd tt Q fr0 fr H g i} {p:Prop} [Decidable p] (h1:¬p→AR P m N L H0 nd k Q ((g,.bool true)::fr0) ((g,.bool true)::fr) H) (h2:p→AR P m N L H0 tt k Q (putO ((g,.bool false)::fr0) (dstOfI i) (.tup [])) (putO ((g,.bool false)::fr) (dstOfI i) (.tup [])) H):St (agD P m N (.bool (!decide p)) g true i nd tt L H0 k Q fr0 fr H)
 | c3 {P m N k L H0 nd tt Q fr0 fr H g i} {p:Prop} [Decidable p] (h1:¬p→AR P m N L H0 nd k Q ((g,.bool false)::fr0) ((g,.bool false)::fr) H) (h2:p→AR P m N L H0 tt k Q (putO ((g,.bool true)::fr0) (dstOfI i) (.tup [])) (putO ((g,.bool true)::fr) (dstOfI i) (.tup [])) H):St (agD P m N (.bool (decide p)) g false i nd tt L H0 k Q fr0 fr H)
 | c4 {P m N k L H0 nd tt Q fr0 fr H g i} {p:Prop} [Decidable p] (h1:p→AR P m N L H0 nd k Q ((g,.bool false)::fr0) ((g,.bool false)::fr) H) (h2:¬p→AR P m N L H0 tt k Q (putO ((g,.bool true)::fr0) (dstOfI i) (.tup [])) (putO ((g,.bool true)::fr) (dstOfI i) (.tup [])) H):St (agD P m N (.bool (!decide p)) g false i nd tt L H0 k Q fr0 fr H)
 | c5 {P m N k L H0 nd tt Q fr0 fr H g i} {b want:Bool} (h1:b=want→AR P m N L H0 nd k Q ((g,.bool want)::fr0) ((g,.bool want)::fr) H) (h2:b = !want→AR P m N L H0 tt k Q (putO ((g,.bool !want)::fr0) (dstOfI i) (.tup [])) (putO ((g,.bool !want)::fr) (dstOfI i) (.tup [])) H):St (agD P m N (.bool b) g want i nd tt L H0 k Q fr0 fr H)
 | d1 {P m N n d c} (h:n≤maxLen→rK P m N c d (.int .i64 n)):St (LenR P m N n d c)
theorem St.o {p:Prop} (h:St p):p:=by
 cases h with
 | d1 h=>exact h
 | a1 h1 h2=>exact cond_d h1 h2
 | a2 h1 h2=>exact cond_nd h1 h2
 | a3 h1 h2=>exact cond_i h1 h2
 | b1 h1 h2=>exact guard_d h1 h2
 | b2 h1 h2=>exact guard_nd h1 h2
 | b3 h1 h2=>exact guard_df h1 h2
 | b4 h1 h2=>exact guard_ndf h1 h2
 | b5 h1 h2=>exact guard_i h1 h2
 | c1 h1 h2=>exact ag_d h1 h2
 | c2 h1 h2=>exact ag_nd h1 h2
 | c3 h1 h2=>exact ag_df h1 h2
 | c4 h1 h2=>exact ag_ndf h1 h2
 | c5 h1 h2=>exact ag_i h1 h2
inductive Sp:Prop→Prop where
 | as {p q r:Prop} (h:p∧(q∧r)):Sp ((p∧q)∧r)
 | a {P m N v t x y k Q fr H} {q':Prop} (h:condR P m N v t x y k Q fr H) (h':q'):Sp (condR P m N v t x y k Q fr H∧q')
 | b {P m N v t want i l k Q fr H} {q':Prop} (h:guardR P m N v t want i l k Q fr H) (h':q'):Sp (guardR P m N v t want i l k Q fr H∧q')
 | c {P m N v g want i nd t L H0 k Q fr0 fr H} {q':Prop} (h:agD P m N v g want i nd t L H0 k Q fr0 fr H) (h':q'):Sp (agD P m N v g want i nd t L H0 k Q fr0 fr H∧q')
 | d {P m N d f args fr H q} {q':Prop} (h:callR P m N d f args fr H q) (h':q'):Sp (callR P m N d f args fr H q∧q')
 | e {P m N d f args fr H q} {q':Prop} (h:acallR P m N d f args fr H q) (h':q'):Sp (acallR P m N d f args fr H q∧q')
 | f {P m N c k Q fr H} {q':Prop} (h:LoopR P m N c k Q fr H) (h':q'):Sp (LoopR P m N c k Q fr H∧q')
 | g {P m N k Q fr H} {q':Prop} (h:FrzR P m N k Q fr H) (h':q'):Sp (FrzR P m N k Q fr H∧q')
 | h {P m N t k Q fr H} {q':Prop} (h:AnyR P m N t k Q fr H) (h':q'):Sp (AnyR P m N t k Q fr H∧q')
 | i {P m N n d c} {q':Prop} (h:LenR P m N n d c) (h':q'):Sp (LenR P m N n d c∧q')
 | j {P m N xs n d c} {q':Prop} (h:IdxR P m N xs n d c) (h':q'):Sp (IdxR P m N xs n d c∧q')
 | k {n Q r H} {q':Prop} (h:keepQ n Q r H) (h':q'):Sp (keepQ n Q r H∧q')
 | l {X m N inv st μ x k P Q s} {q':Prop} (h:@Back X m N inv st μ x k P Q .normal s) (h':q'):Sp (@Back X m N inv st μ x k P Q .normal s∧q')
 | m {P m N d e sz n xs fr H q} {q':Prop} (h:mklD P m N d e sz n xs fr H q) (h':q'):Sp (mklD P m N d e sz n xs fr H q∧q')
theorem Sp.o {p:Prop} (h:Sp p):p:=by
 cases h with
 | as h=>exact and_assoc.2 h
 | _ h h'=>exact ⟨h,h'⟩
inductive Sq:Prop→Prop where
 | as {p q r:Prop} (h:p∧(q∧r)):Sq ((p∧q)∧r)
 | a {P m N v t x y k Q fr H} {q':Prop} (h:condR P m N v t x y k Q fr H) (h':q'):Sq (condR P m N v t x y k Q fr H∧q')
 | b {P m N v t want i l k Q fr H} {q':Prop} (h:guardR P m N v t want i l k Q fr H) (h':q'):Sq (guardR P m N v t want i l k Q fr H∧q')
 | c {P m N v g want i nd t L H0 k Q fr0 fr H} {q':Prop} (h:agD P m N v g want i nd t L H0 k Q fr0 fr H) (h':q'):Sq (agD P m N v g want i nd t L H0 k Q fr0 fr H∧q')
 | d {P m N d f args fr H q} {q':Prop} (h:callR P m N d f args fr H q) (h':q'):Sq (callR P m N d f args fr H q∧q')
 | e {P m N d f args fr H q} {q':Prop} (h:acallR P m N d f args fr H q) (h':q'):Sq (acallR P m N d f args fr H q∧q')
 | f {P m N c k Q fr H} {q':Prop} (h:LoopR P m N c k Q fr H) (h':q'):Sq (LoopR P m N c k Q fr H∧q')
 | g {P m N k Q fr H} {q':Prop} (h:FrzR P m N k Q fr H) (h':q'):Sq (FrzR P m N k Q fr H∧q')
 | h {P m N t k Q fr H} {q':Prop} (h:AnyR P m N t k Q fr H) (h':q'):Sq (AnyR P m N t k Q fr H∧q')
 | i {P m N n d c} {q':Prop} (h:LenR P m N n d c) (h':q'):Sq (LenR P m N n d c∧q')
 | j {P m N xs n d c} {q':Prop} (h:IdxR P m N xs n d c) (h':q'):Sq (IdxR P m N xs n d c∧q')
 | k {n Q r H} {q':Prop} (h:keepQ n Q r H) (h':q'):Sq (keepQ n Q r H∧q')
 | l {X m N inv st μ x k P Q s} {q':Prop} (h:@Back X m N inv st μ x k P Q .normal s) (h':q'):Sq (@Back X m N inv st μ x k P Q .normal s∧q')
 | m {P m N d e sz n xs fr H q} {q':Prop} (h:mklD P m N d e sz n xs fr H q) (h':q'):Sq (mklD P m N d e sz n xs fr H q∧q')
 | n {P m N d e sz n xs fr H q} (h:rE P m N q ((d,.slc H.length sz n)::fr) (H++[.arr e sz xs])):Sq (mklD P m N d e sz n xs fr H q)
 | oo {P m N d e sz id n xs ys fr H q} (h:rE P m N q ((d,.slc H.length sz (n+ys.length))::fr) (H.set id .dead++[.arr e sz (xs.take n++ys)])):Sq (apD P m N d e sz id n xs ys fr H q)
 | p {P m N L H0 t k Q fr H} (h:AR P m N [] H t k Q fr fr H):Sq (BasR P m N L H0 t k Q fr H)
 | q {P m N t k Q fr H} (h:AR P m N [] H t k Q fr fr H):Sq (Any0R P m N t k Q fr H)
 | r {P m N k Q fr H} (h:R P m N k Q .normal fr H):Sq (FrzR P m N k Q fr H)
theorem Sq.o {p:Prop} (h:Sq p):p:=by
 cases h with
 | as h=>exact and_assoc.2 h
 | n h=>exact mkl_own h
 | oo h=>exact ap_own h
 | p h=>exact base0_i h
 | q h=>exact any00_i h
 | r h=>exact frz0_i h
 | _ h h'=>exact ⟨h,h'⟩
inductive Sc (bor:Bool):Prop→Prop where
 | a {P m N d f args fr H q} (h:callN P m N d f (args.map (pa H [] bor 8)) (pH H [] bor 8) [] bor fr H q):Sc bor (callR P m N d f args fr H q)
 | b {P m N d f args fr H q} (h:acallN P m N d f (args.map (pa H [] bor 8)) bor fr H q):Sc bor (acallR P m N d f args fr H q)
theorem Sc.o (bor:Bool) {p:Prop} (h:Sc bor p):p:=by
 cases h with
 | a h=>exact callN_i [] bor (by simp) (by simp) h
 | b h=>exact acallN_i bor h
end
end Go.Al
