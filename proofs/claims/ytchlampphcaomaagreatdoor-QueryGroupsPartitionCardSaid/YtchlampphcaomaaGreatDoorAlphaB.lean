/-
 A part of the proof: see the text of the law.
-/
import Derived.Test.YtchlampphcaomaaGreatDoorAlphaAb
import Derived.Great.FillDense
import Derived.Great.BuildSlice
set_option linter.unusedSimpArgs false
set_option linter.unusedVariables false
namespace Go.Al
def loadB (agg:Bool) (size:Nat) (cs:List AV):Option AV:=if agg then (if size≤cs.length then some (.agg (cs.take size)) else none) else cs.head?
def partB (agg:Bool) (size off:Nat) (xs:List AV):Option AV:=if agg then (if off+size≤xs.length then some (.agg ((xs.drop off).take size)) else none) else xs[off]?
def fillA (cells:List AV):List (Nat × Nat × AV)→Option AV
 | []=>some (.agg cells)
 | (off,size,x)::r=>match cellsO x with
   | some cs=>if cs.length=size∧off+size≤cells.length then fillA (setAt cells off cs) r else none
   | none=>none
def fillE (sz:Nat) (xs:List AV):List (Nat × AV)→Option (List AV)
 | []=>some xs
 | (i,x)::r=>match cellsO x with
   | some cs=>if cs.length=sz∧i<xs.length then fillE sz (xs.set i x) r else none
   | none=>none
def viV (fr:List (Nat × AV)) (H:List AObj):VI→Option (Nat × AV)
 | .mov d x=>some (d,mv fr x)
 | .pick d c a b=>match mv fr c with
   | .bool true=>some (d,mv fr a)
   | .bool false=>some (d,mv fr b)
   | _=>none
 | .gld d g=>(glob g).map (d,·)
 | .load d agg size p=>match ptrCells H (mv fr p) with
   | some cs=>(loadB agg size cs).map (d,·)
   | none=>none
 | .nil d x=>match mv fr x with
   | .vp cs=>some (d,.vp cs)
   | .raw (.pointer (some a))=>some (d,.raw (.pointer (some a)))
   | .op id off=>match H[id]? with | some (.box cs)=>some (d,.op id off) | _=>none
   | .ep id sz i off=>match H[id]? with | some (.arr _ _ (_::_))=>some (d,.ep id sz i off) | _=>none
   | .fn (.func f) first caps=>some (d,.fn (.func f) first caps)
   | _=>none
 | .fld d off p=>match ptrCells H (mv fr p) with | some _=>some (d,ptrAdd off (mv fr p)) | none=>none
 | .get d agg size off x=>match mv fr x with | .agg xs=>(partB agg size off xs).map (d,·) | _=>none
 | .bin d op bo x y=>match mv fr x,mv fr y with
   | .int kx a,.int ky b=>if kx=ky then (intA op kx a b).map (d,·) else none
   | .bool a,.bool b=>if bo then (boolA op a b).map (d,·) else none
   | .str a,.str b=>(strA op a b).map (d,·)
   | _,_=>none
 | .eq d neg q x y=>(eqA H q (mv fr x) (mv fr y)).map fun b=>(d,.bool (if neg then !b else b))
 | .not d x=>match mv fr x with | .bool b=>some (d,.bool (!b)) | _=>none
 | .neg d x=>match mv fr x with | .int k n=>some (d,.int k (k.wrap (0 - n))) | _=>none
 | .conv d k x=>match mv fr x with | .int _ n=>some (d,.int k (k.wrap n)) | _=>none
 | .mki d T x=>some (d,.ifc T (mv fr x))
 | .fn d f first caps=>some (d,.fn f (first.map (mv fr)) (caps.map (mv fr)))
 | .ext d i x=>match mv fr x with | .tup xs=>xs[i]?.map (d,·) | _=>none
 | .build d z parts=>(fillA z (parts.map fun p=>(p.1,p.2.1,mv fr p.2.2))).map (d,·)
 | .max d xs=>match xs.map (mv fr) with
   | [.int k1 a,.int k2 b]=>some (d,.int k1 (if b > a then b else a))
   | [.int k1 a,.int k2 b,.int k3 c]=>some (d,.int k1 (if c > (if b > a then b else a) then c else (if b > a then b else a)))
   | _=>none
 | .min d xs=>match xs.map (mv fr) with
   | [.int k1 a,.int k2 b]=>some (d,.int k1 (if b<a then b else a))
   | [.int k1 a,.int k2 b,.int k3 c]=>some (d,.int k1 (if c<(if b<a then b else a) then c else (if b<a then b else a)))
   | _=>none
def piP (fr:List (Nat × AV)) (H:List AObj) (k:Nat→AV→Prop):PI→Prop
 | .idx d sz x i=>match mv fr x,mv fr i with
   | .view sz' xs,.int _ n=>sz'=sz∧Idx xs n (fun y=>match cellsO y with | some cs=>k d (.vp cs) | none=>False)
   | .slc id sz' m,.int _ n=>sz'=sz∧(match H[id]? with | some (.arr _ _ (_::_))=>0≤n∧n<m∧k d (.ep id sz n.toNat 0) | _=>False)
   | .sub id sz' off m,.int _ n=>sz'=sz∧(match H[id]? with | some (.arr _ _ _)=>0≤n∧n<m∧k d (.ep id sz (off+n.toNat) 0) | _=>False)
   | _,_=>False
 | .aidx d len sz x i=>match ptrCells H (mv fr x),mv fr i with
   | some _,.int _ n=>0≤n∧n<len∧k d (ptrAdd (n.toNat * sz) (mv fr x))
   | _,_=>False
 | .aget d len agg size x i=>match mv fr x,mv fr i with
   | .agg xs,.int _ n=>0≤n∧n<len∧optP (partB agg size (n.toNat * size) xs) (k d)
   | _,_=>False
 | .sget d x i=>match mv fr x,mv fr i with
   | .str s,.int _ n=>0≤n∧∃ h:n.toNat<s.size,k d (.int .u8 s[n.toNat].toNat)
   | _,_=>False
 | .quo d x y=>match mv fr x,mv fr y with
   | .int kx a,.int ky b=>kx=ky∧b≠0∧k d (.int kx (kx.wrap (a.tdiv b)))
   | _,_=>False
 | .rem d x y=>match mv fr x,mv fr y with
   | .int kx a,.int ky b=>kx=ky∧b≠0∧k d (.int kx (a.tmod b))
   | _,_=>False
 | .shl d x y=>match mv fr x,mv fr y with
   | .int kx a,.int ky b=>0≤b∧k d (.int kx (kx.wrap (a * 2 ^ (min b.toNat kx.bits))))
   | _,_=>False
 | .shr d x y=>match mv fr x,mv fr y with
   | .int kx a,.int ky b=>0≤b∧k d (.int kx (a.fdiv (2 ^ (min b.toNat kx.bits))))
   | _,_=>False
 | .cut d sz x lo (some hi)=>match mv fr x,mv fr lo,mv fr hi with
   | .view sz' xs,.int _ l,.int _ h=>sz'=sz∧0≤l∧l≤h∧h≤xs.length∧k d (.view sz ((xs.take h.toNat).drop l.toNat))
   | .slc id sz' m,.int _ l,.int _ h=>sz'=sz∧(match H[id]? with | some (.arr _ _ _)=>0≤l∧l≤h∧h≤m∧k d (.sub id sz l.toNat (h.toNat - l.toNat)) | _=>False)
   | .sub id sz' off m,.int _ l,.int _ h=>sz'=sz∧(match H[id]? with | some (.arr _ _ _)=>0≤l∧l≤h∧h≤m∧k d (.sub id sz (off+l.toNat) (h.toNat - l.toNat)) | _=>False)
   | _,_,_=>False
 | .cut d sz x lo none=>match mv fr x,mv fr lo with
   | .view sz' xs,.int _ l=>sz'=sz∧0≤l∧l≤xs.length∧k d (.view sz (xs.drop l.toNat))
   | .slc id sz' m,.int _ l=>sz'=sz∧(match H[id]? with | some (.arr _ _ _)=>0≤l∧l≤m∧k d (.sub id sz l.toNat (m - l.toNat)) | _=>False)
   | .sub id sz' off m,.int _ l=>sz'=sz∧(match H[id]? with | some (.arr _ _ _)=>0≤l∧l≤m∧k d (.sub id sz (off+l.toNat) (m - l.toNat)) | _=>False)
   | _,_=>False
 | .pre d sz x (some hi)=>match mv fr x,mv fr hi with
   | .view sz' xs,.int _ h=>sz'=sz∧0≤h∧h≤xs.length∧k d (.view sz (xs.take h.toNat))
   | .slc id sz' m,.int _ h=>sz'=sz∧(match H[id]? with | some (.arr _ _ _)=>0≤h∧h≤m∧k d (.sub id sz 0 h.toNat) | _=>False)
   | .sub id sz' off m,.int _ h=>sz'=sz∧(match H[id]? with | some (.arr _ _ _)=>0≤h∧h≤m∧k d (.sub id sz off h.toNat) | _=>False)
   | _,_=>False
 | .pre d sz x none=>match mv fr x with
   | .view sz' xs=>sz'=sz∧k d (.view sz xs)
   | .slc id sz' m=>sz'=sz∧(match H[id]? with | some (.arr _ _ _)=>k d (.slc id sz m) | _=>False)
   | _=>False
 | .pre3 d sz x hi mx=>match mv fr x,mv fr hi,mv fr mx with
   | .view sz' xs,.int _ h,.int _ q=>sz'=sz∧0≤h∧h=q∧h≤xs.length∧k d (.full sz (xs.take h.toNat))
   | _,_,_=>False
 | .len d x=>match mv fr x with
   | .view _ xs=>(xs.length≤maxLen→k d (.int .i64 xs.length))
   | .raw (.slice none 0 0)=>k d (.int .i64 0)
   | .slc id _ m=>match H[id]? with | some (.arr _ _ _)=>(m≤maxLen→k d (.int .i64 m)) | _=>False
   | .sub id _ _ m=>match H[id]? with | some (.arr _ _ _)=>(m≤maxLen→k d (.int .i64 m)) | _=>False
   | _=>False
 | .slen d x=>match mv fr x with
   | .str s=>k d (.int .i64 s.size)
   | _=>False
 | .mlen d x=>match mv fr x with
   | .mview ks vs=>k d (.int .i64 ks.length)
   | .mp id=>match H[id]? with | some (.map ks _ _ _)=>k d (.int .i64 ks.length) | _=>False
   | _=>False
 | .look d ok kd z m x=>match mv fr m with
   | .mp id=>match H[id]? with | some (.map ks vs _ _)=>optP ((look kd z ks vs (mv fr x)).map (lookA ok)) (k d) | _=>False
   | .mview ks vs=>optP ((look kd z ks vs (mv fr x)).map (lookA ok)) (k d)
   | .raw (.map none)=>optP ((look kd z [] [] (mv fr x)).map (lookA ok)) (k d)
   | _=>False
 | .ent d it=>match mv fr it with
   | .itr id=>match H[id]? with
     | some (.mit (some mid) since seen last)=>match H[mid]? with
       | some (.map ks vs bs c)=>c=last∧∃ (i b:Nat) (kx vx:AV),seen.getLast?=some b∧bs[i]?=some b∧ks[i]?=some kx∧vs[i]?=some vx∧k d (.tup [kx,vx])
       | _=>False
     | _=>False
   | _=>False
def eiW (P:Program) (fr:List (Nat × AV)) (H:List AObj) (k:List (Nat × AV)→List AObj→Prop):EI→Prop
 | .alloc d z=>k ((d,.op H.length 0)::fr) (H++[.box z])
 | .box d x=>match cellsO (mv fr x) with
   | some cs=>k ((d,.op H.length 0)::fr) (H++[.box cs])
   | none=>False
 | .store size agg p x=>match cellsO (mv fr x),mv fr p with
   | some cs,.op id off=>match H[id]? with
     | some (.box bs)=>cs.length=size∧off+size≤bs.length∧k fr (H.set id (.box (setAt bs off cs)))
     | _=>False
   | some cs,.ep id sz n off=>match H[id]? with
     | some (.arr E' sz' xs)=>match xs[n]? with
       | some (.agg bs)=>sz=sz'∧cs.length=size∧off+size≤bs.length∧k fr (H.set id (.arr E' sz' (xs.set n (.agg (setAt bs off cs)))))
       | some _=>sz=sz'∧cs.length=size∧size=1∧off=0∧sz=1∧k fr (H.set id (.arr E' sz' (xs.set n (mv fr x))))
       | none=>False
     | _=>False
   | _,_=>False
 | .mkmap d=>k ((d,.mp H.length)::fr) (H++[.map [] [] [] 0])
 | .mk d e sz bytes z l c=>match mv fr l,mv fr c with
   | .int .i64 n,.int .i64 m=>0<sz∧0≤n∧n≤m∧m≤9223372036854775807∧bytes * m≤281474976710656∧k ((d,.slc H.length sz n.toNat)::fr) (H++[.arr e sz (List.replicate n.toNat z)])
   | _,_=>False
 | .app d e sz bytes x y=>match mv fr x,srcOf H sz (mv fr y) with
   | .slc id sz' n,some ys=>match H[id]? with
     | some (.arr E' sz'' xs)=>E'=e∧sz''=sz∧sz'=sz∧n=xs.length∧0<sz∧xs.length+ys.length≤maxLen∧(xs.length+ys.length) * bytes≤140737488355328 ∧
        k ((d,.slc H.length sz (xs.length+ys.length))::fr) (H.set id .dead++[.arr e sz (xs++ys)])
     | _=>False
   | .sub id sz' off n,some ys=>match H[id]? with
     | some (.arr E' sz'' xs)=>E'=e∧sz''=sz∧sz'=sz∧off=0∧n≤xs.length∧0<sz∧n+ys.length≤maxLen∧(n+ys.length) * bytes≤140737488355328 ∧
        (k ((d,.slc H.length sz (n+ys.length))::fr) (H.set id .dead++[.arr e sz (xs.take n++ys)])∨(n+ys.length≤xs.length∧k ((d,.sub id sz 0 (n+ys.length))::fr) (H.set id (.arr e sz (setAt xs n ys)))))
     | _=>False
   | .raw v,some ys=>isNilSlice v=true∧0<sz∧ys.length≤maxLen∧ys.length * bytes≤140737488355328∧k ((d,.slc H.length sz ys.length)::fr) (H++[.arr e sz ys])
   | .full sz' xs,some ys=>sz'=sz∧scL 0 ys=true∧0<sz∧xs.length+ys.length≤maxLen∧(xs.length+ys.length) * bytes≤140737488355328∧k ((d,.view sz (xs++ys))::fr) H
   | _,_=>False
 | .call d f args=>ACalls P f (args.map (mv fr)) H fun r H'=>k (match d with | some d=>(d,r)::fr | none=>fr) H'
 | .callv d f args=>match mv fr f with
   | .fn (.func g) first caps=>ACalls P g (first++args.map (mv fr)++caps) H fun r H'=>k (match d with | some d=>(d,r)::fr | none=>fr) H'
   | .yld id=>AYield P id (args.map (mv fr)) H fun r H'=>k (match d with | some d=>(d,r)::fr | none=>fr) H'
   | _=>False
 | .mkl d e sz n z parts=>match fillE sz (List.replicate n z) (parts.map fun p=>(p.1,mv fr p.2)) with
   | some xs=>0<sz∧n * sz≤16777216∧(k ((d,.slc H.length sz n)::fr) (H++[.arr e sz xs])∨(n≠0∧scL 0 xs=true∧k ((d,.view sz xs)::fr) H))
   | none=>False
 | .mput kd m x v=>match mv fr m with
   | .mp id=>match H[id]? with
     | some (.map ks vs bs c)=>match putK kd ks vs bs c (mv fr x) (mv fr v) with
       | some o=>k fr (H.set id o)
       | none=>False
     | _=>False
   | _=>False
 | .mdel d kd m x=>match mv fr m with
   | .mp id=>match H[id]? with
     | some (.map ks vs bs c)=>match delK kd ks vs bs c (mv fr x) with
       | some o=>k (match d with | some d=>(d,.tup [])::fr | none=>fr) (H.set id o)
       | none=>False
     | _=>False
   | _=>False
 | .clr d sz z x=>match mv fr x with
   | .slc id sz' n=>match H[id]? with
     | some (.arr E' sz'' xs)=>sz'=sz∧sz''=sz∧n≤xs.length∧k (match d with | some d=>(d,.tup [])::fr | none=>fr) (H.set id (.arr E' sz (setAt xs 0 (List.replicate n z))))
     | _=>False
   | .sub id sz' off n=>match H[id]? with
     | some (.arr E' sz'' xs)=>sz'=sz∧sz''=sz∧off+n≤xs.length∧k (match d with | some d=>(d,.tup [])::fr | none=>fr) (H.set id (.arr E' sz (setAt xs off (List.replicate n z))))
     | _=>False
   | _=>False
 | .die=>False
 | .rng d m=>match mv fr m with
   | .mp id=>match H[id]? with
     | some (.map _ _ _ c)=>k ((d,.itr H.length)::fr) (H++[.mit (some id) c [] c])
     | _=>False
   | .raw (.map none)=>k ((d,.itr H.length)::fr) (H++[.mit none 0 [] 0])
   | _=>False
 | .nxt d it=>match mv fr it with
   | .itr id=>match H[id]? with
     | some (.mit none _ _ _)=>k ((d,.tup [.bool false])::fr) H
     | some (.mit (some mid) since seen last)=>match H[mid]? with
       | some (.map ks vs bs c)=>(∀ b ∈ bs,b<since)∧since≤last∧((∀ b ∈ bs,b ∈ seen)→k ((d,.tup [.bool false])::fr) H) ∧
          ∀ (i b:Nat) (kx vx:AV),bs[i]?=some b→b ∉ seen→ks[i]?=some kx→vs[i]?=some vx→k ((d,.tup [.bool true,kx,vx])::fr) (H.set id (.mit (some mid) since (seen++[b]) c))
       | _=>False
     | _=>False
   | _=>False
def miW (P:Program) (fr:List (Nat × AV)) (H:List AObj) (k:List (Nat × AV)→List AObj→Prop):MI→Prop
 | .v i=>match viV fr H i with | some (d,x)=>k ((d,x)::fr) H | none=>False
 | .p i=>piP fr H (fun d x=>k ((d,x)::fr) H) i
 | .e i=>eiW P fr H k i
def dstOfI:MI→Option Nat
 | .v i=>match i with | .mov d _ | .pick d _ _ _ | .load d _ _ _ | .gld d _ | .nil d _ | .fld d _ _ | .get d _ _ _ _ | .bin d _ _ _ _ | .eq d _ _ _ _ | .not d _ | .neg d _ | .conv d _ _ | .mki d _ _ | .fn d _ _ _ | .ext d _ _ | .max d _ | .min d _ | .build d _ _=>some d
 | .p i=>match i with | .idx d _ _ _ | .aidx d _ _ _ _ | .aget d _ _ _ _ _ | .sget d _ _ | .quo d _ _ | .rem d _ _ | .shl d _ _ | .shr d _ _ | .cut d _ _ _ _ | .pre d _ _ _ | .pre3 d _ _ _ _ | .len d _ | .slen d _ | .mlen d _ | .look d _ _ _ _ _ | .ent d _=>some d
 | .e i=>match i with | .alloc d _ | .box d _ | .mkmap d | .mk d _ _ _ _ _ _ | .app d _ _ _ _ _=>some d | .mkl d _ _ _ _ _ | .rng d _ | .nxt d _=>some d | .mdel d _ _ _ | .clr d _ _ _=>d | .mput _ _ _ _=>none | .call d _ _ | .callv d _ _=>d | .store _ _ _ _ | .die=>none
def putO (fr:List (Nat × AV)) (d:Option Nat) (x:AV):List (Nat × AV):=match d with | some d=>(d,x)::fr | none=>fr
def mopsW (P:Program):List (Option (Nat × Bool) × MI)→(List (Nat × AV)→List AObj→Prop)→List (Nat × AV)→List AObj→Prop
 | [],K,fr,H=>K fr H
 | (none,i)::r,K,fr,H=>miW P fr H (mopsW P r K) i
 | (some (t,want),i)::r,K,fr,H=>match get fr t with
   | .bool b=>(b=want→miW P ((t,.bool want)::fr) H (mopsW P r K) i)∧(b = !want→mopsW P r K (putO ((t,.bool !want)::fr) (dstOfI i) (.tup [])) H)
   | .tup []=>mopsW P r K (putO fr (dstOfI i) (.tup [])) H
   | _=>False
def guardW (g:Option (Nat × Bool)) (i:MI) (fr0 fr:List (Nat × AV)) (yes no:List (Nat × AV)→List (Nat × AV)→Prop):Prop:=match g with
 | none=>yes fr0 fr
 | some (t,want)=>match get fr t with
   | .bool b=>(b=want→yes ((t,.bool want)::fr0) ((t,.bool want)::fr))∧(b = !want→no (putO ((t,.bool !want)::fr0) (dstOfI i) (.tup [])) (putO ((t,.bool !want)::fr) (dstOfI i) (.tup [])))
   | .tup []=>no (putO fr0 (dstOfI i) (.tup [])) (putO fr (dstOfI i) (.tup []))
   | _=>False
def pureW (L:List Nat) (fr:List (Nat × AV)) (H:List AObj) (k:Nat→AV→Prop):MI→Prop
 | .v i=>match viV fr (if readsV i then hide L H else H) i with | some (d,x)=>k d x | none=>False
 | .p i=>(readsP i=true→L=[])∧piP fr H k i
 | .e _=>False
def wrote (fr:List (Nat × AV)):EI→List Nat
 | .store _ _ p _=>match mv fr p with | .op id _ | .ep id _ _ _=>[id] | _=>[]
 | .app _ _ _ _ x _=>match mv fr x with | .slc id _ _ | .sub id _ _ _=>[id] | _=>[]
 | .mput _ m _ _=>match mv fr m with | .mp id=>[id] | _=>[]
 | .mdel _ _ m _=>match mv fr m with | .mp id=>[id] | _=>[]
 | .clr _ _ _ x=>match mv fr x with | .slc id _ _ | .sub id _ _ _=>[id] | _=>[]
 | .nxt _ it=>match mv fr it with | .itr id=>[id] | _=>[]
 | _=>[]
def callOk (n0:Nat) (L:List Nat) (H:List AObj) (ids:List Nat):Prop:=(∀ id ∈ ids,id ∈ L∨n0≤id)∧(∀ id ∈ ids,id<H.length)∧ids.Nodup
theorem callOk_nil {n0:Nat} {L:List Nat} {H:List AObj}:callOk n0 L H []:=⟨fun _ h=>by simp at h,fun _ h=>by simp at h,.nil⟩
def altW (P:Program) (n0:Nat) (L:List Nat) (fr:List (Nat × AV)) (H:List AObj) (k:List (Nat × AV)→List AObj→Prop):MI→Prop
 | .v i=>miW P fr H k (.v i)
 | .p i=>miW P fr H k (.p i)
 | .e i=>match i with
   | .call d f args=>∃ ids bor Q',callOk n0 L H ids∧ACalls P f ((args.map (mv fr)).map (pa H ids bor 8)) (pH H ids bor 8) Q'∧∀ r H',Q' r H'→(bor=true→nov r=true∧H'.all novO=true)∧k (putO fr d (ren (rho ids H.length) r)) (merge (fun o=>o) H ids (H'.map (renO (rho ids H.length))))
   | .callv d f args=>match mv fr f with
     | .fn (.func g) first caps=>∃ ids bor Q',callOk n0 L H ids∧ACalls P g ((first++args.map (mv fr)++caps).map (pa H ids bor 8)) (pH H ids bor 8) Q'∧∀ r H',Q' r H'→(bor=true→nov r=true∧H'.all novO=true)∧k (putO fr d (ren (rho ids H.length) r)) (merge (fun o=>o) H ids (H'.map (renO (rho ids H.length))))
     | _=>False
   | i=>(∀ id ∈ wrote fr i,id ∈ L∨n0≤id)∧eiW P fr H k i
def anyW (P:Program) (L:List Nat) (K:List (Nat × AV)→List AObj→Prop):AT→List AObj→List (Nat × AV)→List (Nat × AV)→List AObj→Prop
 | .done,_,_,fr,H=>K fr H
 | .pure0 g i t,H0,fr0,fr,H=>guardW g i fr0 fr (fun fr0 fr=>pureW L fr0 H0 (fun d x=>anyW P L K t H0 ((d,x)::fr0) ((d,x)::fr) H) i) (fun fr0 fr=>anyW P L K t H0 fr0 fr H)
 | .pure1 g i t,H0,fr0,fr,H=>guardW g i fr0 fr (fun fr0 fr=>readsI i=false∧pureW [] fr H (fun d x=>anyW P L K t H0 ((d,.junk)::fr0) ((d,x)::fr) H) i) (fun fr0 fr=>anyW P L K t H0 fr0 fr H)
 | .alt g i t rest,H0,fr0,fr,H=>guardW g i fr0 fr (fun fr0 fr=>altW P H0.length L fr H (fun fr' H'=>anyW P L K t H0 (putO fr0 (dstOfI i) .junk) fr' H') i) (fun fr0 fr=>anyW P L K t H0 fr0 fr H)∧anyW P L K rest H0 fr0 fr H
 | .base t,H0,_,fr,H=>∃ L':List Nat,(∀ id ∈ L',id ∈ L∨H0.length≤id)∧anyW P L' K t H fr fr H
 | .stop,_,_,_,_=>True
def zipPut:List Tmp→List AV→List (Nat × AV)→List (Nat × AV)
 | p::ps,x::xs,fr=>zipPut ps xs ((p,x)::fr)
 | _,_,fr=>fr
def roundQ (m:Nat) (N:FN) (id:Nat) (o:LoopState→Option Code→AObj) (Q:AV→List AObj→Prop) (e:Exit) (s:AS):Prop :=
 ∃ H',Ent m N s ⟨[],H'⟩∧H'[id]?=some (o .busy none)∧(match e with
   | .normal=>Q (.bool true) (H'.set id (o .ready none))
   | .ret=>Q (.bool false) (H'.set id (o .done (some .ret)))
   | .exit j=>Q (.bool false) (H'.set id (o .done (some (.exit j))))
   | _=>False)
def rngQ (m:Nat) (N:FN) (k:Nat) (fn:FuncId) (ps:Array Tmp) (as bd:Code) (Q:Exit→AS→Prop) (fr:List (Nat × AV)) (H':List AObj):Prop :=
 ∃ st pd fr2,H'[k]?=some (.loop st pd fr2 N.n fn ps as bd)∧st≠.busy∧∃ s',Ent m N ⟨fr,H'.set k .lost⟩ s'∧(match pd with
   | none=>Q .normal s'
   | some .ret=>Q .ret s'
   | some (.exit j)=>Q (.exit j) s'
   | _=>False)
def MW (P:Program) (m:Nat) (N:FN):MC→(Exit→AS→Prop)→AS→Prop
 | .skip,Q,s=>Q .normal s
 | .ret,Q,s=>Q .ret s
 | .exit id,Q,s=>Q (.exit id) s
 | .seq a b,Q,s=>MW P m N a (seqQ (MW P m N b Q) Q) s
 | .cond t x y,Q,s=>match get s.fr t with
   | .bool b=>(b=true→MW P m N x Q ⟨(t,.bool true)::s.fr,s.H⟩)∧(b=false→MW P m N y Q ⟨(t,.bool false)::s.fr,s.H⟩)
   | _=>False
 | .block id c,Q,s=>MW P m N c (blockQ id Q) s
 | .loop c,Q,s=>Loop m N (MW P m N c) Q s
 | .ops l,Q,s=>mopsW P l (fun fr H=>Q .normal ⟨fr,H⟩) s.fr s.H
 | .any false t,Q,s=>∃ L,anyW P L (fun fr H=>Q .normal ⟨fr,H⟩) t s.H s.fr s.fr s.H
 | .any true t,Q,s=>∃ L,anyW P L (fun fr H=>∃ s',Ent m N ⟨fr,H⟩ s'∧Q .normal s') t s.H s.fr s.fr s.H
 | .rngf f ps x y,Q,s=>N.ro=none∧∃ fr',(∀ t,get fr' t=.junk∨get fr' t=get s.fr t)∧∀ (fn:FuncId) (as bd:Code),
    (∀ (id:Nat) (fr2:List (Nat × AV)) (args:List AV) (H:List AObj) (Q2:AV→List AObj→Prop),H[id]?=some (.loop .ready none fr2 N.n fn ps as bd)→args.length=ps.size →
      (∀ N2:FN,N2.n=N.n→MW P H.length N2 x (fun e s=>match e with
        | .normal=>s.H[id]?=some (.loop .ready none fr2 N.n fn ps as bd)∧MW P H.length N2 y (roundQ H.length N2 id (fun st pd=>.loop st pd fr2 N.n fn ps as bd) Q2) ⟨s.fr,s.H.set id (.loop .busy none fr2 N.n fn ps as bd)⟩
        | _=>False) ⟨zipPut ps.toList args fr2,H⟩)→AYield P id args H Q2) →
    match mv s.fr f with
    | .fn (.func g) first caps=>ACalls P g (first++[.yld s.H.length]++caps) (s.H++[.loop .ready none fr' N.n fn ps as bd]) (fun _ H'=>rngQ m N s.H.length fn ps as bd Q s.fr H')
    | _=>False
end Go.Al
namespace Go.Al
theorem splice_list (off:Nat) (v:Array Value) (cells:Array Value) (h:off+v.size≤cells.size) :
 (v.zipIdx.foldl (fun cs (x:Value × Nat)=>cs.setIfInBounds (off+x.2) x.1) cells).toList=cells.toList.take off++v.toList++cells.toList.drop (off+v.size):=by
 have e:v.zipIdx.foldl (fun cs (x:Value × Nat)=>cs.setIfInBounds (off+x.2) x.1) cells=(v.toList.zipIdx 0).foldl (fun cs (x:Value × Nat)=>cs.setIfInBounds (off+x.2) x.1) cells:=by
  rw [← Array.foldl_toList];simp
 rw [e]
 obtain ⟨h1,h2⟩:=Great.foldl_set off v.toList 0 cells
 apply List.ext_getElem?
 intro k
 rw [Array.getElem?_toList,h2 k]
 simp only [Nat.add_zero,Array.length_toList]
 by_cases hk:k<off
 · rw [if_neg (by omega),List.append_assoc,List.getElem?_append_left (by simp;omega),List.getElem?_take,if_pos hk]
   simp
 · by_cases hk2:k<off+v.size
   · rw [if_pos (by omega),List.getElem?_append_left (by simp;omega),List.getElem?_append_right (by simp;omega)]
     simp [Nat.min_eq_left (show off≤cells.size by omega)]
   · rw [if_neg (by omega),List.getElem?_append_right (by simp;omega)]
     simp only [List.length_append,List.length_take,Array.length_toList,List.getElem?_drop,Array.getElem?_toList]
     congr 1
     omega
theorem take_splice {α:Type} (L ns:List α) (p q:Nat) (h:p+ns.length≤q) (hq:q≤L.length):(L.take p++ns++L.drop (p+ns.length)).take q=(L.take q).take p++ns++(L.take q).drop (p+ns.length):=by
 have h1:(L.take p).length=p:=by simp;omega
 have h2:(L.take p++ns).length=p+ns.length:=by simp;omega
 rw [List.take_append,h2,List.take_of_length_le (by omega),List.take_take,Nat.min_eq_left (by omega),List.drop_take]
theorem splice_mid {α:Type} {A B C ns:List α} {p off:Nat} (hA:A.length=p) (hB:off+ns.length≤B.length) :
 A++(B.take off++ns++B.drop (off+ns.length)++C)=(A++(B++C)).take (p+off)++ns++(A++(B++C)).drop (p+off+ns.length):=by
 subst hA
 rw [List.take_length_add_append,Nat.add_assoc,List.drop_length_add_append,List.take_append_of_le_length (by omega),List.drop_append_of_le_length (by omega)]
 simp [List.append_assoc]
theorem flat_splice {sz:Nat} {vs:List Value} (hs:∀ u ∈ vs,okEl sz u) {n off:Nat} {u u':Value} {ns:List Value} (hu:vs[n]?=some u) (hu':u'.cells.toList=u.cells.toList.take off++ns++u.cells.toList.drop (off+ns.length)) (hfit:off+ns.length≤sz) :
 flat (vs.set n u')=(flat vs).take (n * sz+off)++ns++(flat vs).drop (n * sz+off+ns.length):=by
 have hn:=(List.getElem?_eq_some_iff.1 hu).1
 have hun:vs[n]=u:=(List.getElem?_eq_some_iff.1 hu).2
 have hul:u.cells.toList.length=sz:=by have:=(hs u (List.mem_of_getElem? hu)).1;simpa using this
 have e1:vs=vs.take n++u::vs.drop (n+1):=by rw [← hun];simp
 have e2:vs.set n u'=vs.take n++u'::vs.drop (n+1):=by rw [List.set_eq_take_append_cons_drop,if_pos hn]
 have hl:(flat (vs.take n)).length=n * sz:=by
  rw [flat_length fun u hu=>hs u (List.mem_of_mem_take hu)];simp;rw [Nat.min_eq_left (by omega)]
 have e3:flat vs=flat (vs.take n)++(u.cells.toList++flat (vs.drop (n+1))):=by conv=>lhs;rw [e1];rw [flat_append,flat_cons]
 rw [e2,flat_append,flat_cons,hu',e3]
 exact splice_mid hl (by omega)
section
variable {γ:Gm} {σ:Sg} {fr:List (Nat × AV)} {a:Act}
theorem fill_spec (hf:RepF γ σ fr a.tmps) {place:Nat→Option (Nat × Nat)}:∀ (parts:List (Nat × Operand)) (ps:List (Nat × Nat × MV)) (cs:List AV) (cells:Array Value) (y:AV),
 cParts place parts=some ps→RepVs γ σ cs cells.toList→(∀ u ∈ cells.toList,onec u)→fillA cs (ps.map fun p=>(p.1,p.2.1,mv fr p.2.2))=some y →
 ∃ (ys:List AV) (r:Array Value),y=.agg ys∧Instr.fill place cells (parts.map fun p=>(p.1,a.eval p.2))=some r∧RepVs γ σ ys r.toList∧∀ u ∈ r.toList,onec u
 | [],ps,cs,cells,y,hc,hr,h1,hy=>by
   simp only [cParts,Option.some.injEq] at hc
   subst hc
   simp only [List.map_nil,fillA,Option.some.injEq] at hy
   exact ⟨cs,cells,hy.symm,rfl,hr,h1⟩
 | (i,x)::parts,ps,cs,cells,y,hc,hr,h1,hy=>by
   simp only [cParts] at hc
   split at hc
   · rename_i off size x' ps' hp hx hps
     cases hc
     simp only [List.map_cons,fillA] at hy
     split at hy
     · rename_i us hus
       split at hy
       · rename_i hfit
         obtain ⟨h2,h3⟩:=cellsO_spec (repV_ev hf x) (by rw [cV_ev hx];exact hus)
         have hl:=h2.length
         have hcl:=hr.length
         simp only [Array.length_toList] at hl hcl
         have hsp:=splice_list off (a.eval x).cells cells (by omega)
         obtain ⟨ys,r,e1,e2,e3,e4⟩:=fill_spec hf parts ps' _ ((a.eval x).cells.zipIdx.foldl (fun cs (x:Value × Nat)=>cs.setIfInBounds (off+x.2) x.1) cells) y hps (by rw [hsp];exact repVs_setAt hr h2 off) (fun u hu=>by
          rw [hsp] at hu
          simp only [List.mem_append] at hu
          rcases hu with (hu | hu) | hu
          · exact h1 u (List.mem_of_mem_take hu)
          · exact h3 u hu
          · exact h1 u (List.mem_of_mem_drop hu)) hy
         refine ⟨ys,r,e1,?_,e3,e4⟩
         simp only [List.map_cons]
         unfold Instr.fill
         simp only [hp]
         rw [if_neg (by simp;omega)]
         exact e2
       · cases hy
     · cases hy
   · cases hc
theorem places_run {E:Env} (hE:E.ok):∀ (fs':List Field) (pl:List (Nat × Nat)),placesOf E (fs'.map fun f=>(f.offset,f.type))=some pl→fs'.mapM (fun f=>(E.P.info? f.type).map fun i=>(f.offset,i.size))=some pl
 | [],pl,h=>by simp [placesOf] at h;subst h;rfl
 | f::fs',pl,h=>by
   simp only [List.map_cons,placesOf] at h
   split at h
   · rename_i i l hi hl
     cases h
     obtain ⟨inf,_,h1,h2,_⟩:=(hE _ _ hi).info
     simp [List.mapM_cons,h1,h2,places_run hE fs' l hl]
   · cases h
theorem zero_info {E:Env} {T:TypeId} {i:TInfo} (h:InfoOk E.P T i):∃ inf z,E.P.info? T=some inf∧inf.zero=some z∧inf.size=i.size∧z.cells.toList=i.zero∧∀ u ∈ i.zero,onec u:=by
 obtain ⟨inf,z,h1,h2,h3,h4,h5,h6,_⟩:=h.info
 exact ⟨inf,z,h1,h4,h2,h5,h6⟩
theorem build_struct {E:Env} (hE:E.ok) (hf:RepF γ σ fr a.tmps) {T:TypeId} {ti:TInfo} {fs:List (Nat × TypeId)} {pl:List (Nat × Nat)} {parts:Array (Nat × Operand)} {ps:List (Nat × Nat × MV)} {y:AV} (hT:E.TI T=some ti) (hd:ti.desc=.struct fs)
 (hpl:placesOf E fs=some pl) (hc:cParts (pl[·]?) parts.toList=some ps) (hy:fillA (ti.zero.map ofV) (ps.map fun p=>(p.1,p.2.1,mv fr p.2.2))=some y) :
 ∃ u,RepV γ σ y u∧∀ w',(Instr.build T (parts.map fun p=>(p.1,a.eval p.2))).run E.P w'=.ok u w':=by
 obtain ⟨inf,z,h1,h2,_,h3,h4⟩:=zero_info (hE T ti hT)
 obtain ⟨fs',h5,rfl⟩:=(hE T ti hT).struct hd
 obtain ⟨ys,r,rfl,e2,e3,e4⟩:=fill_spec (a:=a) hf parts.toList ps (ti.zero.map ofV) z.cells y hc (by rw [h3];exact repVs_ofV _ _ _) (by rw [h3];exact h4) hy
 refine ⟨.agg r,⟨r.toList,by simp,e3,e4⟩,fun w'=>run_build w' T _ r ?_⟩
 unfold Program.built
 simp only [h1,h5,h2,places_run hE _ _ hpl]
 simpa using e2
theorem build_array {E:Env} (hE:E.ok) (hf:RepF γ σ fr a.tmps) {T e:TypeId} {ti ei:TInfo} {n:Nat} {parts:Array (Nat × Operand)} {ps:List (Nat × Nat × MV)} {y:AV} (hT:E.TI T=some ti) (hd:ti.desc=.array n e)
 (he:E.TI e=some ei) (hc:cParts (fun i=>some (i * ei.size,ei.size)) parts.toList=some ps) (hy:fillA (ti.zero.map ofV) (ps.map fun p=>(p.1,p.2.1,mv fr p.2.2))=some y) :
 ∃ u,RepV γ σ y u∧∀ w',(Instr.build T (parts.map fun p=>(p.1,a.eval p.2))).run E.P w'=.ok u w':=by
 obtain ⟨inf,z,h1,h2,_,h3,h4⟩:=zero_info (hE T ti hT)
 obtain ⟨inf',_,h6,_,h7,_⟩:=zero_info (hE e ei he)
 have h5:=(hE T ti hT).array hd
 obtain ⟨ys,r,rfl,e2,e3,e4⟩:=fill_spec (a:=a) hf parts.toList ps (ti.zero.map ofV) z.cells y hc (by rw [h3];exact repVs_ofV _ _ _) (by rw [h3];exact h4) hy
 refine ⟨.agg r,⟨r.toList,by simp,e3,e4⟩,fun w'=>run_build w' T _ r ?_⟩
 unfold Program.built
 simp only [h1,h5,h2,h6,h7]
 simpa using e2
theorem fillE_spec (hf:RepF γ σ fr a.tmps) {sz:Nat}:∀ (parts:List (Nat × Operand)) (ps:List (Nat × MV)) (xs:List AV) (vs:List Value) (cells:Array Value) (ys:List AV),
 cParts1 parts=some ps→RepVs γ σ xs vs→(∀ u ∈ vs,okEl sz u)→cells.toList=flat vs→fillE sz xs (ps.map fun p=>(p.1,mv fr p.2))=some ys →
 ∃ (us:List Value) (r:Array Value),Instr.fill (fun i=>some (i * sz,sz)) cells (parts.map fun p=>(p.1,a.eval p.2))=some r∧RepVs γ σ ys us∧(∀ u ∈ us,okEl sz u)∧r.toList=flat us∧ys.length=xs.length
 | [],ps,xs,vs,cells,ys,hc,hr,h1,hl,hy=>by
   simp only [cParts1,Option.some.injEq] at hc
   subst hc
   simp only [List.map_nil,fillE,Option.some.injEq] at hy
   subst hy
   exact ⟨vs,cells,rfl,hr,h1,hl,rfl⟩
 | (i,x)::parts,ps,xs,vs,cells,ys,hc,hr,h1,hl,hy=>by
   simp only [cParts1] at hc
   split at hc
   · rename_i x' ps' hx hps
     cases hc
     simp only [List.map_cons,fillE] at hy
     split at hy
     · rename_i us hus
       split at hy
       · rename_i hfit
         obtain ⟨h2,h3⟩:=cellsO_spec (repV_ev hf x) (by rw [cV_ev hx];exact hus)
         have hcl:=h2.length
         simp only [Array.length_toList] at hcl
         have hvl:=hr.length
         have hfl:=flat_length h1
         have hsz:cells.size=vs.length * sz:=by rw [← hfl,← hl];simp
         have hin:i * sz+sz≤vs.length * sz:=by
          have:(i+1) * sz≤vs.length * sz:=Nat.mul_le_mul_right _ (by omega)
          rw [Nat.add_mul,Nat.one_mul] at this
          exact this
         have hsp:=splice_list (i * sz) (a.eval x).cells cells (by omega)
         obtain ⟨u,hu⟩:∃ u,vs[i]?=some u:=⟨vs[i]'(by omega),List.getElem?_eq_getElem _⟩
         have hul:=(h1 u (List.mem_of_getElem? hu)).1
         have hset:flat (vs.set i (a.eval x))=(flat vs).take (i * sz)++(a.eval x).cells.toList++(flat vs).drop (i * sz+(a.eval x).cells.size):=by
          have:=flat_splice h1 (off:=0) (u':=a.eval x) (ns:=(a.eval x).cells.toList) hu (by rw [List.drop_eq_nil_of_le (by simp;omega)];simp) (by simp;omega)
          simpa using this
         have hok:∀ z ∈ vs.set i (a.eval x),okEl sz z:=fun z hz=>by
          rcases List.mem_or_eq_of_mem_set hz with h | h
          · exact h1 z h
          · rw [h];exact ⟨by omega,h3⟩
         obtain ⟨us2,r,e1,e2,e3,e4,e5⟩:=fillE_spec hf parts ps' _ _ ((a.eval x).cells.zipIdx.foldl (fun cs (x:Value × Nat)=>cs.setIfInBounds (i * sz+x.2) x.1) cells) ys hps (RepVs.set (by rw [← cV_ev hx];exact repV_ev hf x) i hr) hok (by rw [hsp,hset,hl]) hy
         refine ⟨us2,r,?_,e2,e3,e4,by rw [e5];simp⟩
         simp only [List.map_cons]
         unfold Instr.fill
         simp only []
         rw [if_neg (by simp;omega)]
         exact e1
       · cases hy
     · cases hy
   · cases hc
end
end Go.Al
namespace Go.Al
section
variable {E:Env} {γ:Gm} {σ:Sg} {w:World} {H:List AObj} {fr:List (Nat × AV)} {a:Act} {m:Nat} {N:FN} {R:World→Prop}
theorem Yields.mono {o:Oper} {k k':AV→Prop} (h:Yields E γ σ R a o k) (hk:∀ x,k x→k' x):Yields E γ σ R a o k':=by
 obtain ⟨x,u,h1,h2,h3⟩:=h
 exact ⟨x,u,h1,hk x h2,h3⟩
theorem cOp_dst {o:Oper} {i:MI} (hc:cOp E o=some i):dstOfI i=o.dst:=by
 unfold cOp at hc
 split at hc <;> (try (repeat' split at hc)) <;> first
  | (cases hc;done)
  | (cases hc;simp_all [dstOfI];done)
  | (obtain ⟨y,hy,he⟩:=Option.map_eq_some_iff.1 hc;cases he;simp_all [dstOfI];done)
theorem bin_y (hE:E.ok) (hf:RepF γ σ fr a.tmps) {o:Oper} {op:BinOp} {T yT:TypeId} {p q:Operand} {p' q':MV} {d' d:Nat} {x:AV} (ho:o.op=.binOp op T p q yT) (hp:cV p=some p') (hq:cV q=some q')
 (hv:viV fr H (.bin d' op (match E.TI T with | some i=>i.desc == .bool | none=>false) p' q')=some (d,x)):d'=d∧Yields E γ σ R a o (· = x):=by
 simp only [viV] at hv
 split at hv
 · rename_i hx hy
   split at hv
   · rename_i hk
     subst hk
     obtain ⟨z,hz,he⟩:=Option.map_eq_some_iff.1 hv
     cases he
     exact ⟨rfl,y_int ho hf ((cV_ev hp).trans hx) ((cV_ev hq).trans hy) (by rw [hz];rfl)⟩
   · cases hv
 · rename_i hx hy
   cases hT:E.TI T with
   | none=>simp [hT] at hv
   | some ti =>
     simp only [hT] at hv
     split at hv
     · rename_i hb
       obtain ⟨z,hz,he⟩:=Option.map_eq_some_iff.1 hv
       cases he
       exact ⟨rfl,y_bool ho hE hf hT (by simpa using hb) ((cV_ev hp).trans hx) ((cV_ev hq).trans hy) (by rw [hz];rfl)⟩
     · cases hv
 · rename_i hx hy
   obtain ⟨z,hz,he⟩:=Option.map_eq_some_iff.1 hv
   cases he
   exact ⟨rfl,y_str ho hf ((cV_ev hp).trans hx) ((cV_ev hq).trans hy) (by rw [hz];rfl)⟩
 · cases hv
theorem eq_y (hE:E.ok) (hi:Inv γ σ w H) (hf:RepF γ σ fr a.tmps) {o:Oper} {op:BinOp} {T yT:TypeId} {p q:Operand} {p' q':MV} {d' d:Nat} {x:AV} {neg:Bool} {qt:EqT} (ho:o.op=.binOp op T p q yT) (hop:op=if neg then .neq else .eql) (hp:cV p=some p') (hq:cV q=some q') (he:eqOf E T=some qt)
 (hv:viV fr H (.eq d' neg qt p' q')=some (d,x)):d'=d∧Yields E γ σ R a o (· = x):=by
 simp only [viV] at hv
 obtain ⟨b,hb,hz⟩:=Option.map_eq_some_iff.1 hv
 cases hz
 exact ⟨rfl,y_eq ho hop hE hi hf he (by rw [cV_ev hp,cV_ev hq];exact hb) rfl⟩
theorem cOp_v (hE:E.ok) (hi:Inv γ σ w H) (hf:RepF γ σ fr a.tmps) {o:Oper} {i:VI} (hR:readsV i=true→∀ w',R w'→ExtL σ [] w w') (hc:cOp E o=some (.v i)) {d:Nat} {x:AV} (hv:viV fr H i=some (d,x)):o.dst=some d∧Yields E γ σ R a o (· = x):=by
 unfold cOp at hc
 split at hc
 case h_1 y d' ho hd =>
  obtain ⟨z,hz,he⟩:=Option.map_eq_some_iff.1 hc;cases he
  simp only [viV,Option.some.injEq,Prod.mk.injEq] at hv
  obtain ⟨rfl,rfl⟩:=hv
  exact ⟨hd,y_move (.inl ho) hf (cV_ev hz)⟩
 case h_2 y d' ho hd =>
  obtain ⟨z,hz,he⟩:=Option.map_eq_some_iff.1 hc;cases he
  simp only [viV,Option.some.injEq,Prod.mk.injEq] at hv
  obtain ⟨rfl,rfl⟩:=hv
  exact ⟨hd,y_move (.inr ho) hf (cV_ev hz)⟩
 case h_3 c p q d' ho hd =>
  split at hc
  · rename_i c' p' q' h1 h2 h3
    cases hc
    simp only [viV] at hv
    split at hv
    · rename_i hb
      cases hv
      exact ⟨hd,y_pick ho hf ((cV_ev h1).trans hb) (by simp [cV_ev h2])⟩
    · rename_i hb
      cases hv
      exact ⟨hd,y_pick ho hf ((cV_ev h1).trans hb) (by simp [cV_ev h3])⟩
    · cases hv
  · cases hc
 case h_4 T p d' ho hd =>
  split at hc
  · rename_i ti p' hT hp
    cases hc
    simp only [viV] at hv
    split at hv
    · rename_i cs hcs
      obtain ⟨y,hy,he⟩:=Option.map_eq_some_iff.1 hv
      cases he
      exact ⟨hd,y_load ho hE hi hf hT (L:=[]) (hR rfl) (by rw [cV_ev hp];exact hcs) (by rw [show loadA ti cs=some x from hy];rfl)⟩
    · cases hv
  · rename_i ti hT _
    split at hc
    · rename_i g
      split at hc
      · rename_i hh
        cases hc
        simp only [viV] at hv
        obtain ⟨y,hy,he⟩:=Option.map_eq_some_iff.1 hv
        cases he
        exact ⟨hd,y_gload ho hE hi hT hh.1 hy (L:=[]) (hR rfl) rfl⟩
      · cases hc
    · cases hc
  · cases hc
 case h_5 y d' ho hd =>
  obtain ⟨z,hz,he⟩:=Option.map_eq_some_iff.1 hc;cases he
  simp only [viV] at hv
  have hev:=cV_ev (fr:=fr) hz
  split at hv
  · rename_i hx
    cases hv
    exact ⟨hd,y_nilCheck ho hf (hev.trans hx) rfl fun v hv=>.inl (op_pointer hi (by rfl) hv)⟩
  · rename_i hx
    cases hv
    exact ⟨hd,y_nilCheck ho hf (hev.trans hx) rfl fun v hv=>.inl ⟨_,hv⟩⟩
  · rename_i hx
    split at hv
    · rename_i cs hH
      cases hv
      exact ⟨hd,y_nilCheck ho hf (hev.trans hx) rfl fun v hv=>.inl (op_pointer hi (cs:=cs.drop _) (by simp only [ptrCells,hH];rfl) hv)⟩
    · cases hv
  · rename_i hx
    split at hv
    · rename_i hH
      cases hv
      exact ⟨hd,y_nilCheck ho hf (hev.trans hx) rfl fun v hv=>.inl (ep_pointer hi hH hv)⟩
    · cases hv
  · rename_i hx
    cases hv
    refine ⟨hd,y_nilCheck ho hf (hev.trans hx) rfl fun v hv=>?_⟩
    obtain ⟨_,_,rfl,_⟩:=hv
    exact .inr ⟨_,_,_,rfl⟩
  · cases hv
 case h_6 T p f d' ho hd =>
  split at hc
  · rename_i ti p' hT hp
    split at hc
    · rename_i fs hds
      split at hc
      · rename_i off ty hfd
        split at hc
        · rename_i fi hfi
          split at hc
          · cases hc
          · rename_i hsz
            cases hc
            simp only [viV] at hv
            split at hv
            · rename_i cs hcs
              cases hv
              exact ⟨hd,y_fieldAddr ho hE hi hf hT hds hfd hfi hsz (by rw [cV_ev hp];exact hcs) (by rw [cV_ev hp])⟩
            · cases hv
        · cases hc
      · cases hc
    · cases hc
  · cases hc
 case h_7 T p f d' ho hd =>
  split at hc
  · rename_i ti p' hT hp
    split at hc
    · rename_i fs hds
      split at hc
      · rename_i off ty hfd
        split at hc
        · rename_i fi hfi
          cases hc
          simp only [viV] at hv
          split at hv
          · rename_i xs hxs
            obtain ⟨y,hy,he⟩:=Option.map_eq_some_iff.1 hv
            cases he
            exact ⟨hd,y_field ho hE hf hT hds hfd hfi ((cV_ev hp).trans hxs) (by rw [show partA fi xs off=some x from hy];rfl)⟩
          · cases hv
        · cases hc
      · cases hc
    · cases hc
  · cases hc
 case h_10 op T p q yT d' ho hd =>
  split at hc
  · rename_i p' q' hp hq
    split at hc
    · cases hc
    · cases hc
    · cases hc
    · cases hc
    · split at hc
      · rename_i qt he
        cases hc
        obtain ⟨rfl,hy⟩:=eq_y (R:=R) (a:=a) hE hi hf ho rfl hp hq he hv
        exact ⟨hd,hy⟩
      · cases hc
        obtain ⟨rfl,hy⟩:=bin_y (R:=R) (a:=a) hE hf ho hp hq hv
        exact ⟨hd,hy⟩
    · split at hc
      · rename_i qt he
        cases hc
        obtain ⟨rfl,hy⟩:=eq_y (R:=R) (a:=a) hE hi hf ho rfl hp hq he hv
        exact ⟨hd,hy⟩
      · cases hc
        obtain ⟨rfl,hy⟩:=bin_y (R:=R) (a:=a) hE hf ho hp hq hv
        exact ⟨hd,hy⟩
    · cases hc
      obtain ⟨rfl,hy⟩:=bin_y (R:=R) (a:=a) hE hf ho hp hq hv
      exact ⟨hd,hy⟩
  · cases hc
 case h_11 T y d' ho hd =>
  obtain ⟨z,hz,he⟩:=Option.map_eq_some_iff.1 hc;cases he
  simp only [viV] at hv
  split at hv
  · rename_i hx
    cases hv
    exact ⟨hd,y_not ho hf ((cV_ev hz).trans hx) rfl⟩
  · cases hv
 case h_12 T y d' ho hd =>
  obtain ⟨z,hz,he⟩:=Option.map_eq_some_iff.1 hc;cases he
  simp only [viV] at hv
  split at hv
  · rename_i hx
    cases hv
    exact ⟨hd,y_neg ho hf ((cV_ev hz).trans hx) rfl⟩
  · cases hv
 case h_13 S T y d' ho hd =>
  split at hc
  · rename_i si ti z hS hT hz
    split at hc
    · rename_i kt hkt
      cases hc
      simp only [viV] at hv
      split at hv
      · rename_i hx
        cases hv
        exact ⟨hd,y_convert ho hE hf hS hT ((cV_ev hz).trans hx) hkt rfl⟩
      · cases hv
    · cases hc
  · cases hc
 case h_14 T y d' ho hd =>
  split at hc
  · rename_i ti z hT hz
    split at hc
    · cases hc
    · rename_i hif
      cases hc
      simp only [viV] at hv
      cases hv
      exact ⟨hd,y_makeInterface ho hE hf hT hif (by rw [cV_ev hz])⟩
  · cases hc
 case h_15 f first caps d' ho hd =>
  split at hc
  · rename_i l1 l2 h1 h2
    cases hc
    simp only [viV] at hv
    cases hv
    exact ⟨hd,y_makeFunc ho hf (by rw [cVs_ev h1,cVs_ev h2])⟩
  · cases hc
 case h_16 t n d' ho hd =>
  obtain ⟨z,hz,he⟩:=Option.map_eq_some_iff.1 hc;cases he
  simp only [viV] at hv
  split at hv
  · rename_i xs hxs
    obtain ⟨y,hy,he⟩:=Option.map_eq_some_iff.1 hv
    cases he
    exact ⟨hd,y_extract ho hf ((cV_ev hz).trans hxs) (by rw [hy];rfl)⟩
  · cases hv
 case h_19 args ats d' ho hd =>
  obtain ⟨l,hl,he⟩:=Option.map_eq_some_iff.1 hc;cases he
  simp only [viV] at hv
  have hev:=cVs_ev (fr:=fr) hl
  split at hv
  · rename_i k1 p k2 q hargs
    cases hv
    have hv:=args_eval hf (hev.trans hargs)
    simp only [repVs_cons,repVs_nil,RepV,Array.toList_map] at hv
    obtain ⟨_,_,hv,rfl,_,_,rfl,rfl,rfl⟩:=hv
    refine ⟨hd,y_minmax (x:=.int k1 _) ho (.inl ⟨rfl,fun w'=>?_⟩) rfl rfl⟩
    simp [Builtin.max_,hv,Builtin.max2]
  · rename_i k1 p k2 q k3 r hargs
    cases hv
    have hv:=args_eval hf (hev.trans hargs)
    simp only [repVs_cons,repVs_nil,RepV,Array.toList_map] at hv
    obtain ⟨_,_,hv,rfl,_,_,rfl,rfl,_,_,rfl,rfl,rfl⟩:=hv
    refine ⟨hd,y_minmax (x:=.int k1 _) ho (.inl ⟨rfl,fun w'=>?_⟩) rfl rfl⟩
    simp [Builtin.max_,hv,Builtin.max2]
  · cases hv
 case h_20 args ats d' ho hd =>
  obtain ⟨l,hl,he⟩:=Option.map_eq_some_iff.1 hc;cases he
  simp only [viV] at hv
  have hev:=cVs_ev (fr:=fr) hl
  split at hv
  · rename_i k1 p k2 q hargs
    cases hv
    have hv:=args_eval hf (hev.trans hargs)
    simp only [repVs_cons,repVs_nil,RepV,Array.toList_map] at hv
    obtain ⟨_,_,hv,rfl,_,_,rfl,rfl,rfl⟩:=hv
    refine ⟨hd,y_minmax (x:=.int k1 _) ho (.inr ⟨rfl,fun w'=>?_⟩) rfl rfl⟩
    simp [Builtin.min_,hv,Builtin.min2]
  · rename_i k1 p k2 q k3 r hargs
    cases hv
    have hv:=args_eval hf (hev.trans hargs)
    simp only [repVs_cons,repVs_nil,RepV,Array.toList_map] at hv
    obtain ⟨_,_,hv,rfl,_,_,rfl,rfl,_,_,rfl,rfl,rfl⟩:=hv
    refine ⟨hd,y_minmax (x:=.int k1 _) ho (.inr ⟨rfl,fun w'=>?_⟩) rfl rfl⟩
    simp [Builtin.min_,hv,Builtin.min2]
  · cases hv
 case h_27 T parts d' ho hd =>
  split at hc
  · rename_i ti hT
    split at hc
    · rename_i fs hds
      split at hc
      · rename_i pl hpl
        obtain ⟨ps,hps,he⟩:=Option.map_eq_some_iff.1 hc;cases he
        simp only [viV] at hv
        obtain ⟨y,hy,he⟩:=Option.map_eq_some_iff.1 hv
        cases he
        obtain ⟨u,hu,hrun⟩:=build_struct hE hf hT hds hpl hps hy
        exact ⟨hd,.of hu rfl (by simp only [execOp,ho]) fun w' _=>hrun w'⟩
      · cases hc
    · rename_i n e hds
      split at hc
      · rename_i ei he'
        obtain ⟨ps,hps,he⟩:=Option.map_eq_some_iff.1 hc;cases he
        simp only [viV] at hv
        obtain ⟨y,hy,he⟩:=Option.map_eq_some_iff.1 hv
        cases he
        obtain ⟨u,hu,hrun⟩:=build_array hE hf hT hds he' hps hy
        exact ⟨hd,.of hu rfl (by simp only [execOp,ho]) fun w' _=>hrun w'⟩
      · cases hc
    · cases hc
  · cases hc
 all_goals (repeat' split at hc) <;> first | (cases hc;done) | (obtain ⟨y,hy,he⟩:=Option.map_eq_some_iff.1 hc;cases he;done)
theorem cOp_load (hE:E.ok) (hi:Inv γ σ w H) (hf:RepF γ σ fr a.tmps) {o:Oper} {d0 size:Nat} {agg:Bool} {p:MV} {L:List Nat} (hR:∀ w',R w'→ExtL σ L w w') (hc:cOp E o=some (.v (.load d0 agg size p))) {d:Nat} {x:AV} (hv:viV fr (hide L H) (.load d0 agg size p)=some (d,x)) :
 o.dst=some d∧Yields E γ σ R a o (· = x):=by
 unfold cOp at hc
 split at hc
 case h_4 T p d' ho hd =>
  split at hc
  · rename_i ti p' hT hp
    cases hc
    simp only [viV] at hv
    split at hv
    · rename_i cs hcs
      obtain ⟨y,hy,he⟩:=Option.map_eq_some_iff.1 hv
      cases he
      exact ⟨hd,y_load ho hE hi hf hT (L:=L) hR (by rw [cV_ev hp];exact hcs) (by rw [show loadA ti cs=some x from hy];rfl)⟩
    · cases hv
  · (repeat' split at hc) <;> cases hc
  · cases hc
 all_goals (repeat' split at hc) <;> first | (cases hc;done) | (obtain ⟨y,hy,he⟩:=Option.map_eq_some_iff.1 hc;cases he;done)
theorem cOp_gld (hE:E.ok) (hi:Inv γ σ w H) {o:Oper} {d0 g:Nat} {L:List Nat} (hR:∀ w',R w'→ExtL σ L w w') (hc:cOp E o=some (.v (.gld d0 g))) {d:Nat} {x:AV} (hv:viV fr (hide L H) (.gld d0 g)=some (d,x)) :
 o.dst=some d∧Yields E γ σ R a o (· = x):=by
 unfold cOp at hc
 split at hc
 case h_4 T p d' ho hd =>
  split at hc
  · cases hc
  · rename_i ti hT _
    split at hc
    · split at hc
      · rename_i hh
        cases hc
        simp only [viV] at hv
        obtain ⟨y,hy,he⟩:=Option.map_eq_some_iff.1 hv
        cases he
        exact ⟨hd,y_gload ho hE hi hT hh.1 hy (L:=L) hR rfl⟩
      · cases hc
    · cases hc
  · cases hc
 all_goals (repeat' split at hc) <;> first | (cases hc;done) | (obtain ⟨y,hy,he⟩:=Option.map_eq_some_iff.1 hc;cases he;done)
theorem y_slen {o:Oper} {k:AV→Prop} {args:Array Operand} {ats:Array TypeId} {T:TypeId} {x:Operand} {ti:TInfo} {s:ByteArray} (ho:o.op=.call { callee:=.builtin .len,args,argTypes:=ats }) (hE:E.ok) (hf:RepF γ σ fr a.tmps)
 (hT:ats[0]?=some T) (hx:args[0]?=some x) (hti:E.TI T=some ti) (hd:ti.desc=.string) (hs:ev fr x=.str s) (hk:k (.int .i64 s.size)):Yields E γ σ R a o k:=by
 have hv:=repV_ev hf x
 rw [hs] at hv
 exact y_len ho hT hx hk fun w' _=>len_str_run hE hT hx hti hd hv w'
theorem y_len_view {o:Oper} {k:AV→Prop} {args:Array Operand} {ats:Array TypeId} {T e:TypeId} {x:Operand} {ti:TInfo} {sz:Nat} {xs:List AV} (ho:o.op=.call { callee:=.builtin .len,args,argTypes:=ats }) (hE:E.ok) (hf:RepF γ σ fr a.tmps)
 (hT:ats[0]?=some T) (hx:args[0]?=some x) (hti:E.TI T=some ti) (hd:ti.desc=.slice e) (hs:ev fr x=.view sz xs) (hk:xs.length≤maxLen→k (.int .i64 xs.length)):Yields E γ σ R a o k:=by
 have hv:=repV_ev hf x
 rw [hs] at hv
 obtain ⟨ad,c,hv,_,hcm⟩:=size_of_rep_view hv
 exact y_len ho hT hx (hk (by omega)) fun w' _=>len_slice_run hE hT hx hti hd hv w'
theorem y_len_nil {o:Oper} {k:AV→Prop} {args:Array Operand} {ats:Array TypeId} {T e:TypeId} {x:Operand} {ti:TInfo} (ho:o.op=.call { callee:=.builtin .len,args,argTypes:=ats }) (hE:E.ok) (hf:RepF γ σ fr a.tmps)
 (hT:ats[0]?=some T) (hx:args[0]?=some x) (hti:E.TI T=some ti) (hd:ti.desc=.slice e) (hs:ev fr x=.raw (.slice none 0 0)) (hk:k (.int .i64 0)):Yields E γ σ R a o k:=by
 have hv:=repV_ev hf x
 rw [hs] at hv
 exact y_len (n:=0) ho hT hx hk fun w' _=>len_slice_run hE hT hx hti hd hv w'
theorem y_len_slc {o:Oper} {k:AV→Prop} {args:Array Operand} {ats:Array TypeId} {T e E':TypeId} {x:Operand} {ti:TInfo} {id sz m' sz':Nat} {xs:List AV} (ho:o.op=.call { callee:=.builtin .len,args,argTypes:=ats }) (hE:E.ok) (hi:Inv γ σ w H) (hf:RepF γ σ fr a.tmps)
 (hT:ats[0]?=some T) (hx:args[0]?=some x) (hti:E.TI T=some ti) (hd:ti.desc=.slice e) (hs:ev fr x=.slc id sz m') (hH:H[id]?=some (.arr E' sz' xs)) (hk:m'≤maxLen→k (.int .i64 m')):Yields E γ σ R a o k:=by
 have hv:=repV_ev hf x
 rw [hs] at hv
 obtain ⟨blk,cap,_,hv,hmc,hcm,_⟩:=slc_value hi hH hv
 exact y_len ho hT hx (hk (by omega)) fun w' _=>len_slice_run hE hT hx hti hd hv w'
theorem y_len_mview {o:Oper} {k:AV→Prop} {args:Array Operand} {ats:Array TypeId} {T e e':TypeId} {x:Operand} {ti:TInfo} {ks vs:List AV} (ho:o.op=.call { callee:=.builtin .len,args,argTypes:=ats }) (hE:E.ok) (hi:Inv γ σ w H) (hf:RepF γ σ fr a.tmps)
 (hT:ats[0]?=some T) (hx:args[0]?=some x) (hti:E.TI T=some ti) (hd:ti.desc=.map e e') (hs:ev fr x=.mview ks vs) (hR:∀ w',R w'→ExtL σ [] w w') (hk:k (.int .i64 ks.length)):Yields E γ σ R a o k:=by
 have hv:=repV_ev hf x
 rw [hs] at hv
 obtain ⟨kv,vv,h1,h2,h3⟩:=hv
 rcases h3 with ⟨h3,rfl,_⟩ | ⟨b,h3,hm⟩
 · have:=h1.length
   simp at this
   rw [← this] at hk
   exact y_len (n:=0) ho hT hx hk fun w' _=>len_nilmap_run hE hT hx hti hd h3 w'
 · refine y_len ho hT hx hk fun w' hw=>?_
   obtain ⟨es,c,h4,h5⟩:=mapAt_ext (hR w' hw) (hm.mono (hi.mem b))
   exact len_map_run hE hT hx hti hd h3 h4 (by rw [h5,h1.length])
theorem mp_entry (hi:Inv γ σ w H) {id:Nat} {ks vs:List AV} {bs:List Nat} {cl:Nat} {v:Value} (hH:H[id]?=some (.map ks vs bs cl)) (hv:RepV γ σ (.mp id) v):∃ b c kv vv,σ[id]?=some (some (some b,c))∧v=.map (some b)∧RepVs γ σ ks kv∧RepVs γ σ vs vv∧MapAtB w.heap[b]? kv vv bs cl:=by
 obtain ⟨en,hen,h1,h2⟩:=hv
 obtain ⟨en',hen',hob⟩:=inv_entry hi hH
 rw [hen] at hen';cases hen'
 unfold RepO at hob
 split at hob
 · rename_i heq;cases heq
 · rename_i heq;cases heq
 · rename_i b c ks' vs' bs' cl' heq
   cases heq
   obtain ⟨kv,vv,h⟩:=hob
   exact ⟨b,c,kv,vv,hen,h2 _ _ rfl,h⟩
 all_goals first | (rename_i heq;cases heq;done) | exact hob.elim
theorem y_len_mp {o:Oper} {k:AV→Prop} {args:Array Operand} {ats:Array TypeId} {T e e':TypeId} {x:Operand} {ti:TInfo} {id:Nat} {ks vs:List AV} {bs:List Nat} {cl:Nat} (ho:o.op=.call { callee:=.builtin .len,args,argTypes:=ats }) (hE:E.ok) (hi:Inv γ σ w H) (hf:RepF γ σ fr a.tmps)
 (hT:ats[0]?=some T) (hx:args[0]?=some x) (hti:E.TI T=some ti) (hd:ti.desc=.map e e') (hs:ev fr x=.mp id) (hH:H[id]?=some (.map ks vs bs cl)) (hR:∀ w',R w'→ExtL σ [] w w') (hk:k (.int .i64 ks.length)):Yields E γ σ R a o k:=by
 have hv:=repV_ev hf x
 rw [hs] at hv
 obtain ⟨b,c,kv,vv,_,hv,h3,h4,h5⟩:=mp_entry hi hH hv
 refine y_len ho hT hx hk fun w' hw=>?_
 obtain ⟨es,c,h6,h7⟩:=mapAt_ext (hR w' hw) h5.at
 exact len_map_run hE hT hx hti hd hv h6 (by rw [h7,h3.length])
theorem y_look (hE:E.ok) (hi:Inv γ σ w H) (hf:RepF γ σ fr a.tmps) {o:Oper} {k:AV→Prop} {T kt et:TypeId} {m x:Operand} {ok:Bool} {ti ki ei:TInfo} (ho:o.op=.lookup T m x ok) (hT:E.TI T=some ti) (hd:ti.desc=.map kt et) (hk:E.TI kt=some ki) (he:E.TI et=some ei)
 (hR:∀ w',R w'→ExtL σ [] w w') {ks vs:List AV}
 (hm:(∃ id bs c,ev fr m=.mp id∧H[id]?=some (.map ks vs bs c))∨ev fr m=.mview ks vs∨(ev fr m=.raw (.map none)∧ks=[]∧vs=[]))
 (h:optP ((look (kdOf ki) (ofCells ei.agg (ei.zero.map ofV)) ks vs (ev fr x)).map (lookA ok)) k):Yields E γ σ R a o k:=by
 unfold optP at h
 split at h
 · rename_i y hy
   obtain ⟨r,hr,rfl⟩:=Option.map_eq_some_iff.1 hy
   have hv:=repV_ev hf m
   have hx:=repV_ev hf x
   have fin:∀ {es:Array MapEntry} {es':List MapEntry},SameMap es.toList es'→RepVs γ σ ks (es'.map (·.key))→RepVs γ σ vs (es'.map (·.val))→((∃ b c,a.eval m=.map (some b)∧∀ w',R w'→w'.heap[b]?=some (.map es c))∨(a.eval m=.map none∧es = #[]))→Yields E γ σ R a o k:=by
    intro es es' hsm hks hvs hh
    obtain ⟨u,h1,h2,h3⟩:=look_run (ok:=ok) hE hT hd hk he hx hsm hks hvs hr
    rcases hh with ⟨b,c,hb,hh⟩ | ⟨hb,rfl⟩
    · exact .of h1 h (by simp only [execOp,ho];rfl) fun w' hw=>by rw [hb];exact h2 b c w' (hh w' hw)
    · exact .of h1 h (by simp only [execOp,ho];rfl) fun w' hw=>by rw [hb];exact h3 rfl w'
   rcases hm with ⟨id,bs,c,hm,hH⟩ | hm | ⟨hm,rfl,rfl⟩
   · rw [hm] at hv
     obtain ⟨b,c',kv,vv,_,hv,h1,h2,es,h3,rfl,rfl,_⟩:=mp_entry hi hH hv
     exact fin (.inl rfl) h1 h2 (.inl ⟨b,c,hv,fun w' hw=>hR w' hw _ _ h3 (by simp)⟩)
   · rw [hm] at hv
     obtain ⟨kv,vv,h1,h2,h3⟩:=hv
     have h1:=RepVs.mono (fun _ _ h=>h) _ _ _ _ (Sg.le_nil σ) h1
     have h2:=RepVs.mono (fun _ _ h=>h) _ _ _ _ (Sg.le_nil σ) h2
     rcases h3 with ⟨h3,rfl,rfl⟩ | ⟨b,h3,es,c,es',hb,rfl,rfl,hsm⟩
     · exact fin (es:=#[]) (es':=[]) (.inl rfl) h1 h2 (.inr ⟨h3,rfl⟩)
     · exact fin hsm h1 h2 (.inl ⟨b,c,h3,fun w' hw=>hR w' hw _ _ (hi.mem _ _ hb) (by simp)⟩)
   · rw [hm] at hv
     simp only [RepV] at hv
     exact fin (es:=#[]) (es':=[]) (.inl rfl) (by simp [RepVs]) (by simp [RepVs]) (.inr ⟨hv,rfl⟩)
 · exact h.elim
theorem itr_entry (hi:Inv γ σ w H) {id:Nat} {mid:Option Nat} {since last:Nat} {seen:List Nat} {v:Value} (hH:H[id]?=some (.mit mid since seen last)) (hv:RepV γ σ (.itr id) v) :
 ∃ b c,σ[id]?=some (some (some b,c))∧v=.pointer (some ⟨b,0,none⟩)∧(mid=none→w.heap[b]?=some (.mapIter none since seen.toArray last)) ∧
   ∀ m,mid=some m→∃ e,σ[m]?=some e∧∀ bm cap,e=some (some bm,cap)→w.heap[b]?=some (.mapIter (some bm) since seen.toArray last):=by
 obtain ⟨en,hen,h1,h2⟩:=hv
 obtain ⟨en',hen',hob⟩:=inv_entry hi hH
 rw [hen] at hen';cases hen'
 cases en with
 | none=>cases mid <;> exact hob.elim
 | some en =>
   obtain ⟨blk,c⟩:=en
   cases blk with
   | none=>cases mid <;> exact hob.elim
   | some b =>
     refine ⟨b,c,hen,h2 b c rfl,?_,?_⟩
     · rintro rfl;exact hob
     · rintro m rfl;exact hob
theorem map_block (hi:Inv γ σ w H) {id:Nat} {ks vs:List AV} {bs:List Nat} {c:Nat} (hH:H[id]?=some (.map ks vs bs c)):∃ b cap kv vv,σ[id]?=some (some (some b,cap))∧RepVs γ σ ks kv∧RepVs γ σ vs vv∧MapAtB w.heap[b]? kv vv bs c:=by
 obtain ⟨en,hen,hob⟩:=inv_entry hi hH
 cases en with
 | none=>exact hob.elim
 | some en =>
   obtain ⟨blk,cap⟩:=en
   cases blk with
   | none=>exact hob.elim
   | some b =>
     obtain ⟨kv,vv,h⟩:=hob
     exact ⟨b,cap,kv,vv,hen,h⟩
theorem y_ent (hi:Inv γ σ w H) (hf:RepF γ σ fr a.tmps) {o:Oper} {k:AV→Prop} {it:Operand} (ho:o.op=.entry it) (hR:∀ w',R w'→ExtL σ [] w w') {id mid since last:Nat} {seen:List Nat} {ks vs:List AV} {bs:List Nat} {c i b:Nat} {kx vx:AV}
 (h1:ev fr it=.itr id) (h2:H[id]?=some (.mit (some mid) since seen last)) (h3:H[mid]?=some (.map ks vs bs c)) (h4:c=last) (h5:seen.getLast?=some b) (h6:bs[i]?=some b) (h7:ks[i]?=some kx) (h8:vs[i]?=some vx) (hk:k (.tup [kx,vx])):Yields E γ σ R a o k:=by
 have hv:=repV_ev hf it
 rw [h1] at hv
 obtain ⟨ib,ic,hs,hv,_,hit⟩:=itr_entry hi h2 hv
 obtain ⟨mb,mc,kv,vv,hms,hks,hvs,es,hm,rfl,rfl,rfl,hlt,hpw⟩:=map_block hi h3
 obtain ⟨e,he,hit⟩:=hit mid rfl
 rw [hms] at he;cases he
 have hit:=hit mb mc rfl
 rw [List.getElem?_map] at h6
 obtain ⟨en,hen,rfl⟩:=Option.map_eq_some_iff.1 h6
 obtain ⟨ku,hku,hkr⟩:=hks.get i kx h7
 obtain ⟨vu,hvu,hvr⟩:=hvs.get i vx h8
 rw [List.getElem?_map,hen] at hku hvu
 simp only [Option.map_some,Option.some.injEq] at hku hvu
 subst hku hvu h4
 obtain ⟨seen',rfl⟩:∃ l,seen=l++[en.born]:=by
  rw [List.getLast?_eq_some_iff] at h5
  exact h5
 refine .of (x:=.tup [kx,vx]) (u:=.tuple #[en.key,en.val]) ⟨[en.key,en.val],rfl,repVs_cons.2 ⟨_,_,rfl,hkr,repVs_cons.2 ⟨_,_,rfl,hvr,repVs_nil.2 rfl⟩⟩⟩ hk (by simp only [execOp,ho];rfl) fun w' hw=>?_
 rw [hv]
 exact run_entry_at w' ib mb since seen'.toArray es c en (by rw [hR w' hw _ _ hit (by simp)];simp) (hR w' hw _ _ hm (by simp)) (List.mem_of_getElem? hen) (hpw.imp (fun h=>by omega))
theorem arr0 {α:Type} {x y:α} {l:Array α} (h:l.toList=[x]):l[0]?=some x:=by
 rw [← Array.getElem?_toList,h];rfl
theorem cOp_p (hE:E.ok) (hi:Inv γ σ w H) (hf:RepF γ σ fr a.tmps) {o:Oper} {i:PI} (hR:readsP i=true→∀ w',R w'→ExtL σ [] w w') (hc:cOp E o=some (.p i)) {k:Nat→AV→Prop} (hv:piP fr H k i):∃ d,o.dst=some d∧Yields E γ σ R a o (k d):=by
 unfold cOp at hc
 split at hc
 case h_8 T x n d' ho hd =>
  refine ⟨d',hd,?_⟩
  split at hc
  · rename_i ti x' n' hT hx hn
    split at hc
    · rename_i e hds
      obtain ⟨ei,he,heq⟩:=Option.map_eq_some_iff.1 hc
      cases heq
      simp only [piP] at hv
      split at hv
      · rename_i sz' xs ki z hxv hnv
        obtain ⟨rfl,hv⟩:=hv
        exact y_indexAddr_view ho hE hi hf hT ((cV_ev hn).trans hnv) hds he ((cV_ev hx).trans hxv) hv
      · rename_i id sz' m' ki z hxv hnv
        obtain ⟨rfl,hv⟩:=hv
        split at hv
        · rename_i hH
          exact y_indexAddr_slc ho hE hi hf hT ((cV_ev hn).trans hnv) hds he ((cV_ev hx).trans hxv) hH hv.1 hv.2.1 hv.2.2
        · exact hv.elim
      · rename_i id sz' off m' ki z hxv hnv
        obtain ⟨rfl,hv⟩:=hv
        split at hv
        · rename_i hH
          have hvx:=repV_ev hf x
          rw [(cV_ev hx).trans hxv] at hvx
          obtain ⟨blk,cap,_,hs,_⟩:=sub_value hi hH hvx
          exact y_indexAddr_sub ho hE hf hT ((cV_ev hn).trans hnv) hds he hvx ⟨blk,cap,hs⟩ hv.1 hv.2.1 hv.2.2
        · exact hv.elim
      · exact hv.elim
    · rename_i len e hds
      obtain ⟨ei,he,heq⟩:=Option.map_eq_some_iff.1 hc
      cases heq
      simp only [piP] at hv
      split at hv
      · rename_i cs ki z hcs hnv
        exact y_indexAddr_arr ho hE hi hf hT ((cV_ev hn).trans hnv) hds he (by rw [cV_ev hx];exact hcs) hv.1 hv.2.1 (by rw [cV_ev hx];exact hv.2.2)
      · exact hv.elim
    · cases hc
  · cases hc
 case h_9 T x n d' ho hd =>
  refine ⟨d',hd,?_⟩
  split at hc
  · rename_i ti x' n' hT hx hn
    split at hc
    · rename_i len e hds
      obtain ⟨ei,he,heq⟩:=Option.map_eq_some_iff.1 hc
      cases heq
      simp only [piP] at hv
      split at hv
      · rename_i xs ki z hxv hnv
        exact y_index_arr ho hE hf hT ((cV_ev hn).trans hnv) hds he ((cV_ev hx).trans hxv) hv.1 hv.2.1 hv.2.2
      · exact hv.elim
    · rename_i hds
      cases hc
      simp only [piP] at hv
      split at hv
      · rename_i s ki z hxv hnv
        exact y_index_str ho hE hf hT ((cV_ev hn).trans hnv) hds ((cV_ev hx).trans hxv) hv.1 hv.2.1 hv.2.2
      · exact hv.elim
    · cases hc
  · cases hc
 case h_10 op T p q yT d' ho hd =>
  refine ⟨d',hd,?_⟩
  split at hc
  · rename_i p' q' hp hq
    split at hc
    · cases hc
      simp only [piP] at hv
      split at hv
      · rename_i hx hy
        obtain ⟨rfl,h0,hk⟩:=hv
        exact y_quo ho hf ((cV_ev hp).trans hx) ((cV_ev hq).trans hy) h0 hk
      · exact hv.elim
    · cases hc
      simp only [piP] at hv
      split at hv
      · rename_i hx hy
        obtain ⟨rfl,h0,hk⟩:=hv
        exact y_rem ho hf ((cV_ev hp).trans hx) ((cV_ev hq).trans hy) h0 hk
      · exact hv.elim
    · cases hc
      simp only [piP] at hv
      split at hv
      · rename_i hx hy
        exact y_shl ho hf ((cV_ev hp).trans hx) ((cV_ev hq).trans hy) hv.1 hv.2
      · exact hv.elim
    · cases hc
      simp only [piP] at hv
      split at hv
      · rename_i hx hy
        exact y_shr ho hf ((cV_ev hp).trans hx) ((cV_ev hq).trans hy) hv.1 hv.2
      · exact hv.elim
    · split at hc <;> cases hc
    · split at hc <;> cases hc
    · cases hc
  · cases hc
 case h_17 T x lo hi' d' ho hd =>
  refine ⟨d',hd,?_⟩
  split at hc
  · rename_i ti x' hT hx
    split at hc
    · rename_i e hds
      split at hc
      · rename_i ei h' he
        obtain ⟨y,hy,heq⟩:=Option.map_eq_some_iff.1 hc
        cases heq
        simp only [piP] at hv
        split at hv
        · rename_i hxv hyv
          obtain ⟨rfl,h0,h1,hk⟩:=hv
          exact y_slice_view ho hE hf hT hds he ((cV_ev hx).trans hxv) (kl:=.i64) (l:=0) rfl (by simpa using (cV_ev hy).trans hyv) (Int.le_refl _) h0 h1 (by simpa using hk)
        · rename_i hxv hyv
          obtain ⟨rfl,hv⟩:=hv
          split at hv
          · rename_i hH
            have hvx:=repV_ev hf x
            rw [(cV_ev hx).trans hxv] at hvx
            exact y_slice_sub ho hE hi hf hT hds he (slc_sub hi hH hvx) hH (kl:=.i64) (l:=0) rfl (by simpa using (cV_ev hy).trans hyv) (Int.le_refl _) hv.1 hv.2.1 (by simpa using hv.2.2)
          · exact hv.elim
        · rename_i hxv hyv
          obtain ⟨rfl,hv⟩:=hv
          split at hv
          · rename_i hH
            have hvx:=repV_ev hf x
            rw [(cV_ev hx).trans hxv] at hvx
            exact y_slice_sub ho hE hi hf hT hds he hvx hH (kl:=.i64) (l:=0) rfl (by simpa using (cV_ev hy).trans hyv) (Int.le_refl _) hv.1 hv.2.1 (by simpa using hv.2.2)
          · exact hv.elim
        · exact hv.elim
      · rename_i ei l' h' he
        split at hc
        · rename_i ly hy' hly hhy
          cases hc
          simp only [piP] at hv
          split at hv
          · rename_i hxv hlv hhv
            obtain ⟨rfl,h0,h1,h2,hk⟩:=hv
            exact y_slice_view ho hE hf hT hds he ((cV_ev hx).trans hxv) (by simpa using (cV_ev hly).trans hlv) (by simpa using (cV_ev hhy).trans hhv) h0 h1 h2 hk
          · rename_i hxv hlv hhv
            obtain ⟨rfl,hv⟩:=hv
            split at hv
            · rename_i hH
              have hvx:=repV_ev hf x
              rw [(cV_ev hx).trans hxv] at hvx
              exact y_slice_sub ho hE hi hf hT hds he (slc_sub hi hH hvx) hH (by simpa using (cV_ev hly).trans hlv) (by simpa using (cV_ev hhy).trans hhv) hv.1 hv.2.1 hv.2.2.1 (by simpa using hv.2.2.2)
            · exact hv.elim
          · rename_i hxv hlv hhv
            obtain ⟨rfl,hv⟩:=hv
            split at hv
            · rename_i hH
              have hvx:=repV_ev hf x
              rw [(cV_ev hx).trans hxv] at hvx
              exact y_slice_sub ho hE hi hf hT hds he hvx hH (by simpa using (cV_ev hly).trans hlv) (by simpa using (cV_ev hhy).trans hhv) hv.1 hv.2.1 hv.2.2.1 hv.2.2.2
            · exact hv.elim
          · exact hv.elim
        · cases hc
      · rename_i ei l' he
        obtain ⟨y,hy,heq⟩:=Option.map_eq_some_iff.1 hc
        cases heq
        simp only [piP] at hv
        split at hv
        · rename_i hxv hlv
          obtain ⟨rfl,h0,h1,hk⟩:=hv
          exact y_slice_view ho hE hf hT hds he ((cV_ev hx).trans hxv) (by simpa using (cV_ev hy).trans hlv) rfl h0 h1 (Int.le_refl _) (by simpa using hk)
        · rename_i hxv hlv
          obtain ⟨rfl,hv⟩:=hv
          split at hv
          · rename_i hH
            have hvx:=repV_ev hf x
            rw [(cV_ev hx).trans hxv] at hvx
            exact y_slice_sub ho hE hi hf hT hds he (slc_sub hi hH hvx) hH (by simpa using (cV_ev hy).trans hlv) rfl hv.1 hv.2.1 (Int.le_refl _) (by simpa using hv.2.2)
          · exact hv.elim
        · rename_i hxv hlv
          obtain ⟨rfl,hv⟩:=hv
          split at hv
          · rename_i hH
            have hvx:=repV_ev hf x
            rw [(cV_ev hx).trans hxv] at hvx
            exact y_slice_sub ho hE hi hf hT hds he hvx hH (by simpa using (cV_ev hy).trans hlv) rfl hv.1 hv.2.1 (Int.le_refl _) (by simpa using hv.2.2)
          · exact hv.elim
        · exact hv.elim
      · rename_i ei he
        cases hc
        simp only [piP] at hv
        split at hv
        · rename_i hxv
          obtain ⟨rfl,hk⟩:=hv
          exact y_slice_view ho hE hf hT hds he ((cV_ev hx).trans hxv) (kl:=.i64) (l:=0) rfl rfl (Int.le_refl _) (by omega) (Int.le_refl _) (by simpa using hk)
        · rename_i hxv
          obtain ⟨rfl,hv⟩:=hv
          split at hv
          · rename_i hH
            exact y_slice_slc ho hE hi hf hT hds he ((cV_ev hx).trans hxv) hH rfl (by omega) (Int.le_refl _) (by simpa using hv)
          · exact hv.elim
        · exact hv.elim
      · cases hc
    · cases hc
  · cases hc
 case h_18 args ats d' ho hd =>
  refine ⟨d',hd,?_⟩
  split at hc
  · rename_i T x hts hxs
    have hT0:=arr0 (y:=T) hts
    have hx0:=arr0 (y:=x) hxs
    split at hc
    · rename_i ti x' hT hx
      have hev:=cV_ev (fr:=fr) hx
      split at hc
      · rename_i e hds
        cases hc
        simp only [piP] at hv
        split at hv
        · rename_i hxv
          exact y_len_view ho hE hf hT0 hx0 hT hds (hev.trans hxv) hv
        · rename_i hxv
          exact y_len_nil ho hE hf hT0 hx0 hT hds (hev.trans hxv) hv
        · rename_i hxv
          split at hv
          · rename_i hH
            exact y_len_slc ho hE hi hf hT0 hx0 hT hds (hev.trans hxv) hH hv
          · exact hv.elim
        · rename_i hxv
          split at hv
          · rename_i hH
            have hvx:=repV_ev hf x
            rw [hev.trans hxv] at hvx
            obtain ⟨blk,cap,ad,_,hvv,hmc,hcm,_⟩:=sub_value hi hH hvx
            exact y_len ho hT0 hx0 (hv (by omega)) fun w' _=>len_slice_run hE hT0 hx0 hT hds hvv w'
          · exact hv.elim
        · exact hv.elim
      · rename_i hds
        cases hc
        simp only [piP] at hv
        split at hv
        · rename_i hxv
          exact y_slen ho hE hf hT0 hx0 hT hds (hev.trans hxv) hv
        · exact hv.elim
      · rename_i hds
        cases hc
        simp only [piP] at hv
        split at hv
        · rename_i hxv
          exact y_len_mview ho hE hi hf hT0 hx0 hT hds (hev.trans hxv) (hR rfl) hv
        · rename_i hxv
          split at hv
          · rename_i hH
            exact y_len_mp ho hE hi hf hT0 hx0 hT hds (hev.trans hxv) hH (hR rfl) hv
          · exact hv.elim
        · exact hv.elim
      · cases hc
    · cases hc
  · cases hc
 case h_31 T m x ok d' ho hd =>
  refine ⟨d',hd,?_⟩
  split at hc
  · rename_i ti m' x' hT hm hx
    split at hc
    · rename_i kt et hds
      split at hc
      · rename_i ki ei hk he
        cases hc
        simp only [piP] at hv
        have hevm:=cV_ev (fr:=fr) hm
        split at hv
        · rename_i id hmv
          split at hv
          · rename_i ks vs bs c hH
            exact y_look hE hi hf ho hT hds hk he (hR rfl) (.inl ⟨id,bs,c,hevm.trans hmv,hH⟩) (by rw [cV_ev hx];exact hv)
          · exact hv.elim
        · rename_i ks vs hmv
          exact y_look hE hi hf ho hT hds hk he (hR rfl) (.inr (.inl (hevm.trans hmv))) (by rw [cV_ev hx];exact hv)
        · rename_i hmv
          exact y_look hE hi hf ho hT hds hk he (hR rfl) (.inr (.inr ⟨hevm.trans hmv,rfl,rfl⟩)) (by rw [cV_ev hx];exact hv)
        · exact hv.elim
      · cases hc
    · cases hc
  · cases hc
 case h_36 it d' ho hd =>
  refine ⟨d',hd,?_⟩
  obtain ⟨y,hy,he⟩:=Option.map_eq_some_iff.1 hc;cases he
  simp only [piP] at hv
  split at hv
  · rename_i id hiv
    split at hv
    · rename_i mid since seen last hH
      split at hv
      · rename_i ks vs bs c hM
        obtain ⟨h1,i,b,kx,vx,h2,h3,h4,h5,h6⟩:=hv
        exact y_ent hi hf ho (hR rfl) ((cV_ev hy).trans hiv) hH hM h1 h2 h3 h4 h5 h6
      · exact hv.elim
    · exact hv.elim
  · exact hv.elim
 case h_37 T x hi' mx' d' ho hd =>
  refine ⟨d',hd,?_⟩
  split at hc
  · rename_i ti x1 h1 q1 hT hx hh hq
    split at hc
    · rename_i e hds
      obtain ⟨ei,he,heq⟩:=Option.map_eq_some_iff.1 hc
      cases heq
      simp only [piP] at hv
      split at hv
      · rename_i hxv hhv hqv
        obtain ⟨rfl,h0,rfl,h2,hk⟩:=hv
        exact y_slice3_view ho hE hf hT hds he ((cV_ev hx).trans hxv) ((cV_ev hh).trans hhv) ((cV_ev hq).trans hqv) h0 h2 hk
      · exact hv.elim
    · cases hc
  · cases hc
 all_goals (repeat' split at hc) <;> first | (cases hc;done) | (obtain ⟨y,hy,he⟩:=Option.map_eq_some_iff.1 hc;cases he;done)
end
end Go.Al
