/-
 A part of the proof: see the text of the law.
-/
import Derived.Test.YtfhoeghdioofmaaGreatEkk
set_option linter.unusedSimpArgs false
set_option linter.unusedVariables false
namespace Go.Proofs.Try
open Go.Proofs.Tryz
open Go.Al
set_option maxRecDepth 100000
set_option maxRecDepth 20000
set_option maxHeartbeats 8000000
set_option maxRecDepth 100000
set_option maxRecDepth 20000
structure Ver where
 row:Int
 stamp:Int
 dead:Bool
 vals:List VL
 deriving DecidableEq
instance:Inhabited Ver:=⟨⟨0,0,false,[]⟩⟩
abbrev Ver.cs (v:Ver):List AV:=[.int .i64 v.row,.int .i64 v.stamp,.bool v.dead,.view 3 (v.vals.map VL.av)]
def Ver.av (v:Ver):AV:=.agg v.cs
theorem any_next {α:Type} [Inhabited α] {p:α→Bool} {l:List α} {i:Nat} (h:i<l.length) (h1:(l.take i).any p=false) (h2:p (l.getD i default)=false):(l.take (i+1)).any p=false:=by
 rw [take_succD h,List.any_append,h1]
 simpa using h2
theorem any_at {α:Type} [Inhabited α] {p:α→Bool} {l:List α} {i:Nat} (h:i<l.length) (h2:p (l.getD i default)=true):l.any p=true:=by
 rw [List.any_eq_true]
 exact ⟨l[i],by simp,by simpa [h] using h2⟩
def diff (l:List Ver):Prop:=l.Pairwise fun a b=>¬(a.row=b.row∧a.stamp=b.stamp)
def okV (v:Ver):Prop:=1≤v.row∧v.row≤1073741824∧1≤v.stamp∧v.stamp≤1073741824∧(v.dead=true→v.vals=[])
instance (v:Ver):Decidable (okV v):=by unfold okV;infer_instance
instance (l:List Ver):Decidable (diff l):=by unfold diff;infer_instance
def goodL (l:List Ver):Prop:=(∀ v ∈ l,okV v)∧diff l
instance (l:List Ver):Decidable (goodL l):=by unfold goodL;infer_instance
set_option maxRecDepth 100000
def mc19:MC:=(.seq (.ops [pZ 4]) (.seq (.seq (.ops [pI 5 0]) (.block 0 (.loop (.seq (.seq (.ops [pM 7 5,pM 8 0,pG 9 8,pB 10 7 9]) (.cond 10 .skip (.exit 0))) (.seq (.block 1 (.seq (.ops [pI 6 0]) (.block 2 (.loop (.seq (.seq (.ops [pM 13 6,pM 14 1,pG 15 14,pB 16 13 15]) (.cond 16 .skip (.exit 2))) (.seq (.block 3 (.seq (.any false (.pure0 none (oM 19 0) (.pure0 none (oM 20 5) (.pure0 none (oQ 21 4 19 20) (.pure0 none (oF 22 0 21) (.pure0 none (oL 23 22) (.pure0 none (oM 24 1) (.pure0 none (oM 25 6) (.pure0 none (oQ 26 4 24 25) (.pure0 none (oF 27 0 26) (.pure0 none (oL 28 27) (.pure0 none (.v (.bin 29 .eql false (.t 23) (.t 28))) (.pure0 none (oM 30 29) (.pure0 (some (30,true)) (oM 31 0) (.pure0 (some (30,true)) (oM 32 5) (.pure0 (some (30,true)) (oQ 33 4 31 32) (.pure0 (some (30,true)) (oF 34 1 33) (.pure0 (some (30,true)) (oL 35 34) (.pure0 (some (30,true)) (oM 36 1) (.pure0 (some (30,true)) (oM 37 6) (.pure0 (some (30,true)) (oQ 38 4 36 37) (.pure0 (some (30,true)) (oF 39 1 38) (.pure0 (some (30,true)) (oL 40 39) (.pure0 (some (30,true)) (.v (.bin 41 .eql false (.t 35) (.t 40))) (.pure0 none (oP 42 30 41) .done))))))))))))))))))))))))) (.cond 42 (.seq (.ops [(none,.v (.mov 4 (.c (.bool true))))]) .ret) .skip))) (.ops [pM 17 6,pA 18 17 1,pM 6 18]))))))) (.ops [pM 11 5,pA 12 11 1,pM 5 12])))))) (.seq (.ops [pZ 4]) .ret)))
theorem ok19:FnOk E 19 43 [.tmp 4] mc19:=ofk func19
set_option maxRecDepth 20000
theorem cl_load (c:CL):(if 6≤c.cs.length then some (AV.agg (List.take 6 c.cs)) else none)=some c.av:=by simp [CL.cs,CL.av]
def share1 (u v:WR):Bool:=decide (u.tab=v.tab) && decide (u.row=v.row)
def shareB (a b:List WR):Bool:=a.any fun u=>b.any fun v=>share1 u v
theorem c19 (a b:List WR):ACalls E.P 19 [.view 4 (a.map WR.av),.view 4 (b.map WR.av)] [] (fun r H=>r=.bool (shareB a b)∧H=[]):=by
 have hmax:=maxLen_eq
 refine ok19.acalls hE hm (by simp) fun N hN=>?_
 unfold mc19 pZ pI pM pG pB pA oM oL oF oP oQ
 simp only [lA,seval]
 refine loop_i (fun i:Nat=>i≤a.length∧(a.take i).any (fun u=>b.any fun v=>share1 u v)=false) (fun i=>⟨[(0,.view 4 (a.map WR.av)),(1,.view 4 (b.map WR.av)),(5,.int .i64 i)],[]⟩) (fun i=>a.length - i) 0 ⟨by omega,rfl⟩ (ent [] false (by simp only [lP,seval,List.length_map]<;>(try simp)<;>(try omega)) (by simp only [lP,seval,List.length_map]<;>(try simp)<;>(try omega))) ?_
 rintro i ⟨hi,ha⟩
 repeat' (first|(with_reducible first|(apply St.o;constructor)<;>intro _|refine And.intro (by omega) ?_|(apply Sq.o;constructor))|simp (disch:=omega) only [lE,seval,IdxR_wrs,Int.toNat_natCast,List.length_map])
 all_goals try (exfalso;omega)
 · refine loop_i (fun k:Nat=>k≤b.length∧(b.take k).any (fun v=>share1 (a.getD i default) v)=false) (fun k=>⟨[(0,.view 4 (a.map WR.av)),(1,.view 4 (b.map WR.av)),(5,.int .i64 i),(6,.int .i64 k)],[]⟩) (fun k=>b.length - k) 0 ⟨by omega,rfl⟩ (ent [] false (by simp only [lP,seval,List.length_map]<;>(try simp)<;>(try omega)) (by simp only [lP,seval,List.length_map]<;>(try simp)<;>(try omega))) ?_
   rintro k ⟨hk,hb⟩
   by_cases hkl:k<b.length
   · have hn:=fun h=>any_next (p:=fun v=>share1 (a.getD i default) v) hkl hb h
     have hy:=fun h=>any_at (p:=fun v=>share1 (a.getD i default) v) hkl h
     generalize hx:a.getD i default=x at *
     generalize hz:b.getD k default=z at *
     have hs:share1 x z=(decide (x.tab=z.tab) && decide (x.row=z.row)):=rfl
     repeat' (first|(with_reducible first|(apply St.o;constructor)<;>intro _|refine And.intro (by omega) ?_|(apply Sq.o;constructor))|simp (disch:=omega) only [lE,seval,IdxR_wrs,hx,hz,Int.toNat_natCast,List.length_map])
     all_goals try (exfalso;omega)
     · rename_i e1 e2
       refine keep_b ?_
       rw [eq_comm]
       exact any_at (i:=i) (by omega) (by rw [hx];exact hy (by simp [hs,e1,e2]))
     · rename_i e1 e2
       exact back_i (k+1) ⟨by omega,hn (by simp [hs,e1,e2])⟩ (by omega) (ent [] false)
     · rename_i e1
       exact back_i (k+1) ⟨by omega,hn (by simp [hs,e1])⟩ (by omega) (ent [] false)
   · obtain rfl:k=b.length:=by omega
     rw [List.take_length] at hb
     repeat' (first|(with_reducible first|(apply St.o;constructor)<;>intro _|refine And.intro (by omega) ?_|(apply Sq.o;constructor))|simp (disch:=omega) only [lE,seval,List.length_map,Int.lt_irrefl,decide_false])
     all_goals try (exfalso;omega)
     exact back_i (i+1) ⟨by omega,any_next (by omega) ha hb⟩ (by omega) (ent [] false)
 · refine keep_b ?_
   rw [List.take_of_length_le (by omega)] at ha
   exact ha.symm
def okC (c:CL):Prop:=(0≤c.kind∧c.kind≤7)∧((c.kind=1∨c.kind=2)→(0≤c.a∧c.a≤2)∧0≤c.b∧c.b≤8)
instance (c:CL):Decidable (okC c):=by unfold okC;infer_instance
end Go.Proofs.Try
