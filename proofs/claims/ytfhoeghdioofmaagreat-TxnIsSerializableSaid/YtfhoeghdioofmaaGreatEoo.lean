/-
 A part of the proof.
-/
import Derived.Test.YtfhoeghdioofmaaGreatEkk
set_option linter.unusedSimpArgs false
set_option linter.unusedVariables false
namespace Go.Proofs.Try
open Go.Proofs.Tryz
open Go.Al
set_option maxRecDepth 100000
set_option maxHeartbeats 16000000
structure Ver where
 row:Int
 stamp:Int
 dead:Bool
 vals:List VL
 deriving DecidableEq
instance:Inhabited Ver:=⟨⟨0,0,false,[]⟩⟩
abbrev Ver.cs (v:Ver):List AV:=[.int .i64 v.row,.int .i64 v.stamp,.bool v.dead,.view 3 (v.vals.map VL.av)]
def diff (l:List Ver):Prop:=l.Pairwise fun a b=>¬(a.row=b.row/\a.stamp=b.stamp)
def okV (v:Ver):Prop:=1<=v.row/\v.row<=1073741824/\1<=v.stamp/\v.stamp<=1073741824/\(v.dead=true->v.vals=[])
instance (v:Ver):Decidable (okV v):=by unfold okV;infer_instance
instance (l:List Ver):Decidable (diff l):=by unfold diff;infer_instance
def goodL (l:List Ver):Prop:=(∀ v ∈ l,okV v)/\diff l
instance (l:List Ver):Decidable (goodL l):=by unfold goodL;infer_instance
def mc20:MC:=(.seq (.ops [pZ 2]) (.seq (.seq (.ops [pI 3 0]) (.block 0 (.loop (.seq (.seq (.ops [pM 5 3,pM 6 0,pG 7 6,pB 8 5 7]) (.cond 8 .skip (.exit 0))) (.seq (.block 1 (.seq (.ops [pM 11 0,pM 12 3,pQ 13 6 11 12,pR 14 6 13,(none,.e (.alloc 4 [.int .i64 0,.int .i64 0,.int .i64 0,.int .i64 0,.bool false,.raw (.slice none 0 0)])),pS 6 4 14]) (.seq (.ops [pF 15 0 4,pL 16 15,(none,.v (.bin 17 .lss false (.t 16) (.c (.int .i64 0)))),pM 18 17,gF 18 (oF 19 0 4),gF 18 (oL 20 19),(some (18,false),.v (.bin 21 .gtr false (.t 20) (.c (.int .i64 7)))),pO 22 18 21,pM 23 22,gF 23 (oF 24 0 4),gF 23 (oL 25 24),gF 23 (oE 26 25 1),gF 23 (oM 27 26),gF 27 (oF 28 0 4),gF 27 (oL 29 28),gF 27 (oE 30 29 2),gF 23 (oO 31 27 30),gF 23 (oM 32 31),gT 32 (oF 33 2 4),gT 32 (oL 34 33),(some (32,true),.v (.bin 35 .lss false (.t 34) (.c (.int .i64 0)))),gT 32 (oM 36 35),gF 36 (oF 37 2 4),gF 36 (oL 38 37),(some (36,false),.v (.bin 39 .gtr false (.t 38) (.c (.int .i64 2)))),gT 32 (oO 40 36 39),gT 32 (oM 41 40),gF 41 (oF 42 3 4),gF 41 (oL 43 42),(some (41,false),.v (.bin 44 .lss false (.t 43) (.c (.int .i64 0)))),gT 32 (oO 45 41 44),gT 32 (oM 46 45),gF 46 (oF 47 3 4),gF 46 (oL 48 47),(some (46,false),.v (.bin 49 .gtr false (.t 48) (.c (.int .i64 8)))),gT 32 (oO 50 46 49),gF 23 (oP 51 32 50),pO 52 23 51]) (.cond 52 (.seq (.ops [pZ 2]) .ret) .skip)))) (.ops [pM 9 3,pA 10 9 1,pM 3 10])))))) (.seq (.ops [pM 53 0,pG 54 53,(none,.v (.bin 55 .leq false (.t 54) (.c (.int .i64 70)))),pM 2 55]) .ret)))
theorem ok20:FnOk E 20 56 [.tmp 2] mc20:=ofk func20
theorem cl_load (c:CL):(if 6<=c.cs.length then some (AV.agg (List.take 6 c.cs)) else none)=some c.av:=by simp [CL.cs,CL.av]
def okC (c:CL):Prop:=(0<=c.kind/\c.kind<=7)/\((c.kind=1\/c.kind=2)->(0<=c.a/\c.a<=2)/\0<=c.b/\c.b<=8)
instance (c:CL):Decidable (okC c):=by unfold okC;infer_instance
def smallS (l:List CL):Bool:=decide ((∀ c ∈ l,okC c)/\l.length<=70)
theorem c20 (l:List CL):ACalls E.P 20 [.view 6 (l.map CL.av)] [] (fun r H=>r=.bool (smallS l)/\H=[]):=by
 have hmax:=maxLen_eq
 refine ok20.acalls hE hm (by simp) fun N hN=>?_
 unfold mc20 pZ pI pM pG pB pQ pR pS pF pL pO pA gF gT oM oL oF oE oP oO
 simp only [lA,seval]
 refine loop_i (fun i:Nat=>i<=l.length/\∀ x ∈ l.take i,okC x) (fun i=>⟨[(0,.view 6 (l.map CL.av)),(3,.int .i64 i)],[]⟩) (fun i=>l.length - i) 0 ⟨by omega,by simp⟩ (ent [] false) ?_
 rintro i ⟨hi,hn⟩
 by_cases hil:i<l.length
 . have hm2:=getD_mem hil
   have hst:=all_step (p:=okC) hil hn
   have hno:¬ okC (l.getD i default)->smallS l=false:=fun h=>decide_eq_false fun e=>h (e.1 _ hm2)
   generalize hx:l.getD i default=x at *
   have hcs:x.cs=[.int .i64 x.kind,.int .i64 x.tx,.int .i64 x.a,.int .i64 x.b,.bool x.dead,rowV x.vals]:=rfl
   repeat' (first|(with_reducible first|(apply St.o;constructor)<;>intro _|refine ai ?_|(apply Sq.o;constructor))|simp (disch:=omega) only [lE,seval,IdxR_cls,hx,hcs,Int.toNat_natCast,List.length_map])
   all_goals try (exfalso;omega)
   all_goals first
    | (refine keep_b (hno ?_).symm;unfold okC;omega)
    | (have hok:okC x:=by unfold okC;omega
       exact back_i (i+1) ⟨by omega,hst hok⟩ (by omega) (ent [] false))
 . obtain rfl:i=l.length:=by omega
   rw [List.take_length] at hn
   repeat' (first|(with_reducible first|(apply St.o;constructor)<;>intro _|refine ai ?_|(apply Sq.o;constructor))|simp (disch:=omega) only [lE,seval,List.length_map,Int.lt_irrefl,decide_false])
   all_goals try (exfalso;omega)
   refine keep_b ?_
   unfold smallS
   rw [decide_eq_decide]
   exact ⟨fun h=>⟨hn,by omega⟩,fun h=>by omega⟩
end Go.Proofs.Try
