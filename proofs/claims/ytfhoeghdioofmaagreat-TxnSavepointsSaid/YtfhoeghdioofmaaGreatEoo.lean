/-
 A part of the proof.
-/
import Derived.Test.YtfhoeghdioofmaaGreatEkk
set_option linter.unusedSimpArgs false
set_option linter.unusedVariables false
namespace Go.Proofs.Try
open Go.Proofs.Tryz
open Go.Al
set_option maxRecDepth 100000
abbrev q29_0:MI:=oZ 4
def mc29:MC:=(.seq (.ops [(none,q29_0)]) (.seq (.seq (.ops [pM 7 0,pG 8 7,pM 9 1,pG 10 9,(none,.v (.bin 11 .neq false (.t 8) (.t 10)))]) (.cond 11 (.seq (.ops [(none,q29_0)]) .ret) .skip)) (.seq (.seq (.ops [pI 5 0]) (.block 0 (.loop (.seq (.seq (.ops [pM 12 5,pM 13 0,pG 14 13,pB 15 12 14]) (.cond 15 .skip (.exit 0))) (.seq (.block 1 (.seq (.any false (.pure0 none (oM 18 0) (.pure0 none (oM 19 5) (.pure0 none (oQ 20 4 18 19) (.pure0 none (oR 21 4 20) (.pure0 none (oM 22 1) (.pure0 none (oM 23 5) (.pure0 none (oQ 24 4 22 23) (.pure0 none (oR 25 4 24) (.alt none (oW 26 45 21 25) (.base (.pure0 none (oM 6 26) .done)) .stop)))))))))) (.seq (.ops [pM 27 6,pN 28 27]) (.cond 28 (.seq (.ops [(none,q29_0)]) .ret) .skip)))) (.ops [pM 16 5,pA 17 16 1,pM 5 17])))))) (.seq (.ops [(none,.v (.mov 4 (.c (.bool true))))]) .ret))))
theorem ok29:FnOk E 29 29 [.tmp 4] mc29:=ofk func29
abbrev q45_0:MI:=oZ 4
def mc45:MC:=(.seq (.ops [pK 2 0,pK 3 1,(none,q45_0)]) (.seq (.seq (.ops [pF 6 0 2,pL 7 6,pF 8 0 3,pL 9 8,(none,.v (.bin 10 .neq false (.t 7) (.t 9))),pM 11 10,gF 11 (oF 12 1 2),gF 11 (oL 13 12),gF 11 (oF 14 1 3),gF 11 (oL 15 14),(some (11,false),.v (.bin 16 .neq false (.t 13) (.t 15))),pO 17 11 16,pM 18 17,gF 18 (oF 19 2 2),gF 18 (oL 20 19),gF 18 (oF 21 2 3),gF 18 (oL 22 21),(some (18,false),.v (.bin 23 .neq true (.t 20) (.t 22))),pO 24 18 23,pM 25 24,gF 25 (oF 26 3 2),gF 25 (oL 27 26),gF 25 (oG 28 27),gF 25 (oF 29 3 3),gF 25 (oL 30 29),gF 25 (oG 31 30),(some (25,false),.v (.bin 32 .neq false (.t 28) (.t 31))),pO 33 25 32]) (.cond 33 (.seq (.ops [(none,q45_0)]) .ret) .skip)) (.seq (.seq (.ops [pI 5 0]) (.block 0 (.loop (.seq (.seq (.ops [pM 34 5,pF 35 3 2,pL 36 35,pG 37 36,pB 38 34 37]) (.cond 38 .skip (.exit 0))) (.seq (.block 1 (.seq (.any false (.pure0 none (oF 41 3 2) (.pure0 none (oL 42 41) (.pure0 none (oM 43 5) (.pure0 none (oQ 44 3 42 43) (.pure0 none (oR 45 3 44) (.pure0 none (oF 46 3 3) (.pure0 none (oL 47 46) (.pure0 none (oM 48 5) (.pure0 none (oQ 49 3 47 48) (.pure0 none (oR 50 3 49) (.pure0 none (.v (.eq 51 true (.agg [(0,false,1,.int),(1,false,1,.int),(2,false,1,.str)]) (.t 45) (.t 50))) .done)))))))))))) (.cond 51 (.seq (.ops [(none,q45_0)]) .ret) .skip))) (.ops [pM 39 5,pA 40 39 1,pM 5 40])))))) (.seq (.ops [(none,.v (.mov 4 (.c (.bool true))))]) .ret))))
theorem ok45:FnOk E 45 52 [.tmp 4] mc45:=ofk func45
set_option maxHeartbeats 16000000
theorem take_next {α:Type} [Inhabited α] {a b:List α} {i:Nat} (hl:a.length=b.length) (hi:i<a.length) (h:a.take i=b.take i) (he:a.getD i default=b.getD i default):a.take (i+1)=b.take (i+1):=by
 rw [List.take_succ_eq_append_getElem hi,List.take_succ_eq_append_getElem (by omega:i<b.length),h]
 simp only [List.getD_eq_getElem?_getD,List.getElem?_eq_getElem hi,List.getElem?_eq_getElem (by omega:i<b.length),Option.getD_some] at he
 rw [he]
theorem ne_at {α:Type} [Inhabited α] {a b:List α} {i:Nat} (he:a.getD i default≠b.getD i default):a≠b:=fun h=>he (by rw [h])
theorem eq_all {α:Type} {a b:List α} {i:Nat} (hl:a.length=b.length) (hi:a.length<=i) (h:a.take i=b.take i):a=b:=by
 rwa [List.take_of_length_le hi,List.take_of_length_le (by omega)] at h
theorem vl_eq (x y:VL):(decide (x.k=y.k) && (decide (x.n=y.n) && (decide (x.s=y.s) && true)))=decide (x=y):=by
 obtain ⟨a,b,c⟩:=x
 obtain ⟨d,e,f⟩:=y
 simp only [Bool.and_true,VL.mk.injEq,Bool.decide_and]
theorem wr_eq (a b:WR):a=b↔a.tab=b.tab/\a.row=b.row/\a.dead=b.dead/\a.vals=b.vals:=by
 obtain ⟨a1,a2,a3,a4⟩:=a
 obtain ⟨b1,b2,b3,b4⟩:=b
 simp
theorem c45 (a b:WR):ACalls E.P 45 [a.av,b.av] [] (fun r H=>r=.bool (decide (a=b))/\H=[]):=by
 have hmax:=maxLen_eq
 refine ok45.acalls hE hm (by simp) fun N hN=>?_
 unfold mc45 q45_0 pK pF pL pM pO pI pG pB pA gF oM oL oR oF oZ oG oQ
 simp only [lA,seval,wr_av]
 have hno:∀ {p:Prop},(a=b->p)->¬ p->AV.bool false=AV.bool (decide (a=b)):=fun h hn=>by rw [eq_comm,AV.bool.injEq,decide_eq_false_iff_not];exact fun e=>hn (h e)
 repeat' (first|(with_reducible first|(apply St.o;constructor)<;>intro _|refine ai ?_|(apply Sq.o;constructor))|((with_reducible refine keep0_i ?_);simp only [lP,seval])|simp (disch:=omega) only [lE,seval,List.length_map])
 . rename_i h
   exact hno (p:=(a.vals.length:Int)=b.vals.length) (fun e=>by rw [e]) h
 . rename_i h1 h2 h3 _ _ h4
   have he:a.vals.length=b.vals.length:=by omega
   have h3':a.dead=b.dead:=by simpa using h3
   have hiff:(a=b)↔a.vals=b.vals:=by rw [wr_eq];simp [h1,h2,h3']
   refine loop_i (fun i:Nat=>i<=a.vals.length/\a.vals.take i=b.vals.take i) (fun i=>⟨[(2,.op 0 0),(3,.op 1 0),(5,.int .i64 i)],[.box a.cs,.box b.cs]⟩) (fun i=>a.vals.length - i) 0 ⟨by omega,by simp⟩ (ent [0,1] false (by simp only [lP,seval,List.length_map]<;>(try simp)<;>(try omega)) (by simp only [lP,seval,List.length_map]<;>(try simp)<;>(try omega))) ?_
   rintro i ⟨hi,ha⟩
   repeat' (first|(with_reducible apply St.o;constructor) <;> intro _|(with_reducible first|refine ai ?_|(apply Sp.o;constructor)|refine mkl_own ?_|refine ap_own ?_|refine base0_i ?_|refine any00_i ?_|refine frz0_i ?_|refine any_i [] ?_)|((with_reducible refine keep0_i ?_);simp only [lP,seval])|simp (disch:=omega) only [lE,seval,IdxR_vls,Int.toNat_natCast,List.length_map,vl_eq])
   . rename_i g1 g2
     rw [eq_comm,AV.bool.injEq,decide_eq_false_iff_not,hiff]
     exact ne_at (i:=i) (by simpa using g2)
   . rename_i g1 g2
     exact back_i (i+1) ⟨by omega,take_next he (by omega) ha (by simpa using g2)⟩ (by omega) (ent [0,1] false)
   . rename_i g1
     rw [eq_comm,AV.bool.injEq,decide_eq_true_iff,hiff]
     exact eq_all he (by omega) ha
 . rename_i h
   exact hno (p:=(a.dead != b.dead)=false) (fun e=>by rw [e];simp) (by rw [h];simp)
 . rename_i h
   exact hno (fun e=>by rw [e]) h
 . rename_i h
   exact hno (fun e=>by rw [e]) h
theorem c29 (a b:List WR):ACalls E.P 29 [.view 4 (a.map WR.av),.view 4 (b.map WR.av)] [] (fun r H=>r=.bool (decide (a=b))/\H=[]):=by
 have hmax:=maxLen_eq
 refine ok29.acalls hE hm (by simp) fun N hN=>?_
 unfold mc29 q29_0 pM pG pI pB pN pA oM oR oZ oQ oW
 simp only [lA,seval]
 refine LenR_i fun hl=>?_
 rw [List.length_map,hmax] at hl
 simp only [lA,seval,List.length_map]
 refine LenR_i fun hl2=>?_
 rw [hmax] at hl2
 simp only [lA,seval,List.length_map]
 repeat' (first|(with_reducible first|(apply St.o;constructor)<;>intro _|refine ai ?_|(apply Sq.o;constructor))|((with_reducible refine keep0_i ?_);simp only [lP,seval])|simp (disch:=omega) only [lE,seval,List.length_map])
 . rename_i h
   simp only [AV.bool.injEq,and_true]
   rw [eq_comm,decide_eq_false_iff_not]
   rintro rfl;simp at h
 . rename_i h
   have he:a.length=b.length:=by omega
   refine loop_i (fun i:Nat=>i<=a.length/\a.take i=b.take i) (fun i=>⟨[(0,.view 4 (a.map WR.av)),(1,.view 4 (b.map WR.av)),(5,.int .i64 i)],[]⟩) (fun i=>a.length - i) 0 ⟨by omega,by simp⟩ (ent [] false (by simp only [lP,seval,List.length_map]<;>(try simp)<;>(try omega)) (by simp only [lP,seval,List.length_map]<;>(try simp)<;>(try omega))) ?_
   rintro i ⟨hi,ha⟩
   have h45:=c45 (a.getD i default) (b.getD i default)
   simp only [wr_av] at h45
   repeat' (first|(with_reducible apply St.o;constructor) <;> intro _|(with_reducible first|refine ai ?_|(apply Sp.o;constructor)|refine mkl_own ?_|refine ap_own ?_|refine base0_i ?_|refine any00_i ?_|refine frz0_i ?_|refine any_i [] ?_)|((with_reducible apply Sc.o true;constructor);simp only [lP,seval,IdxR_wrs,Int.toNat_natCast,List.length_map];refine ⟨_,h45,?_⟩;rintro _ _ ⟨rfl,rfl⟩;simp only [lA,lP,seval,IdxR_wrs,Int.toNat_natCast,List.length_map])|((with_reducible refine keep0_i ?_);simp only [lP,seval])|simp (disch:=omega) only [lE,seval,IdxR_wrs,Int.toNat_natCast,List.length_map])
   . rename_i h1 h2
     rw [eq_comm,AV.bool.injEq,decide_eq_false_iff_not]
     exact ne_at (i:=i) (by simpa using h2)
   . rename_i h1 h2
     exact back_i (i+1) ⟨by omega,take_next he (by omega) ha (by simpa using h2)⟩ (by omega) (ent [] false)
   . rename_i h1
     rw [eq_comm,AV.bool.injEq,decide_eq_true_iff]
     exact eq_all he (by omega) ha
structure Ver where
 row:Int
 stamp:Int
 dead:Bool
 vals:List VL
 deriving DecidableEq
instance:Inhabited Ver:=⟨⟨0,0,false,[]⟩⟩
abbrev Ver.cs (v:Ver):List AV:=[.int .i64 v.row,.int .i64 v.stamp,.bool v.dead,.view 3 (v.vals.map VL.av)]
def Ver.av (v:Ver):AV:=.agg v.cs
def diff (l:List Ver):Prop:=l.Pairwise fun a b=>¬(a.row=b.row/\a.stamp=b.stamp)
def okV (v:Ver):Prop:=1<=v.row/\v.row<=1073741824/\1<=v.stamp/\v.stamp<=1073741824/\(v.dead=true->v.vals=[])
instance (v:Ver):Decidable (okV v):=by unfold okV;infer_instance
instance (l:List Ver):Decidable (diff l):=by unfold diff;infer_instance
def goodL (l:List Ver):Prop:=(∀ v ∈ l,okV v)/\diff l
instance (l:List Ver):Decidable (goodL l):=by unfold goodL;infer_instance
theorem cl_load (c:CL):(if 6<=c.cs.length then some (AV.agg (List.take 6 c.cs)) else none)=some c.av:=by simp [CL.cs,CL.av]
def okC (c:CL):Prop:=(0<=c.kind/\c.kind<=7)/\((c.kind=1\/c.kind=2)->(0<=c.a/\c.a<=2)/\0<=c.b/\c.b<=8)
instance (c:CL):Decidable (okC c):=by unfold okC;infer_instance
end Go.Proofs.Try
