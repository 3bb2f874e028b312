/-
 A part of the proof.
-/
import Derived.Test.YtfhoeghdioofmaaGreatEkk
set_option linter.unusedSimpArgs false
set_option linter.unusedVariables false
namespace Go.Proofs.Try
open Go.Proofs.Tryz
open Go.Al
set_option maxRecDepth 100000
set_option maxHeartbeats 16000000
def mc30:MC:=(.seq (.ops [pK 4 1,pK 5 2,pZ 6]) (.seq (.ops [pM 7 0,(none,.v (.fn 8 (.func 80) [] [.t 4,.t 5])),pW 9 79 7 8,pM 6 9]) .ret))
theorem ok30:FnOk E 30 10 [.tmp 6] mc30:=ofk func30
abbrev q32_0:MI:=oZ 2
def mc32:MC:=(.seq (.ops [(none,q32_0)]) (.seq (.seq (.ops [pI 3 0]) (.block 0 (.loop (.seq (.seq (.ops [pM 6 3,pM 7 0,pG 8 7,pB 9 6 8]) (.cond 9 .skip (.exit 0))) (.seq (.block 1 (.seq (.ops [pM 12 0,pM 13 3,pQ 14 4 12 13,pR 15 4 14,(none,.e (.alloc 4 z1)),pS 4 4 15]) (.seq (.seq (.ops [pF 16 0 4,pL 17 16,(none,.v (.bin 18 .lss false (.t 17) (.c (.int .i64 1)))),pM 19 18,gF 19 (oF 20 0 4),gF 19 (oL 21 20),(some (19,false),.v (.bin 22 .gtr false (.t 21) (.c (.int .i64 1073741824)))),pO 23 19 22,pM 24 23,gF 24 (oF 25 1 4),gF 24 (oL 26 25),(some (24,false),.v (.bin 27 .lss false (.t 26) (.c (.int .i64 1)))),pO 28 24 27,pM 29 28,gF 29 (oF 30 1 4),gF 29 (oL 31 30),(some (29,false),.v (.bin 32 .gtr false (.t 31) (.c (.int .i64 1073741824)))),pO 33 29 32,pM 34 33,gF 34 (oF 35 2 4),gF 34 (oL 36 35),gF 34 (oM 37 36),gT 37 (oF 38 3 4),gT 37 (oL 39 38),gT 37 (oG 40 39),(some (37,true),.v (.bin 41 .gtr false (.t 40) (.c (.int .i64 0)))),gF 34 (oP 42 37 41),pO 43 34 42]) (.cond 43 (.seq (.ops [(none,q32_0)]) .ret) .skip)) (.seq (.ops [pI 5 0]) (.block 2 (.loop (.seq (.seq (.ops [pM 44 5,pM 45 3,pB 46 44 45]) (.cond 46 .skip (.exit 2))) (.seq (.block 3 (.seq (.any false (.pure0 none (oM 49 0) (.pure0 none (oM 50 5) (.pure0 none (oQ 51 4 49 50) (.pure0 none (oF 52 0 51) (.pure0 none (oL 53 52) (.pure0 none (oF 54 0 4) (.pure0 none (oL 55 54) (.pure0 none (.v (.bin 56 .eql false (.t 53) (.t 55))) (.pure0 none (oM 57 56) (.pure0 (some (57,true)) (oM 58 0) (.pure0 (some (57,true)) (oM 59 5) (.pure0 (some (57,true)) (oQ 60 4 58 59) (.pure0 (some (57,true)) (oF 61 1 60) (.pure0 (some (57,true)) (oL 62 61) (.pure0 (some (57,true)) (oF 63 1 4) (.pure0 (some (57,true)) (oL 64 63) (.pure0 (some (57,true)) (.v (.bin 65 .eql false (.t 62) (.t 64))) (.pure0 none (oP 66 57 65) .done))))))))))))))))))) (.cond 66 (.seq (.ops [(none,q32_0)]) .ret) .skip))) (.ops [pM 47 5,pA 48 47 1,pM 5 48]))))))))) (.ops [pM 10 3,pA 11 10 1,pM 3 11])))))) (.seq (.ops [(none,.v (.mov 2 (.c (.bool true))))]) .ret)))
theorem ok32:FnOk E 32 67 [.tmp 2] mc32:=ofk func32
def mc79:MC:=(.seq (.ops [pZ 4]) (.seq (.ops [pM 5 0,pM 6 1,pW 7 118 5 6,(none,.v (.bin 8 .geq false (.t 7) (.c (.int .i64 0)))),pM 4 8]) .ret))
theorem ok79:FnOk E 79 9 [.tmp 4] mc79:=ofk func79
def mc80:MC:=(.seq (.ops [pK 3 0,pZ 4]) (.seq (.ops [pF 5 0 3,pL 6 5,pL 7 1,(none,.v (.bin 8 .eql false (.t 6) (.t 7))),pM 9 8,gT 9 (oF 10 1 3),gT 9 (oL 11 10),gT 9 (oL 12 2),(some (9,true),.v (.bin 13 .gtr false (.t 11) (.t 12))),pP 14 9 13,pM 4 14]) .ret))
theorem ok80:FnOk E 80 15 [.tmp 4] mc80:=ofk func80
def mc118:MC:=(.seq (.ops [pI 4 0]) (.seq (.seq (.ops [pM 6 0,pG 7 6,pI 8 0]) (.block 0 (.loop (.seq (.ops [pB 9 8 7]) (.seq (.cond 9 .skip (.exit 0)) (.seq (.block 1 (.seq (.ops [pM 10 8,pM 5 10]) (.seq (.ops [pM 11 1,pM 12 0,pM 13 5,pQ 14 4 12 13,pR 15 4 14,(none,.e (.callv (some 16) (.t 11) [.t 15]))]) (.cond 16 (.seq (.ops [pM 17 5,pM 4 17]) .ret) .skip)))) (.ops [pA 18 8 1,pM 8 18]))))))) (.seq (.ops [(none,.v (.mov 4 (.c (.int .i64 (-1)))))]) .ret)))
theorem ok118:FnOk E 118 19 [.tmp 4] mc118:=ofk func118
structure Ver where
 row:Int
 stamp:Int
 dead:Bool
 vals:List VL
 deriving DecidableEq
instance:Inhabited Ver:=⟨⟨0,0,false,[]⟩⟩
abbrev Ver.cs (v:Ver):List AV:=[.int .i64 v.row,.int .i64 v.stamp,.bool v.dead,.view 3 (v.vals.map VL.av)]
def Ver.av (v:Ver):AV:=.agg v.cs
theorem ver_av (v:Ver):v.av=.agg v.cs:=rfl
theorem vw_ver {H:List AObj} {l:List Nat} {n:Nat} (v:Ver):vw H l (n+1) v.av=v.av:=by simp [Ver.av,vw_agg,vw_int,vw_bool,vw_view]
theorem vw_vers {H:List AObj} {l:List Nat} {n:Nat} {xs:List Ver}:(xs.map Ver.av).map (vw H l (n+1))=xs.map Ver.av:=map_same vw_ver xs
theorem IdxR_vers {P:Program} {m:Nat} {N:FN} {xs:List Ver} {n:Int} {d:Nat} {c:Kn} (h0:0<=n) (h1:n<xs.length):IdxR P m N (xs.map Ver.av) n d c=rK P m N c d (.vp (xs.getD n.toNat default).cs) :=
 IdxR_map (cs:=Ver.cs) (fun _=>rfl) h0 h1
def newer (l:List Ver) (row snap:Int):Bool:=l.any fun v=>decide (v.row=row) && decide (v.stamp > snap)
theorem any_next {α:Type} [Inhabited α] {p:α->Bool} {l:List α} {i:Nat} (h:i<l.length) (h1:(l.take i).any p=false) (h2:p (l.getD i default)=false):(l.take (i+1)).any p=false:=by
 rw [take_succD h,List.any_append,h1]
 simpa using h2
theorem any_at {α:Type} [Inhabited α] {p:α->Bool} {l:List α} {i:Nat} (h:i<l.length) (h2:p (l.getD i default)=true):l.any p=true:=by
 rw [List.any_eq_true]
 exact ⟨l[i],by simp,by simpa [h] using h2⟩
theorem c80 (v:Ver) (row snap:Int):ACalls E.P 80 [v.av,.vp [.int .i64 row],.vp [.int .i64 snap]] [] (fun r H=>r=.bool (decide (v.row=row) && decide (v.stamp > snap))/\H=[]):=by
 refine ok80.acalls hE hm (by simp) fun N hN=>?_
 unfold mc80 pK pZ pF pL pM pP gT oL oF
 simp only [lA,seval,ver_av]
 repeat' (first|(with_reducible first|(apply St.o;constructor)<;>intro _|refine ai ?_|(apply Sq.o;constructor))|((with_reducible refine keep0_i ?_);simp only [lP,seval])|simp (disch:=omega) only [lE,seval])
 all_goals simp_all
theorem c118 (l:List Ver) (row snap:Int) :
 ACalls E.P 118 [.view 4 (l.map Ver.av),.fn (.func 80) [] [.vp [.int .i64 row],.vp [.int .i64 snap]]] [] (fun r H=>(∃ n:Int,r=.int .i64 n/\(0<=n↔newer l row snap=true))/\H=[]):=by
 have hmax:=maxLen_eq
 refine ok118.acalls hE hm (by simp) fun N hN=>?_
 unfold mc118 pI pM pG pB pQ pR pA
 simp only [lA,seval]
 refine LenR_i fun hl=>?_
 rw [List.length_map,hmax] at hl
 simp only [lA,seval,List.length_map]
 refine loop_i (fun i:Nat=>i<=l.length/\newer (l.take i) row snap=false) (fun i=>⟨[(0,.view 4 (l.map Ver.av)),(1,.fn (.func 80) [] [.vp [.int .i64 row],.vp [.int .i64 snap]]),(7,.int .i64 l.length),(8,.int .i64 i)],[]⟩) (fun i=>l.length - i) 0 ⟨by omega,rfl⟩ (Ent.to [] false (by simp) (by simp) rfl (by simp only [lP,seval]<;>(try simp)<;>(try omega)) (by simp only [lP,seval]<;>(try simp)<;>(try omega))) ?_
 rintro i ⟨hi,ha⟩
 have hpi:=c80 (l.getD i default) row snap
 simp only [ver_av] at hpi
 repeat' (first|(with_reducible first|(apply St.o;constructor)<;>intro _|refine ai ?_|(apply Sq.o;constructor))|((with_reducible apply Sc.o true;constructor);simp only [lP,seval,IdxR_vers,Int.toNat_natCast,List.length_map];refine ⟨_,hpi,?_⟩;rintro _ _ ⟨rfl,rfl⟩;simp only [lA,lP,seval,IdxR_vers,Int.toNat_natCast,List.length_map])|((with_reducible refine keep0_i ?_);simp only [lP,seval])|simp (disch:=omega) only [lE,seval,IdxR_vers,Int.toNat_natCast,List.length_map])
 . rename_i h1 h2
   refine ⟨i,rfl,?_⟩
   have:newer l row snap=true:=any_at (i:=i) (by omega) h2
   simp only [this,iff_true];omega
 . rename_i h1 h2
   exact back_i (i+1) ⟨by omega,any_next (by omega) ha (by simpa using h2)⟩ (by omega) (Ent.to [] false (by simp) (by simp) rfl (by simp only [lP,seval]<;>(try simp)<;>(try omega)) (by simp only [lP,seval]<;>(try simp)<;>(try omega)))
 . rename_i h1
   refine ⟨-1,rfl,?_⟩
   rw [List.take_of_length_le (by omega)] at ha
   simp [ha]
theorem c79 (l:List Ver) (row snap:Int) :
 ACalls E.P 79 [.view 4 (l.map Ver.av),.fn (.func 80) [] [.vp [.int .i64 row],.vp [.int .i64 snap]]] [] (fun r H=>r=.bool (newer l row snap)/\H=[]):=by
 have h118:=c118 l row snap
 refine ok79.acalls hE hm (by simp) fun N hN=>?_
 unfold mc79 pZ pM pW
 simp only [lA,seval]
 repeat' (first|(with_reducible first|(apply St.o;constructor)<;>intro _|refine ai ?_|(apply Sq.o;constructor))|((with_reducible apply Sc.o true;constructor);simp only [lP,seval];refine ⟨_,h118,?_⟩;rintro _ _ ⟨⟨n,rfl,hn⟩,rfl⟩;simp only [lA,lP,seval])|((with_reducible refine keep0_i ?_);simp only [lP,seval])|simp (disch:=omega) only [lE,seval])
 simp only [ge_iff_le,hn,Bool.decide_eq_true]
theorem c30 (l:List Ver) (row snap:Int):ACalls E.P 30 [.view 4 (l.map Ver.av),.int .i64 row,.int .i64 snap] [] (fun r H=>r=.bool (newer l row snap)/\H=[]):=by
 have h79:=c79 l row snap
 refine ok30.acalls hE hm (by simp) fun N hN=>?_
 unfold mc30 pK pZ pM pW
 simp only [lA,seval]
 repeat' (first|(with_reducible first|(apply St.o;constructor)<;>intro _|refine ai ?_|(apply Sq.o;constructor))|((with_reducible apply Sc.o true;constructor);simp only [lP,seval];refine ⟨_,h79,?_⟩;rintro _ _ ⟨rfl,rfl⟩;simp only [lA,lP,seval])|((with_reducible refine keep0_i ?_);simp only [lP,seval])|simp (disch:=omega) only [lE,seval])
def diff (l:List Ver):Prop:=l.Pairwise fun a b=>¬(a.row=b.row/\a.stamp=b.stamp)
def okV (v:Ver):Prop:=1<=v.row/\v.row<=1073741824/\1<=v.stamp/\v.stamp<=1073741824/\(v.dead=true->v.vals=[])
instance (v:Ver):Decidable (okV v):=by unfold okV;infer_instance
instance (l:List Ver):Decidable (diff l):=by unfold diff;infer_instance
def goodL (l:List Ver):Prop:=(∀ v ∈ l,okV v)/\diff l
instance (l:List Ver):Decidable (goodL l):=by unfold goodL;infer_instance
theorem good_next {l:List Ver} {i:Nat} (hi:i<l.length) (h:goodL (l.take i)) (h1:okV (l.getD i default)) (h2:∀ k,k<i->¬((l.getD k default).row=(l.getD i default).row/\(l.getD k default).stamp=(l.getD i default).stamp)):goodL (l.take (i+1)):=by
 rw [take_succD hi]
 refine ⟨fun v hv=>?_,List.pairwise_append.2 ⟨h.2,by simp,fun a ha b hb=>?_⟩⟩
 . rcases List.mem_append.1 hv with hv | hv
   . exact h.1 v hv
   . simp only [List.mem_singleton] at hv;rw [hv];exact h1
 . simp only [List.mem_singleton] at hb
   subst hb
   obtain ⟨k,hk⟩:=List.getElem?_of_mem ha
   rw [List.getElem?_take] at hk
   split at hk
   . rename_i hki
     have:=h2 k hki
     rwa [List.getD_eq_getElem?_getD,hk,Option.getD_some] at this
   . cases hk
theorem bad_v {l:List Ver} {i:Nat} (hi:i<l.length) (h:¬ okV (l.getD i default)):¬ goodL l:=fun hg=>h (hg.1 _ (by simp [hi]))
theorem bad_k {l:List Ver} {k i:Nat} (hi:i<l.length) (hk:k<i) (h:(l.getD k default).row=(l.getD i default).row/\(l.getD k default).stamp=(l.getD i default).stamp):¬ goodL l:=fun hg=>by
 have:=List.pairwise_iff_getElem.1 hg.2 k i (by omega) hi hk
 simp [hi,show k<l.length by omega] at h
 exact this h
theorem c32 (l:List Ver):ACalls E.P 32 [.view 4 (l.map Ver.av)] [] (fun r H=>r=.bool (decide (goodL l))/\H=[]):=by
 have hmax:=maxLen_eq
 refine ok32.acalls hE hm (by simp) fun N hN=>?_
 unfold mc32 q32_0 z1 pI pM pG pB pQ pR pS pF pL pO pA gF gT oM oL oF oZ oP oG oQ
 simp only [lA,seval]
 refine loop_i (fun i:Nat=>i<=l.length/\goodL (l.take i)) (fun i=>⟨[(0,.view 4 (l.map Ver.av)),(3,.int .i64 i)],[]⟩) (fun i=>l.length - i) 0 ⟨by omega,by simp [goodL,diff]⟩ (Ent.to [] false (by simp) (by simp) rfl (by simp only [lP,seval,List.length_map]<;>(try simp)<;>(try omega)) (by simp only [lP,seval,List.length_map]<;>(try simp)<;>(try omega))) ?_
 rintro i ⟨hi,hg⟩
 repeat' (first|(with_reducible first|(apply St.o;constructor)<;>intro _|refine ai ?_|(apply Sq.o;constructor))|((with_reducible refine keep0_i ?_);simp only [lP,seval])|simp (disch:=omega) only [lE,seval,IdxR_vers,Int.toNat_natCast,List.length_map])
 all_goals try (
  rw [eq_comm,AV.bool.injEq,decide_eq_false_iff_not]
  refine bad_v (i:=i) (by omega) (fun ⟨h1,h2,h3,h4,h5⟩=>?_)
  first
  | omega
  | (have e:=congrArg List.length (h5 (by assumption));simp only [List.length_nil] at e;omega))
 all_goals try (
  rw [eq_comm,AV.bool.injEq,decide_eq_true_iff]
  rw [List.take_of_length_le (by omega)] at hg
  exact hg)
 all_goals (
  have hok:okV (l.getD i default):=⟨by omega,by omega,by omega,by omega,fun h=>by
   first
   | exact List.eq_nil_of_length_eq_zero (by omega)
   | (have g:(l.getD i default).dead = !true:=by assumption
      rw [h] at g
      exact absurd g (by simp))⟩
  refine loop_i (fun k:Nat=>k<=i/\∀ j,j<k->¬((l.getD j default).row=(l.getD i default).row/\(l.getD j default).stamp=(l.getD i default).stamp)) (fun k=>⟨[(0,.view 4 (l.map Ver.av)),(3,.int .i64 i),(4,.op 0 0),(5,.int .i64 k)],[.box (l.getD i default).cs]⟩) (fun k=>i - k) 0 ⟨by omega,fun j hj=>by omega⟩ (Ent.to [0] false (by simp) (by simp) rfl (by simp only [lP,seval,List.length_map]<;>(try simp)<;>(try omega)) (by simp only [lP,seval,List.length_map]<;>(try simp)<;>(try omega))) ?_
  rintro k ⟨hk,hall⟩
  repeat' (first|(with_reducible apply St.o;constructor) <;> intro _|(with_reducible first|refine ai ?_|(apply Sp.o;constructor)|refine mkl_own ?_|refine ap_own ?_|refine base0_i ?_|refine any00_i ?_|refine frz0_i ?_|refine any_i [] ?_)|((with_reducible refine keep0_i ?_);simp only [lP,seval])|simp (disch:=omega) only [lE,seval,IdxR_vers,Int.toNat_natCast,List.length_map])
  all_goals first
   | (rw [eq_comm,AV.bool.injEq,decide_eq_false_iff_not];exact bad_k (k:=k) (i:=i) (by omega) (by omega) ⟨by assumption,by assumption⟩)
   | (rename_i g1 g2
      exact back_i (k+1) ⟨by omega,fun j hj=>by
       by_cases hjk:j=k
       . rw [hjk];rintro ⟨e1,e2⟩;first | exact absurd e1 (by assumption) | exact absurd e2 (by assumption)
       . exact hall j (by omega)⟩ (by omega) (Ent.to [0] false (by simp) (by simp) rfl (by simp only [lP,seval]<;>(try simp)<;>(try omega)) (by simp only [lP,seval]<;>(try simp)<;>(try omega))))
   | exact back_i (i+1) ⟨by omega,good_next (by omega) hg hok (fun j hj=>hall j (by omega))⟩ (by omega) (Ent.to [] false (by simp) (by simp) rfl (by simp only [lP,seval]<;>(try simp)<;>(try omega)) (by simp only [lP,seval]<;>(try simp)<;>(try omega)))
  )
def mc20:MC:=(.seq (.ops [pZ 2]) (.seq (.seq (.ops [pI 3 0]) (.block 0 (.loop (.seq (.seq (.ops [pM 5 3,pM 6 0,pG 7 6,pB 8 5 7]) (.cond 8 .skip (.exit 0))) (.seq (.block 1 (.seq (.ops [pM 11 0,pM 12 3,pQ 13 6 11 12,pR 14 6 13,(none,.e (.alloc 4 [.int .i64 0,.int .i64 0,.int .i64 0,.int .i64 0,.bool false,.raw (.slice none 0 0)])),pS 6 4 14]) (.seq (.ops [pF 15 0 4,pL 16 15,(none,.v (.bin 17 .lss false (.t 16) (.c (.int .i64 0)))),pM 18 17,gF 18 (oF 19 0 4),gF 18 (oL 20 19),(some (18,false),.v (.bin 21 .gtr false (.t 20) (.c (.int .i64 7)))),pO 22 18 21,pM 23 22,gF 23 (oF 24 0 4),gF 23 (oL 25 24),gF 23 (oE 26 25 1),gF 23 (oM 27 26),gF 27 (oF 28 0 4),gF 27 (oL 29 28),gF 27 (oE 30 29 2),gF 23 (oO 31 27 30),gF 23 (oM 32 31),gT 32 (oF 33 2 4),gT 32 (oL 34 33),(some (32,true),.v (.bin 35 .lss false (.t 34) (.c (.int .i64 0)))),gT 32 (oM 36 35),gF 36 (oF 37 2 4),gF 36 (oL 38 37),(some (36,false),.v (.bin 39 .gtr false (.t 38) (.c (.int .i64 2)))),gT 32 (oO 40 36 39),gT 32 (oM 41 40),gF 41 (oF 42 3 4),gF 41 (oL 43 42),(some (41,false),.v (.bin 44 .lss false (.t 43) (.c (.int .i64 0)))),gT 32 (oO 45 41 44),gT 32 (oM 46 45),gF 46 (oF 47 3 4),gF 46 (oL 48 47),(some (46,false),.v (.bin 49 .gtr false (.t 48) (.c (.int .i64 8)))),gT 32 (oO 50 46 49),gF 23 (oP 51 32 50),pO 52 23 51]) (.cond 52 (.seq (.ops [pZ 2]) .ret) .skip)))) (.ops [pM 9 3,pA 10 9 1,pM 3 10])))))) (.seq (.ops [pM 53 0,pG 54 53,(none,.v (.bin 55 .leq false (.t 54) (.c (.int .i64 70)))),pM 2 55]) .ret)))
theorem ok20:FnOk E 20 56 [.tmp 2] mc20:=ofk func20
def mc31:MC:=(.seq (.ops [pK 1 0,pI 2 0]) (.seq (.ops [pF 3 0 1,pL 4 3,(none,.v (.bin 5 .mul false (.c (.int .i64 16)) (.t 4))),(none,.v (.bin 6 .add false (.c (.int .i64 1)) (.t 5))),pF 7 1 1,pL 8 7,(none,.v (.bin 9 .add false (.t 6) (.t 8))),pM 2 9]) .ret))
theorem ok31:FnOk E 31 10 [.tmp 2] mc31:=ofk func31
theorem cl_load (c:CL):(if 6<=c.cs.length then some (AV.agg (List.take 6 c.cs)) else none)=some c.av:=by simp [CL.cs,CL.av]
def okC (c:CL):Prop:=(0<=c.kind/\c.kind<=7)/\((c.kind=1\/c.kind=2)->(0<=c.a/\c.a<=2)/\0<=c.b/\c.b<=8)
instance (c:CL):Decidable (okC c):=by unfold okC;infer_instance
def smallS (l:List CL):Bool:=decide ((∀ c ∈ l,okC c)/\l.length<=70)
theorem c20 (l:List CL):ACalls E.P 20 [.view 6 (l.map CL.av)] [] (fun r H=>r=.bool (smallS l)/\H=[]):=by
 have hmax:=maxLen_eq
 refine ok20.acalls hE hm (by simp) fun N hN=>?_
 unfold mc20 pZ pI pM pG pB pQ pR pS pF pL pO pA gF gT oM oL oF oE oP oO
 simp only [lA,seval]
 refine loop_i (fun i:Nat=>i<=l.length/\∀ x ∈ l.take i,okC x) (fun i=>⟨[(0,.view 6 (l.map CL.av)),(3,.int .i64 i)],[]⟩) (fun i=>l.length - i) 0 ⟨by omega,by simp⟩ (ent [] false) ?_
 rintro i ⟨hi,hn⟩
 by_cases hil:i<l.length
 . have hm2:=getD_mem hil
   have hst:=all_step (p:=okC) hil hn
   have hno:¬ okC (l.getD i default)->smallS l=false:=fun h=>decide_eq_false fun e=>h (e.1 _ hm2)
   generalize hx:l.getD i default=x at *
   have hcs:x.cs=[.int .i64 x.kind,.int .i64 x.tx,.int .i64 x.a,.int .i64 x.b,.bool x.dead,rowV x.vals]:=rfl
   repeat' (first|(with_reducible first|(apply St.o;constructor)<;>intro _|refine ai ?_|(apply Sq.o;constructor))|simp (disch:=omega) only [lE,seval,IdxR_cls,hx,hcs,Int.toNat_natCast,List.length_map])
   all_goals try (exfalso;omega)
   all_goals first
    | (refine keep_b (hno ?_).symm;unfold okC;omega)
    | (have hok:okC x:=by unfold okC;omega
       exact back_i (i+1) ⟨by omega,hst hok⟩ (by omega) (ent [] false))
 . obtain rfl:i=l.length:=by omega
   rw [List.take_length] at hn
   repeat' (first|(with_reducible first|(apply St.o;constructor)<;>intro _|refine ai ?_|(apply Sq.o;constructor))|simp (disch:=omega) only [lE,seval,List.length_map,Int.lt_irrefl,decide_false])
   all_goals try (exfalso;omega)
   refine keep_b ?_
   unfold smallS
   rw [decide_eq_decide]
   exact ⟨fun h=>⟨hn,by omega⟩,fun h=>by omega⟩
theorem c31 (w:WR) (h1:0<=w.tab/\w.tab<=255) (h2:0<=w.row/\w.row<=1073741824):ACalls E.P 31 [w.av] [] (fun r H=>r=.int .i64 (1+16 * w.tab+w.row)/\H=[]):=by
 refine ok31.acalls hE hm (by simp) fun N hN=>?_
 unfold mc31 pK pI pF pL pM
 have e1:IntKind.i64.wrap (16 * w.tab)=16 * w.tab:=wrap_i64 (by omega) (by omega)
 have e2:IntKind.i64.wrap (1+16 * w.tab)=1+16 * w.tab:=wrap_i64 (by omega) (by omega)
 have e3:IntKind.i64.wrap (1+16 * w.tab+w.row)=1+16 * w.tab+w.row:=wrap_i64 (by omega) (by omega)
 simp only [lA,seval,wr_av]
 repeat' (first|(with_reducible first|(apply St.o;constructor)<;>intro _|refine ai ?_|(apply Sq.o;constructor))|((with_reducible refine keep0_i ?_);simp only [lP,seval])|simp (disch:=omega) only [lE,seval,e1,e2,e3])
end Go.Proofs.Try
