/-
 A part of the proof: see the text of the law.
-/
import Derived.Test.YtchlampphcaomaaGreatDoorPae
import Derived.Test.YtchlampphcaomaaGreatDoorAlphaK
set_option linter.unusedSimpArgs false
set_option linter.unusedVariables false
namespace Go.Proofs.Try
open Go.Proofs.Tryz
open Go.Al
set_option maxRecDepth 100000
abbrev q39_0:MI:=oZ 4
def mc39:MC:=(.seq (.ops [(none,q39_0)]) (.seq (.seq (.ops [pM 6 0,pG 7 6,pM 8 1,pG 9 8,(none,.v (.bin 10 .neq false (.t 7) (.t 9)))]) (.cond 10 (.seq (.ops [(none,q39_0)]) .ret) .skip)) (.seq (.seq (.ops [pI 5 0]) (.block 0 (.loop (.seq (.seq (.ops [pM 11 5,pM 12 0,pG 13 12,pB 14 11 13]) (.cond 14 .skip (.exit 0))) (.seq (.block 1 (.seq (.any false (.pure0 none (oM 17 0) (.pure0 none (oM 18 5) (.pure0 none (oQ 19 1 17 18) (.pure0 none (oL 20 19) (.pure0 none (oM 21 1) (.pure0 none (oM 22 5) (.pure0 none (oQ 23 1 21 22) (.pure0 none (oL 24 23) (.alt none (oW 25 65 20 24) (.base (.pure0 none (oN 26 25) .done)) .stop)))))))))) (.cond 26 (.seq (.ops [(none,q39_0)]) .ret) .skip))) (.ops [pM 15 5,pA 16 15 1,pM 5 16])))))) (.seq (.ops [(none,.v (.mov 4 (.c (.bool true))))]) .ret))))
theorem ok39:FnOk E 39 27 [.tmp 4] mc39:=ofk func39
abbrev q64_0:MI:=oZ 4
def mc64:MC:=(.seq (.ops [(none,q64_0)]) (.seq (.seq (.ops [pM 6 0,pG 7 6,pM 8 1,pG 9 8,(none,.v (.bin 10 .neq false (.t 7) (.t 9)))]) (.cond 10 (.seq (.ops [(none,q64_0)]) .ret) .skip)) (.seq (.seq (.ops [pM 11 0,pG 12 11,pI 13 0]) (.block 0 (.loop (.seq (.ops [pB 14 13 12]) (.seq (.cond 14 .skip (.exit 0)) (.seq (.block 1 (.seq (.ops [pM 15 13,pM 5 15]) (.seq (.any false (.pure0 none (oM 16 0) (.pure0 none (oM 17 5) (.pure0 none (oQ 18 3 16 17) (.pure0 none (oR 19 3 18) (.pure0 none (oM 20 1) (.pure0 none (oM 21 5) (.pure0 none (oQ 22 3 20 21) (.pure0 none (oR 23 3 22) (.pure0 none (.v (.eq 24 true (.agg [(0,false,1,.int),(1,false,1,.int),(2,false,1,.str)]) (.t 19) (.t 23))) .done)))))))))) (.cond 24 (.seq (.ops [(none,q64_0)]) .ret) .skip)))) (.ops [pA 25 13 1,pM 13 25]))))))) (.seq (.ops [(none,.v (.mov 4 (.c (.bool true))))]) .ret))))
theorem ok64:FnOk E 64 26 [.tmp 4] mc64:=ofk func64
abbrev q65_0:MI:=oZ 4
def mc65:MC:=(.seq (.ops [(none,q65_0)]) (.seq (.seq (.ops [pM 6 0,pG 7 6,pM 8 1,pG 9 8,(none,.v (.bin 10 .neq false (.t 7) (.t 9)))]) (.cond 10 (.seq (.ops [(none,q65_0)]) .ret) .skip)) (.seq (.seq (.ops [pI 5 0]) (.block 0 (.loop (.seq (.seq (.ops [pM 11 5,pM 12 0,pG 13 12,pB 14 11 13]) (.cond 14 .skip (.exit 0))) (.seq (.block 1 (.seq (.any false (.pure0 none (oM 17 0) (.pure0 none (oM 18 5) (.pure0 none (oQ 19 3 17 18) (.pure0 none (oR 20 3 19) (.pure0 none (oM 21 1) (.pure0 none (oM 22 5) (.pure0 none (oQ 23 3 21 22) (.pure0 none (oR 24 3 23) (.pure0 none (.v (.eq 25 true (.agg [(0,false,1,.int),(1,false,1,.int),(2,false,1,.str)]) (.t 20) (.t 24))) .done)))))))))) (.cond 25 (.seq (.ops [(none,q65_0)]) .ret) .skip))) (.ops [pM 15 5,pA 16 15 1,pM 5 16])))))) (.seq (.ops [(none,.v (.mov 4 (.c (.bool true))))]) .ret))))
theorem ok65:FnOk E 65 26 [.tmp 4] mc65:=ofk func65
def mc98:MC:=(.seq (.ops [pK 2 0,pZ 3]) (.seq (.ops [pF 4 0 2,pF 5 0 4,pL 6 5,pF 7 1 1,pL 8 7,(none,.v (.bin 9 .eql false (.t 6) (.t 8))),pM 3 9]) .ret))
theorem ok98:FnOk E 98 10 [.tmp 3] mc98:=ofk func98
def mc99:MC:=(.seq (.ops [pY 2]) (.seq (.seq (.ops [pM 3 0,(none,.v (.eq 4 false .slc (.t 3) (.c (.raw (.slice none 0 0)))))]) (.cond 4 (.seq (.ops [pY 2]) .ret) .skip)) (.seq (.ops [(none,.e (.mkl 5 69 1 0 (.raw (.slice none 0 0)) [])),pM 6 0,(none,.e (.app 7 69 1 24 (.t 5) (.t 6))),pM 2 7]) .ret)))
theorem ok99:FnOk E 99 8 [.tmp 2] mc99:=ofk func99
def mc105:MC:=(.seq (.ops [pK 1 0,(none,.v (.mov 2 (.c (.raw .nilFunc))))]) (.seq (.ops [(none,.v (.fn 3 (.func 128) [] [.t 1])),pM 2 3]) .ret))
theorem ok105:FnOk E 105 4 [.tmp 2] mc105:=ofk func105
def mc107:MC:=(.seq (.ops [pZ 3]) (.seq (.ops [pM 4 0,pL 5 1,pW 6 64 4 5,pM 3 6]) .ret))
theorem ok107:FnOk E 107 7 [.tmp 3] mc107:=ofk func107
set_option maxRecDepth 20000
set_option maxHeartbeats 8000000
theorem vl_eq {a b:VL}:a=b↔a.k=b.k∧a.n=b.n∧a.s=b.s:=by
 cases a;cases b;simp
theorem c64 (l m:List VL):ACalls E.P 64 [rowV l,rowV m] [] (fun r H=>r=.bool (eqC l m)∧H=[]):=by
 have hmax:=maxLen_eq
 refine ok64.acalls hE hm (by simp) fun N hN=>?_
 unfold mc64 q64_0 pM pG pI pB pA oM oR oZ oQ
 simp only [lA,seval]
 repeat' (first|(with_reducible first|(apply St.o;constructor)<;>intro _|refine And.intro (by omega) ?_|(apply Sq.o;constructor))|simp (disch:=omega) only [lE,seval,List.length_map])
 · rename_i h
   exact keep_b (eqC_false.2 fun h2=>by subst h2;omega).symm
 · rename_i h
   have hlen:l.length=m.length:=by omega
   refine loop_i (fun i:Nat=>i≤l.length∧∀ j,j<i→l.getD j default=m.getD j default) (fun i=>⟨[(0,rowV l),(1,rowV m),(12,.int .i64 l.length),(13,.int .i64 i)],[]⟩) (fun i=>l.length - i) 0 ⟨by omega,by simp⟩ (ent [] false) ?_
   rintro i ⟨hi,ha⟩
   by_cases hin:i<l.length
   · have hlt:((i:Int)<(l.length:Int)):=by omega
     repeat' (first|(with_reducible first|(apply St.o;constructor)<;>intro _|refine And.intro (by omega) ?_|(apply Sq.o;constructor))|with_reducible refine any_i [] ?_|simp (disch:=omega) only [lE,seval,IdxR_vls,Int.toNat_natCast,List.length_map,hlt,decide_true,strA])
     · rename_i h2
       have h3:¬ (l.getD i default=m.getD i default):=fun h=>by first | (rw [h] at h2;simp at h2;done) | (simp at h2 h;exact h2 h)
       exact keep_b (eqC_false.2 fun h4=>by subst h4;exact h3 rfl).symm
     · rename_i h2
       have h3:l.getD i default=m.getD i default:=vl_eq.2 (by simpa [and_assoc] using h2)
       refine back_i (i+1) ⟨by omega,fun j hj=>?_⟩ (by omega) (ent [] false)
       by_cases hji:j<i
       · exact ha j hji
       · obtain rfl:j=i:=by omega
         exact h3
   · obtain rfl:i=l.length:=by omega
     repeat' (first|(with_reducible first|(apply St.o;constructor)<;>intro _|refine And.intro (by omega) ?_|(apply Sq.o;constructor))|simp (disch:=omega) only [lE,seval,List.length_map,Int.lt_irrefl,decide_false])
     exact keep_b (eqC_iff.2 (list_eqG hlen ha)).symm
theorem c65 (l m:List VL):ACalls E.P 65 [rowV l,rowV m] [] (fun r H=>r=.bool (eqC l m)∧H=[]):=by
 have hmax:=maxLen_eq
 refine ok65.acalls hE hm (by simp) fun N hN=>?_
 unfold mc65 q65_0 pM pG pI pB pA oM oR oZ oQ
 simp only [lA,seval]
 repeat' (first|(with_reducible first|(apply St.o;constructor)<;>intro _|refine And.intro (by omega) ?_|(apply Sq.o;constructor))|simp (disch:=omega) only [lE,seval,List.length_map])
 · rename_i h
   exact keep_b (eqC_false.2 fun h2=>by subst h2;omega).symm
 · rename_i h
   have hlen:l.length=m.length:=by omega
   refine loop_i (fun i:Nat=>i≤l.length∧∀ j,j<i→l.getD j default=m.getD j default) (fun i=>⟨[(0,rowV l),(1,rowV m),(5,.int .i64 i)],[]⟩) (fun i=>l.length - i) 0 ⟨by omega,by simp⟩ (ent [] false) ?_
   rintro i ⟨hi,ha⟩
   by_cases hin:i<l.length
   · have hlt:((i:Int)<(l.length:Int)):=by omega
     repeat' (first|(with_reducible first|(apply St.o;constructor)<;>intro _|refine And.intro (by omega) ?_|(apply Sq.o;constructor))|with_reducible refine any_i [] ?_|simp (disch:=omega) only [lE,seval,IdxR_vls,Int.toNat_natCast,List.length_map,hlt,decide_true,strA])
     · rename_i h2
       have h3:¬ (l.getD i default=m.getD i default):=fun h=>by first | (rw [h] at h2;simp at h2;done) | (simp at h2 h;exact h2 h)
       exact keep_b (eqC_false.2 fun h4=>by subst h4;exact h3 rfl).symm
     · rename_i h2
       have h3:l.getD i default=m.getD i default:=vl_eq.2 (by simpa [and_assoc] using h2)
       refine back_i (i+1) ⟨by omega,fun j hj=>?_⟩ (by omega) (ent [] false)
       by_cases hji:j<i
       · exact ha j hji
       · obtain rfl:j=i:=by omega
         exact h3
   · obtain rfl:i=l.length:=by omega
     repeat' (first|(with_reducible first|(apply St.o;constructor)<;>intro _|refine And.intro (by omega) ?_|(apply Sq.o;constructor))|simp (disch:=omega) only [lE,seval,List.length_map,Int.lt_irrefl,decide_false])
     exact keep_b (eqC_iff.2 (list_eqG hlen ha)).symm
abbrev rwsV (l:Rws):AV:=.view 1 (l.map rowV)
theorem c39 (l m:Rws):ACalls E.P 39 [rwsV l,rwsV m] [] (fun r H=>r=.bool (eqC l m)∧H=[]):=by
 have hmax:=maxLen_eq
 refine ok39.acalls hE hm (by simp) fun N hN=>?_
 unfold mc39 q39_0 pM pG pI pB pA oM oL oZ oN oQ oW
 simp only [lA,seval]
 repeat' (first|(with_reducible first|(apply St.o;constructor)<;>intro _|refine And.intro (by omega) ?_|(apply Sq.o;constructor))|simp (disch:=omega) only [lE,seval,List.length_map])
 · rename_i h
   exact keep_b (eqC_false.2 fun h2=>by subst h2;omega).symm
 · rename_i h
   have hlen:l.length=m.length:=by omega
   refine loop_i (fun i:Nat=>i≤l.length∧∀ j,j<i→l.getD j default=m.getD j default) (fun i=>⟨[(0,rwsV l),(1,rwsV m),(5,.int .i64 i)],[]⟩) (fun i=>l.length - i) 0 ⟨by omega,by simp⟩ (ent [] false) ?_
   rintro i ⟨hi,ha⟩
   by_cases hin:i<l.length
   · have hlt:((i:Int)<(l.length:Int)):=by omega
     have hr:=c65 (l.getD i default) (m.getD i default)
     generalize hx:l.getD i default=x at *
     generalize hy:m.getD i default=y at *
     repeat' (first|(with_reducible first|(apply St.o;constructor)<;>intro _|refine And.intro (by omega) ?_|(apply Sq.o;constructor))|((with_reducible apply Sc.o true;constructor);simp only [lP,seval,IdxR_rows,hx,hy,Int.toNat_natCast,List.length_map,hlt,decide_true];refine ⟨_,hr,?_⟩;rintro _ _ ⟨rfl,rfl⟩;simp only [lA,lP,seval,IdxR_rows,hx,hy,Int.toNat_natCast,List.length_map,hlt,decide_true])|with_reducible refine any_i [] ?_|simp (disch:=omega) only [lE,seval,IdxR_rows,hx,hy,Int.toNat_natCast,List.length_map,hlt,decide_true])
     · rename_i h2
       have h3:x≠y:=eqC_false.1 (by simpa using h2)
       exact keep_b (eqC_false.2 fun h4=>by subst h4;exact h3 (hx.symm.trans hy)).symm
     · rename_i h2
       have h3:x=y:=eqC_iff.1 (by simpa using h2)
       refine back_i (i+1) ⟨by omega,fun j hj=>?_⟩ (by omega) (ent [] false)
       by_cases hji:j<i
       · exact ha j hji
       · obtain rfl:j=i:=by omega
         rw [hx,hy,h3]
   · obtain rfl:i=l.length:=by omega
     repeat' (first|(with_reducible first|(apply St.o;constructor)<;>intro _|refine And.intro (by omega) ?_|(apply Sq.o;constructor))|simp (disch:=omega) only [lE,seval,List.length_map,Int.lt_irrefl,decide_false])
     exact keep_b (eqC_iff.2 (list_eqG hlen ha)).symm
theorem c98 (q:QY) (d:DA):ACalls E.P 98 (.agg d.cs::[q.cs].map AV.vp) [] (fun r H=>r=.bool (namedD q.tab d)∧H=[]):=by
 refine ok98.acalls hE hm (by simp) fun N hN=>?_
 unfold mc98 pK pZ pF pL pM
 simp only [lA,seval,List.map_cons,List.map_nil]
 repeat' (first|(with_reducible first|(apply St.o;constructor)<;>intro _|refine And.intro (by omega) ?_|(apply Sq.o;constructor))|simp (disch:=omega) only [lE,seval,strA])
 exact keep_b rfl
theorem c107 (x r:List VL):ACalls E.P 107 (rowV x::[[rowV r]].map AV.vp) [] (fun o H=>o=.bool (eqC x r)∧H=[]):=by
 have h:=c64 x r
 refine ok107.acalls hE hm (by simp) fun N hN=>?_
 unfold mc107 pZ pM pL pW
 simp only [lA,seval,List.map_cons,List.map_nil]
 repeat' (first|(with_reducible first|(apply St.o;constructor)<;>intro _|refine And.intro (by omega) ?_|(apply Sq.o;constructor))|((with_reducible apply Sc.o true;constructor);simp only [lP,seval];refine ⟨_,h,?_⟩;rintro _ _ ⟨rfl,rfl⟩;simp only [lA,lP,seval])|simp (disch:=omega) only [lE,seval])
 exact keep_b rfl
theorem c105 (o:List OD):ACalls E.P 105 [.view 2 (o.map OD.av)] [] (fun r H=>r=.fn (.func 128) [] [.vp [.view 2 (o.map OD.av)]]∧H=[]):=by
 refine ok105.acalls hE hm (by simp) fun N hN=>?_
 unfold mc105 pK pM
 simp only [lA,seval]
 repeat' (first|(with_reducible first|(apply St.o;constructor)<;>intro _|refine And.intro (by omega) ?_|(apply Sq.o;constructor))|simp (disch:=omega) only [lE,seval])
 exact keep_i [] true (by simp) (by simp) rfl ⟨by simp only [lP,seval],by simp only [lP,seval]⟩
theorem c99 (l:Rws) (hl:l.length≤1000000):ACalls E.P 99 [rwsV l] [] (fun r H=>r=.slc 0 1 l.length∧H=[.arr 69 1 (l.map rowV)]):=by
 have hmax:=maxLen_eq
 cases l with
 | nil =>
   refine ACalls.ghost 69 1 (by omega) ?_
   refine ACalls.view0 fun a c=>?_
   refine ok99.acalls hE hm (by simp) fun N hN=>?_
   unfold mc99 pY pM
   simp only [lA,seval]
   cases a with
   | none =>
     repeat' (first|(with_reducible first|(apply St.o;constructor)<;>intro _|refine And.intro (by omega) ?_|(apply Sq.o;constructor))|simp (disch:=omega) only [lE,seval,slcNil,isEmptySlice,Option.isNone_none])
     all_goals try (rename_i h;simp at h;done)
     exact keep_i [] false rfl (by simp) rfl (.inl ⟨by simp only [lP,seval],by simp only [lP,seval,List.length_nil],by simp only [lP,seval,List.map_nil,List.nil_append]⟩)
   | some b =>
     repeat' (first|(with_reducible first|(apply St.o;constructor)<;>intro _|refine And.intro (by omega) ?_|(apply Sq.o;constructor))|simp (disch:=omega) only [lE,seval,slcNil,isEmptySlice,Option.isNone_some])
     all_goals try (rename_i h;simp at h;done)
     exact keep_i [1] false (by simp) (by simp) rfl (.inr ⟨by simp only [lP,seval,List.length_nil],by simp only [lP,seval,List.map_nil]⟩)
 | cons v l =>
   simp only [List.length_cons] at hl
   refine ok99.acalls hE hm (by simp) fun N hN=>?_
   unfold mc99 pY pM
   simp only [lA,seval,rwsV,List.map_cons]
   repeat' (first|(with_reducible first|(apply St.o;constructor)<;>intro _|refine And.intro (by omega) ?_|(apply Sq.o;constructor))|simp (disch:=omega) only [lE,seval,List.length_map,List.length_cons])
   refine keep_i [1] false (by simp) (by simp) rfl ⟨by simp only [lP,seval,List.length_cons],?_⟩
   simp only [lP,seval,pa_rows]
   try rfl
set_option maxRecDepth 100000
def mc100:MC:=(.seq (.ops [pK 2 0,pY 4,pI 5 0]) (.seq (.ops [pM 11 1,(none,.p (.pre 12 1 (.t 11) (some (.c (.int .i64 0))))),pM 6 12]) (.seq (.seq (.ops [pM 13 1,pG 14 13,pI 15 0]) (.block 0 (.loop (.seq (.ops [pB 16 15 14]) (.seq (.cond 16 .skip (.exit 0)) (.seq (.block 1 (.seq (.ops [pQ 17 1 13 15,pL 18 17,pM 8 18]) (.seq (.ops [pR 20 6 2,pM 21 8,pW 22 121 20 21,pM 19 22,pX 23 0 19,pX 24 1 19,pM 9 23,pM 10 24]) (.seq (.seq (.ops [pM 25 10,pD 26 25 0]) (.cond 26 (.seq (.ops [pM 27 10,pY 4,pM 5 27]) .ret) .skip)) (.seq (.ops [pM 28 9]) (.cond 28 (.ops [pM 29 6,pM 30 8,(none,.e (.mkl 31 69 1 1 (.raw (.slice none 0 0)) [(0,.t 30)])),(none,.e (.app 32 69 1 24 (.t 29) (.t 31))),pM 6 32]) .skip)))))) (.ops [pA 33 15 1,pM 15 33]))))))) (.seq (.ops [pM 34 6,pM 4 34,pI 5 0]) .ret))))
theorem ok100:FnOk E 100 35 [.tmp 4,.tmp 5] mc100:=ofk func100
def mc102:MC:=(.seq (.ops [pY 4,pI 5 0]) (.seq (.ops [pY 6]) (.seq (.seq (.ops [pM 11 0,pG 12 11,pI 13 0]) (.block 0 (.loop (.seq (.ops [pB 14 13 12]) (.seq (.cond 14 .skip (.exit 0)) (.seq (.block 1 (.seq (.ops [pQ 15 6 11 13,pR 16 6 15,(none,.e (.alloc 8 z3)),pS 6 8 16]) (.seq (.ops [pR 18 6 8,pM 19 1,pW 20 123 18 19,pM 17 20,pX 21 0 17,pX 22 1 17,(none,.e (.alloc 9 z2)),pS 3 9 21,pM 10 22]) (.seq (.seq (.ops [pM 23 10,pD 24 23 0]) (.cond 24 (.seq (.ops [pM 25 10,pY 4,pM 5 25]) .ret) .skip)) (.ops [pM 26 6,pR 27 3 9,(none,.e (.mkl 28 25 3 1 (.agg z2) [(0,.t 27)])),(none,.e (.app 29 25 3 32 (.t 26) (.t 28))),pM 6 29]))))) (.ops [pA 30 13 1,pM 13 30]))))))) (.seq (.ops [pM 31 6,pM 4 31,pI 5 0]) .ret))))
theorem ok102:FnOk E 102 32 [.tmp 4,.tmp 5] mc102:=ofk func102
set_option maxRecDepth 20000
def fitE (n:Nat) (e:EX):Prop:=e.formed=true∧e.tr.fits n∧e.tr.vals VL.Right
def rtR (n:Nat) (r:List VL):Prop:=r.length=n∧∀ v ∈ r,v.Right
theorem fitE_of {ks:List Int} {e:EX} (h:(chk ks e).2=0):fitE ks.length e:=by
 obtain ⟨h1,h2,_⟩:=chk_ok h
 obtain ⟨_,hw,_⟩:=ex_tr e h1
 exact ⟨h1,kind_ok ks e.tr hw h2⟩
theorem rtR_of {ks:List Int} {r:List VL} (h:okRow ks r):rtR ks.length r:=⟨h.1,okRow_right h⟩
theorem ev {n:Nat} {e:EX} {r:List VL} (hf:fitE n e) (hr:rtR n r):ACalls E.P 123 [e.av,rowV r] [] (fun q H=>q=.tup [(e.tr.eval r).1.av,.int .i64 (e.tr.eval r).2]∧H=[]):=by
 obtain ⟨h1,h2,h3⟩:=hf
 obtain ⟨h4,hw,_⟩:=ex_tr e h1
 have:=c123 hr.2 e.tr hw (by rw [hr.1];exact h2) h3
 rwa [h4] at this
theorem eh {n:Nat} {e:EX} {r:List VL} (hf:fitE n e) (hr:rtR n r):ACalls E.P 121 [e.av,rowV r] [] (fun q H=>q=.tup [.bool (e.tr.holds r),.int .i64 (e.tr.eval r).2]∧H=[]):=by
 obtain ⟨h1,h2,h3⟩:=hf
 obtain ⟨h4,hw,_⟩:=ex_tr e h1
 have:=c121 hr.2 e.tr hw (by rw [hr.1];exact h2) h3
 rwa [h4] at this
theorem keep_ve {k:Int} {H:List AObj} {Q:List VL × Int} (h:Q=([],k)):keepQ 0 (fun r H=>r=.tup [rowV Q.1,.int .i64 Q.2]∧H=[]) (.tup [.raw (.slice none 0 0),.int .i64 k]) H:=by
 subst h
 refine keepw_i [] false rfl (by simp) rfl (r':=.tup [.view 3 [],.int .i64 k]) ?_ ⟨rfl,rfl⟩
 exact WeakL.tup (.cons weak_nil (.refl _))
theorem keep_re {k:Int} {H:List AObj} {Q:Rws × Int} (h:Q=([],k)):keepQ 0 (fun r H=>r=.tup [rwsV Q.1,.int .i64 Q.2]∧H=[]) (.tup [.raw (.slice none 0 0),.int .i64 k]) H:=by
 subst h
 refine keepw_i [] false rfl (by simp) rfl (r':=.tup [.view 1 [],.int .i64 k]) ?_ ⟨rfl,rfl⟩
 exact WeakL.tup (.cons weak_nil (.refl _))
theorem c102 {n:Nat} (l:List EX) (r:List VL) (hf:∀ e ∈ l,fitE n e) (hr:rtR n r) (hl:l.length≤1000000) :
 ACalls E.P 102 [.view 6 (l.map EX.av),rowV r] [] (fun q H=>q=.tup [rowV (valuesE l r).1,.int .i64 (valuesE l r).2]∧H=[]):=by
 have hmax:=maxLen_eq
 unfold valuesE
 refine ok102.acalls hE hm (by simp) fun N hN=>?_
 unfold mc102 z2 z3 pY pI pM pG pB pQ pR pS pW pX pD pA
 simp only [lA,seval]
 repeat' (first|(with_reducible first|(apply St.o;constructor)<;>intro _|refine And.intro (by omega) ?_|(apply Sq.o;constructor))|simp (disch:=omega) only [lE,seval,List.length_map])
 refine loop_i (fun i:Nat=>i≤l.length∧∀ x ∈ l.take i,(x.tr.eval r).2=0) (fun i=>⟨[(0,.view 6 (l.map EX.av)),(1,rowV r),(6,.slc 0 3 i),(11,.view 6 (l.map EX.av)),(12,.int .i64 l.length),(13,.int .i64 i)],[.arr 25 3 (((l.take i).map fun x=>(x.tr.eval r).1).map VL.av)]⟩) (fun i=>l.length - i) 0 ⟨by omega,by simp⟩ (Ent.ghost' 6 25 3 (by omega) rfl (ent [0] false)) ?_
 rintro i ⟨hi,hn⟩
 have hlen:(l.take i).length=i:=by simp;omega
 by_cases hin:i<l.length
 · have hlt:((i:Int)<(l.length:Int)):=by omega
   have h123:=ev (hf (l.getD i default) (by simp [hin])) hr
   have he:=mapE_err (f:=fun e:EX=>e.tr.eval r) hin hn
   have hs:=all_step (p:=fun x:EX=>decide ((x.tr.eval r).2≠0)) hin (fun x hx=>by simp [hn x hx])
   have ht:((l.take (i+1)).map fun x=>(x.tr.eval r).1).map VL.av=((l.take i).map fun x=>(x.tr.eval r).1).map VL.av++[((l.getD i default).tr.eval r).1.av]:=by
    rw [List.map_map,List.map_map];exact take_map1 (f:=VL.av ∘ fun x:EX=>(x.tr.eval r).1) hin
   generalize hx:l.getD i default=x at *
   generalize x.tr.eval r=v at *
   simp only [av_fs,vl_av] at h123
   repeat' (first|(with_reducible first|(apply St.o;constructor)<;>intro _|refine And.intro (by omega) ?_|(apply Sq.o;constructor))|((with_reducible apply Sc.o true;constructor);simp only [lP,seval,IdxR_exs,hx,Int.toNat_natCast,List.length_map,hlt,decide_true,hlen,VL.cs];refine ⟨_,h123,?_⟩;rintro _ _ ⟨rfl,rfl⟩;simp only [lA,lP,seval,IdxR_exs,hx,Int.toNat_natCast,List.length_map,hlt,decide_true,hlen,VL.cs])|simp (disch:=omega) only [lE,seval,IdxR_exs,hx,Int.toNat_natCast,List.length_map,hlt,decide_true,hlen,VL.cs])
   · rename_i h
     exact keep_ve (he h)
   · rename_i h
     refine back_i (i+1) ⟨by omega,fun y hy=>?_⟩ (by omega) ?_
     · have:=hs (by simpa using h) y hy
       simpa using this
     · rw [ht]
       exact (ent [4] false (by simp only [lP,seval,hlen,pa_vls,List.map_append,List.map_cons,List.map_nil,VL.av]<;>(try simp)<;>(try omega)) (by simp only [lP,seval,hlen,pa_vls,List.map_append,List.map_cons,List.map_nil,VL.av]<;>(try simp)<;>(try omega)))
 · obtain rfl:i=l.length:=by omega
   rw [List.take_length] at hn ⊢
   repeat' (first|(with_reducible first|(apply St.o;constructor)<;>intro _|refine And.intro (by omega) ?_|(apply Sq.o;constructor))|simp (disch:=omega) only [lE,seval,List.length_map,Int.lt_irrefl,decide_false])
   rw [mapE_ok hn]
   refine keep_i [] true (by simp) (by simp) rfl ?_
   simp only [lP,seval,vw_vls,List.length_map]
theorem set_takeR {α:Type} {b:List α} {n:Nat} {v:α} (h:n<b.length):(b.set n v).take (n+1)=b.take n++[v]:=by
 apply List.ext_getElem?
 intro i
 by_cases hi:i<n
 · simp [List.getElem?_take,List.getElem?_append,List.getElem?_set,show i<n+1 by omega,hi,show ¬ n=i by omega,show i<min n b.length by omega,List.length_take]
 · by_cases hi2:i=n
   · subst hi2
     simp [List.getElem?_take,List.getElem?_append,List.getElem?_set,h,List.length_take,Nat.min_eq_left (Nat.le_of_lt h)]
   · rw [List.getElem?_eq_none (by simp;omega),List.getElem?_eq_none (by simp;omega)]
theorem set_dropR {α:Type} {b:List α} {n m:Nat} {v:α} (h:n<m):(b.set n v).drop m=b.drop m:=by
 apply List.ext_getElem?
 intro i
 simp [List.getElem?_drop,List.getElem?_set,show ¬ n=m+i by omega]
theorem setAt_row {b:Rws} {n:Nat} {v:List VL} (h:n<b.length):setAt (b.map rowV) n [rowV v]=(b.set n v).map rowV:=by
 rw [setAt,List.map_set,List.set_eq_take_append_cons_drop,if_pos (by simpa using h)]
 simp
theorem c100 {n:Nat} (e:EX) (l:Rws) (hf:fitE n e) (hr:∀ r ∈ l,rtR n r) (N:Nat) (hN:N=l.length) (hl:N≤1000000) :
 ACalls E.P 100 [e.av,.slc 0 1 N] [.arr 69 1 (l.map rowV)] (fun q H=>∃ xs:Rws,xs.length=l.length∧H=[.arr 69 1 (xs.map rowV)]∧(((holdE e l).2≠0∧q=.tup [.raw (.slice none 0 0),.int .i64 (holdE e l).2])∨((holdE e l).2=0∧xs.take (holdE e l).1.length=(holdE e l).1∧(holdE e l).1.length≤xs.length∧q=.tup [.sub 0 1 0 (holdE e l).1.length,.int .i64 0]))):=by
 have hmax:=maxLen_eq
 unfold holdE
 refine ok100.acalls hE hm (by simp) fun N' hN'=>?_
 unfold mc100 pK pY pI pM pG pB pQ pL pR pW pX pD pA
 simp only [lA,seval,av_fs]
 repeat' (first|(with_reducible first|(apply St.o;constructor)<;>intro _|refine And.intro (by omega) ?_|(apply Sq.o;constructor))|simp (disch:=omega) only [lE,seval,List.length_map])
 refine loop_i (fun x:Nat × Rws=>x.1≤N∧x.2.length=l.length∧((l.take x.1).filter fun r=>e.tr.holds r).length≤x.1∧x.2.take ((l.take x.1).filter fun r=>e.tr.holds r).length=((l.take x.1).filter fun r=>e.tr.holds r)∧x.2.drop x.1=l.drop x.1∧∀ r ∈ l.take x.1,(e.tr.eval r).2=0)
  (fun x=>⟨[(2,.op 1 0),(6,.sub 0 1 0 ((l.take x.1).filter fun r=>e.tr.holds r).length),(13,.slc 0 1 N),(14,.int .i64 N),(15,.int .i64 x.1)],[.arr 69 1 (x.2.map rowV),.box e.fs]⟩) (fun x=>N - x.1) (0,l) ⟨by simp only;omega,rfl,by simp,by simp,rfl,by simp⟩ (ent [0,1] false (by simp only [lP,seval,pa_rows]<;>(try simp)<;>(try omega)) (by simp only [lP,seval,pa_rows]<;>(try simp)<;>(try omega))) ?_
 rintro ⟨i,b⟩ ⟨h1,h2,h3,h4,h5,h6⟩
 simp only at h1 h2 h3 h4 h5 h6 ⊢
 by_cases hin:i<N
 · have hil:i<l.length:=by omega
   have hlt:((i:Int)<(N:Int)):=by omega
   have hbi:b.getD i default=l.getD i default:=by
    have:=congrArg (fun l=>l.getD 0 default) h5
    simpa using this
   have h121:=eh hf (hr (l.getD i default) (by simp [hil]))
   have he:=mapE_err (f:=fun r=>e.tr.eval r) hil h6
   have hs:=all_step (p:=fun r=>decide ((e.tr.eval r).2≠0)) hil (fun x hx=>by simp [h6 x hx])
   have hst:(l.take (i+1)).filter (fun r=>e.tr.holds r)=(l.take i).filter (fun r=>e.tr.holds r)++if e.tr.holds (l.getD i default)=true then [l.getD i default] else []:=by
    rw [List.take_succ_eq_append_getElem hil,List.filter_append]
    congr 1
    simp only [List.filter_cons,List.filter_nil]
    simp [hil]
   have hx1:(b.map rowV)[i]?=some (rowV (l.getD i default)):=by
    rw [← hbi]
    simp [show i<b.length by omega]
   have hlen:((l.take i).filter fun r=>e.tr.holds r).length<b.length:=by omega
   have hbl:(b.map rowV).length=b.length:=List.length_map _
   generalize hF:((l.take i).filter fun r=>e.tr.holds r)=F at *
   generalize hv:l.getD i default=v at *
   simp only [av_fs] at h121
   repeat' (first|(with_reducible apply St.o;constructor) <;> intro _|((with_reducible refine ap_in ?_ ?_);(focus (first|omega|(simp;omega))))|(with_reducible first|refine And.intro (by omega) ?_|(apply Sq.o;constructor))|((with_reducible apply Sc.o true;constructor);simp only [lP,seval,epR_map,hx1,Int.toNat_natCast,hlt,decide_true,hbl];refine ⟨_,h121,?_⟩;rintro _ _ ⟨rfl,rfl⟩;simp only [lA,lP,seval,epR_map,hx1,Int.toNat_natCast,hlt,decide_true,hbl])|simp (disch:=omega) only [lE,seval,epR_map,hx1,Int.toNat_natCast,hlt,decide_true,hbl])
   · rename_i h
     have he:=he h
     rw [he]
     refine keep_i [0] false (by simp) (by simp) rfl ⟨b,h2,by simp only [lP,seval,pa_rows],.inl ⟨by rw [if_neg (by exact h)];exact h,?_⟩⟩
     rw [if_neg (by exact h)]
     simp only [lP,seval]
   · rename_i h h'
     have h5':b.drop (i+1)=l.drop (i+1):=by
      have:=congrArg (List.drop 1) h5
      rwa [List.drop_drop,List.drop_drop] at this
     have hn:∀ r ∈ l.take (i+1),(e.tr.eval r).2=0:=fun y hy=>by simpa using hs (by simpa using h) y hy
     rw [if_pos h'] at hst
     refine back_i (i+1,b.set F.length v) ⟨by simp only;omega,by simp only [List.length_set];exact h2,by simp only [hst,List.length_append,List.length_cons,List.length_nil];omega,?_,by simp only;rw [set_dropR (by omega),h5'],hn⟩ (by simp only;omega) ?_
     · simp only [hst,List.length_append,List.length_cons,List.length_nil,Nat.zero_add]
       rw [set_takeR hlen,h4]
     · simp only [hst,List.length_append,List.length_cons,List.length_nil,Nat.zero_add]
       have hset:List.take F.length (b.map rowV)++[AV.view 3 (v.map VL.av)]++List.drop (F.length+1) (b.map rowV)=(b.set F.length v).map rowV:=setAt_row (v:=v) hlen
       rw [hset]
       exact (ent [0,1] false (by simp only [lP,seval,pa_rows]<;>(try simp)<;>(try omega)) (by simp only [lP,seval,pa_rows]<;>(try simp)<;>(try omega)))
   · rename_i h h'
     have h5':b.drop (i+1)=l.drop (i+1):=by
      have:=congrArg (List.drop 1) h5
      rwa [List.drop_drop,List.drop_drop] at this
     have hn:∀ r ∈ l.take (i+1),(e.tr.eval r).2=0:=fun y hy=>by simpa using hs (by simpa using h) y hy
     rw [if_neg (by simpa using h'),List.append_nil] at hst
     refine back_i (i+1,b) ⟨by simp only;omega,h2,by simp only [hst];omega,by simp only [hst];exact h4,h5',hn⟩ (by simp only;omega) ?_
     simp only [hst]
     exact (ent [0,1] false (by simp only [lP,seval,pa_rows]<;>(try simp)<;>(try omega)) (by simp only [lP,seval,pa_rows]<;>(try simp)<;>(try omega)))
 · obtain rfl:i=N:=by omega
   subst hN
   rw [List.take_length] at h3 h4 h6 ⊢
   repeat' (first|(with_reducible first|(apply St.o;constructor)<;>intro _|refine And.intro (by omega) ?_|(apply Sq.o;constructor))|simp (disch:=omega) only [lE,seval,List.length_map,Int.lt_irrefl,decide_false])
   rw [mapE_ok h6]
   refine keep_i [0] false (by simp) (by simp) rfl ⟨b,h2,by simp only [lP,seval,pa_rows],.inr ⟨by simp,by simp only [if_true];exact h4,by simp only [if_true];omega,?_⟩⟩
   simp only [lP,seval,if_true]
set_option maxRecDepth 100000
abbrev q96_0:List AV:=[.raw (.slice none 0 0),.raw (.slice none 0 0)]
def mc96:MC:=(.seq (.ops [(none,.e (.alloc 4 q96_0)),pI 5 0]) (.seq (.ops [(none,.e (.alloc 6 q96_0))]) (.seq (.seq (.ops [pM 11 0,pG 12 11,pI 13 0]) (.block 0 (.loop (.seq (.ops [pB 14 13 12]) (.seq (.cond 14 .skip (.exit 0)) (.seq (.block 1 (.seq (.ops [pM 15 13,pQ 16 14 11 13,pR 17 14 16,(none,.e (.alloc 8 z0)),pM 7 15,pS 14 8 17]) (.seq (.ops [pM 19 1,pR 20 14 8,(none,.e (.callv (some 21) (.t 19) [.t 20])),pM 18 21,pX 22 0 18,pX 23 1 18,pM 9 22,pM 10 23]) (.seq (.seq (.ops [pM 24 10,pD 25 24 0]) (.cond 25 (.seq (.ops [pR 26 2 6,pM 27 10,pS 2 4 26,pM 5 27]) .ret) .skip)) (.ops [pM 28 7,pM 29 9,(none,.p (.aidx 30 2 1 (.t 6) (.t 28))),(none,.e (.store 1 false (.t 30) (.t 29)))]))))) (.ops [pA 31 13 1,pM 13 31]))))))) (.seq (.ops [pR 32 2 6,pS 2 4 32,pI 5 0]) .ret))))
theorem ok96:FnOk E 96 33 [.cell 4 128,.tmp 5] mc96:=ofk func96
set_option maxRecDepth 20000
abbrev engV (db:List DA):AV:=.agg [.view 5 (db.map DA.av)]
theorem weak_rows {x y:List AV} (h:WeakL x y) {k:Int}:WeakL [AV.agg x,.int .i64 k] [AV.agg y,.int .i64 k]:=.cons (WeakL.agg h) (.refl _)
theorem ti128:E.TI 128=some ⟨.array 2 57,2,48,[.slice none 0 0,.slice none 0 0],true,true,false⟩:=rfl
theorem c96 (db:List DA) (l:List QY) (h2:l.length≤2)
 (hrec:∀ i,i<l.length→ACalls E.P 66 [engV db,(l.getD i default).av] [] (fun r H=>r=.tup [rwsV ((l.getD i default).run db).1,.int .i64 ((l.getD i default).run db).2]∧H=[])) :
 ACalls E.P 96 [.view 14 (l.map QY.av),.fn (.func 66) [engV db] []] [] (fun r H=>∃ a b,r=.tup [.agg [rwsV a,rwsV b],.int .i64 (mapE (QY.run db) l).2]∧((mapE (QY.run db) l).2=0→a=(mapE (QY.run db) l).1.getD 0 []∧b=(mapE (QY.run db) l).1.getD 1 [])∧H=[]):=by
 have hmax:=maxLen_eq
 refine ok96.acalls hE hm (by simp) fun N hN=>?_
 unfold mc96 q96_0 z0 pI pM pG pB pQ pR pS pX pD pA
 simp only [lA,seval]
 repeat' (first|(with_reducible first|(apply St.o;constructor)<;>intro _|refine And.intro (by omega) ?_|(apply Sq.o;constructor))|simp (disch:=omega) only [lE,seval,List.length_map])
 refine loop_i (fun i:Nat=>i≤l.length∧∀ x ∈ l.take i,(x.run db).2=0) (fun i=>⟨[(1,.fn (.func 66) [engV db] []),(4,.op 0 0),(6,.op 1 0),(11,.view 14 (l.map QY.av)),(12,.int .i64 l.length),(13,.int .i64 i)],[.box [.raw (.slice none 0 0),.raw (.slice none 0 0)],.box [if 0<i then rwsV ((l.getD 0 default).run db).1 else .raw (.slice none 0 0),if 1<i then rwsV ((l.getD 1 default).run db).1 else .raw (.slice none 0 0)]]⟩) (fun i=>l.length - i) 0 ⟨by omega,by simp⟩ (ent [0,1] false) ?_
 rintro i ⟨hi,hn⟩
 by_cases hin:i<l.length
 · have hlt:((i:Int)<(l.length:Int)):=by omega
   have h66:=hrec i hin
   have he:=mapE_err (f:=QY.run db) hin hn
   have hs:=all_step (p:=fun x=>decide ((QY.run db x).2≠0)) hin (fun x hx=>by simp [hn x hx])
   simp only [q_av] at h66
   have hi2:i=0∨i=1:=by omega
   have p01:(0<1)=True:=by simp
   have p00:(0<0)=False:=by simp
   have p11:(1<1)=False:=by simp
   have p10:(1<0)=False:=by simp
   rcases hi2 with rfl | rfl
   · simp only [p00,p10,if_false] at *
     generalize hx:l.getD 0 default=x at *
     repeat' (first|(with_reducible first|(apply St.o;constructor)<;>intro _|refine And.intro (by omega) ?_|(apply Sq.o;constructor))|((with_reducible apply Sc.o false;constructor);simp only [lP,seval,IdxR_qs,hx,ti128,Int.toNat_natCast,Int.ofNat_zero,Int.toNat_zero,List.length_map,hlt,decide_true];refine ⟨_,h66,?_⟩;rintro _ _ ⟨rfl,rfl⟩;simp only [lA,lP,seval,IdxR_qs,hx,ti128,Int.toNat_natCast,Int.ofNat_zero,Int.toNat_zero,List.length_map,hlt,decide_true])|simp (disch:=omega) only [lE,seval,IdxR_qs,hx,ti128,Int.toNat_natCast,Int.ofNat_zero,Int.toNat_zero,List.length_map,hlt,decide_true])
     all_goals try (exfalso;omega)
     · rename_i h h'
       rw [he h']
       refine keepw_i [] false rfl (by simp) rfl (r':=.tup [.agg [.view 1 [],.view 1 []],.int .i64 (x.run db).2]) ?_ ⟨[],[],rfl,fun h=>absurd h h',rfl⟩
       simp only [lP,seval]
       exact WeakL.tup (weak_rows (.cons weak_nil (.cons weak_nil (.refl _))))
     · rename_i h h'
       refine back_i (0+1) ⟨by omega,fun y hy=>by simpa using hs (by simpa using h') y hy⟩ (by omega) ?_
       simp only [Nat.zero_add,p01,p11,if_true,if_false,hx]
       exact (ent [0,1] false (by simp only [lP,seval,pa_rows]<;>(try simp)<;>(try omega)) (by simp only [lP,seval,pa_rows]<;>(try simp)<;>(try omega)))
   · simp only [p01,p11,if_true,if_false] at *
     generalize hx:l.getD 1 default=x at *
     generalize hx0:l.getD 0 default=x0 at *
     repeat' (first|(with_reducible first|(apply St.o;constructor)<;>intro _|refine And.intro (by omega) ?_|(apply Sq.o;constructor))|((with_reducible apply Sc.o false;constructor);simp only [lP,seval,IdxR_qs,hx,ti128,Int.toNat_natCast,Int.toNat_one,List.length_map,hlt,decide_true];refine ⟨_,h66,?_⟩;rintro _ _ ⟨rfl,rfl⟩;simp only [lA,lP,seval,IdxR_qs,hx,ti128,Int.toNat_natCast,Int.toNat_one,List.length_map,hlt,decide_true])|simp (disch:=omega) only [lE,seval,IdxR_qs,hx,ti128,Int.toNat_natCast,Int.toNat_one,List.length_map,hlt,decide_true])
     all_goals try (exfalso;omega)
     · rename_i h h'
       rw [he h']
       refine keepw_i [] false rfl (by simp) rfl (r':=.tup [.agg [rwsV (x0.run db).1,.view 1 []],.int .i64 (x.run db).2]) ?_ ⟨_,[],rfl,fun h=>absurd h h',rfl⟩
       simp only [lP,seval,pa_rows]
       exact WeakL.tup (weak_rows (.cons (.refl _) (.cons weak_nil (.refl _))))
     · rename_i h h'
       refine back_i (1+1) ⟨by omega,fun y hy=>by simpa using hs (by simpa using h') y hy⟩ (by omega) ?_
       have p02:(0<1+1)=True:=by simp
       have p12:(1<1+1)=True:=by simp
       simp only [p02,p12,if_true,if_false,hx,hx0]
       exact (ent [0,1] false (by simp only [lP,seval,pa_rows]<;>(try simp)<;>(try omega)) (by simp only [lP,seval,pa_rows]<;>(try simp)<;>(try omega)))
 · obtain rfl:i=l.length:=by omega
   rw [List.take_length] at hn
   have hm:mapE (QY.run db) l=(l.map fun x=>(x.run db).1,0):=mapE_ok hn
   repeat' (first|(with_reducible first|(apply St.o;constructor)<;>intro _|refine And.intro (by omega) ?_|(apply Sq.o;constructor))|simp (disch:=omega) only [lE,seval,List.length_map,ti128,Int.lt_irrefl,decide_false])
   rw [hm]
   clear hrec hn hm
   rcases l with _ | ⟨x,_ | ⟨y,_ | ⟨z,l⟩⟩⟩
   · refine keepw_i [] false rfl (by simp) rfl (r':=.tup [.agg [.view 1 [],.view 1 []],.int .i64 0]) ?_ ⟨[],[],rfl,fun _=>⟨rfl,rfl⟩,rfl⟩
     simp only [lP,seval,List.length_nil,Nat.lt_irrefl,Nat.not_lt_zero,if_false]
     exact WeakL.tup (weak_rows (.cons weak_nil (.cons weak_nil (.refl _))))
   · refine keepw_i [] false rfl (by simp) rfl (r':=.tup [.agg [rwsV (x.run db).1,.view 1 []],.int .i64 0]) ?_ ⟨_,[],rfl,fun _=>⟨rfl,rfl⟩,rfl⟩
     have p01:(0<0+1)=True:=by simp
     have p11:(1<0+1)=False:=by simp
     simp only [lP,seval,List.length_cons,List.length_nil,p01,p11,if_false,if_true,pa_rows,List.getD_cons_zero]
     exact WeakL.tup (weak_rows (.cons (.refl _) (.cons weak_nil (.refl _))))
   · refine keep_i [] false rfl (by simp) rfl ⟨(x.run db).1,(y.run db).1,?_,fun _=>⟨rfl,rfl⟩,rfl⟩
     have p01:(0<0+1+1)=True:=by simp
     have p11:(1<0+1+1)=True:=by simp
     simp only [lP,seval,List.length_cons,List.length_nil,p01,p11,if_false,if_true,pa_rows,List.getD_cons_zero,List.getD_cons_succ]
   · simp at h2
set_option maxRecDepth 100000
abbrev q126_0:MI:=oY 6
def mc126:MC:=(.seq (.ops [(none,q126_0),pI 7 0]) (.seq (.seq (.ops [pM 16 0,pG 17 16,pI 18 0]) (.block 0 (.loop (.seq (.ops [pB 19 18 17]) (.seq (.cond 19 .skip (.exit 0)) (.seq (.block 1 (.seq (.ops [pQ 20 7 16 18,pR 21 7 20,(none,.e (.alloc 9 z4)),pS 7 9 21]) (.seq (.seq (.ops [pF 22 0 9,pL 23 22,pE 24 23 1]) (.cond 24 (.seq (.ops [pM 25 2,pM 26 1,pG 27 26,(none,.v (.build 28 z2 [(0,1,.c (.int .i64 1)),(1,1,.t 27)])),(none,.e (.mkl 29 25 3 1 (.agg z2) [(0,.t 28)])),(none,.e (.app 30 25 3 32 (.t 25) (.t 29))),pM 2 30]) (.exit 1)) .skip)) (.seq (.ops [(none,.e (.alloc 10 z2))]) (.seq (.seq (.ops [pM 31 1,pG 32 31,pI 33 0]) (.block 2 (.loop (.seq (.ops [pB 34 33 32]) (.seq (.cond 34 .skip (.exit 2)) (.seq (.block 3 (.seq (.ops [pQ 35 1 31 33,pL 36 35,pM 12 36]) (.seq (.ops [pF 38 1 9,pR 39 6 38,pM 40 12,pW 41 123 39 40,pM 37 41,pX 42 0 37,pX 43 1 37,(none,.e (.alloc 13 z2)),pS 3 13 42,pM 14 43]) (.seq (.seq (.ops [pM 44 14,pD 45 44 0]) (.cond 45 (.seq (.ops [pM 46 14,(none,q126_0),pM 7 46]) .ret) .skip)) (.seq (.ops [pR 47 3 13,pR 48 3 10,pW 49 95 47 48,pM 15 49]) (.block 4 (.seq (.ops [pF 51 0 13,pL 52 51,pE 53 52 0,pM 50 53]) (.cond 50 .skip (.seq (.ops [pF 55 0 10,pL 56 55,pE 57 56 0,pM 54 57]) (.cond 54 (.ops [pR 58 3 13,pS 3 10 58]) (.seq (.ops [pF 60 0 9,pL 61 60,pE 62 61 2,pM 59 62]) (.cond 59 (.ops [pF 63 1 10,pL 64 63,pF 65 1 13,pL 66 65,(none,.v (.bin 67 .add false (.t 64) (.t 66))),pF 68 1 10,(none,.e (.store 1 false (.t 68) (.t 67)))]) (.seq (.seq (.ops [pF 70 0 9,pL 71 70,pE 72 71 3,pM 73 72,gT 73 (oM 74 15),(some (73,true),.v (.bin 75 .lss false (.t 74) (.c (.int .i64 0)))),pP 76 73 75,pM 69 76]) (.cond 69 .skip (.ops [pF 77 0 9,pL 78 77,pE 79 78 4,pM 80 79,gT 80 (oM 81 15),(some (80,true),.v (.bin 82 .gtr false (.t 81) (.c (.int .i64 0)))),pP 83 80 82,pM 69 83]))) (.cond 69 (.ops [pR 84 3 13,pS 3 10 84]) .skip)))))))))))))) (.ops [pA 85 33 1,pM 33 85]))))))) (.seq (.seq (.ops [pR 86 3 10,pV 87 152 86,pN 88 87]) (.cond 88 (.seq (.ops [(none,q126_0),pI 7 360]) .ret) .skip)) (.ops [pM 89 2,pR 90 3 10,(none,.e (.mkl 91 25 3 1 (.agg z2) [(0,.t 90)])),(none,.e (.app 92 25 3 32 (.t 89) (.t 91))),pM 2 92]))))))) (.ops [pA 93 18 1,pM 18 93]))))))) (.seq (.ops [pM 94 2,pM 6 94,pI 7 0]) .ret)))
theorem ok126:FnOk E 126 95 [.tmp 6,.tmp 7] mc126:=ofk func126
set_option maxRecDepth 20000
theorem po_dead {H:List AObj} {l:List Nat} {bor:Bool} {n:Nat}:po H l bor n .dead=.dead:=by cases n <;> rfl
theorem right_n {v:VL} (h:v.Right) : -549755813889<v.n∧v.n<549755813889:=by
 rcases h with ⟨_,h,_⟩ | ⟨_,h1,h2,_⟩ | ⟨_,h,_⟩ | ⟨_,h,_⟩ <;> omega
def accA (a:AG) (l:Rws) (i:Nat):VL:=((l.take i).map fun r=>(a.arg.tr.eval r).1).foldl (stepA a.fn) VL.null
theorem accA_succ (a:AG) (l:Rws) {i:Nat} (h:i<l.length):accA a l (i+1)=stepA a.fn (accA a l i) (a.arg.tr.eval (l.getD i default)).1:=by
 unfold accA
 rw [List.take_succ_eq_append_getElem h,List.map_append,List.foldl_append]
 simp [h]
theorem accA_bd {a:AG} {l:Rws} (hr:∀ r ∈ l,(a.arg.tr.eval r).1.Right):∀ i,i≤l.length→-(549755813889 * ((i:Int)+1))<(accA a l i).n∧(accA a l i).n<549755813889 * ((i:Int)+1)
 | 0,_=>by simp [accA,VL.null]
 | i+1,h=>by
   have ih:=accA_bd hr i (by omega)
   rw [accA_succ a l (by omega)]
   have hv:=right_n (hr (l.getD i default) (by simp [show i<l.length by omega]))
   generalize accA a l i=b at *
   generalize (a.arg.tr.eval (l.getD i default)).1=v at *
   unfold stepA
   repeat' split
   all_goals first | omega | (simp only;omega)
theorem ev_right {n:Nat} {e:EX} {r:List VL} (hf:fitE n e) (hr:rtR n r):(e.tr.eval r).1.Right:=by
 obtain ⟨h1,h2,h3⟩:=hf
 obtain ⟨h4,hw,_⟩:=ex_tr e h1
 exact T.eval_right hr.2 e.tr hw (by rw [hr.1];exact h2) h3
def aggsR (k:List VL) (ags:List AG) (l:Rws):List VL × Int:=if (aggsE ags l).2=0 then (k++(aggsE ags l).1,0) else ([],(aggsE ags l).2)
theorem keep_da {k:Int} {H:List AObj} {Q:List VL × Int} (h:Q=([],k)):keepQ 1 (fun r H=>r=.tup [rowV Q.1,.int .i64 Q.2]∧H=[.dead]) (.tup [.raw (.slice none 0 0),.int .i64 k]) (.dead::H):=by
 subst h
 refine keepw_i [0] false (by simp) (by simp) rfl (r':=.tup [.view 3 [],.int .i64 k]) ?_ ⟨rfl,by simp only [lP,seval,po_dead]⟩
 exact WeakL.tup (.cons weak_nil (.refl _))
theorem aggsR_err {k:List VL} {ags:List AG} {l:Rws} {e:Int} (h:aggsE ags l=([],e)) (he:e≠0):aggsR k ags l=([],e):=by
 unfold aggsR;rw [h,if_neg he]
theorem aggE_err {a:AG} {l:Rws} {e:Int} (h1:a.fn≠1) (h:mapE (fun r=>a.arg.tr.eval r) l=([],e)) (he:e≠0):aggE a l=(VL.null,e):=by
 unfold aggE;rw [if_neg h1,h,if_neg he]
theorem aggE_fold {a:AG} {l:Rws} (h1:a.fn≠1) (h:∀ r ∈ l,(a.arg.tr.eval r).2=0):aggE a l=if (accA a l l.length).Right then (accA a l l.length,0) else (VL.null,360):=by
 have:foldA a l=accA a l l.length:=by unfold foldA accA;rw [mapE_ok h,List.take_length]
 unfold aggE;rw [if_neg h1,this,mapE_ok h,if_pos rfl]
theorem c126 {w:Nat} (ags:List AG) (l:Rws) (k:List VL) (n:Nat) (hn:n=k.length) (hn2:n≤1000000) (hl:l.length≤4000) (ha:ags.length≤1000000)
 (hf:∀ a ∈ ags,a.fn≠1→fitE w a.arg) (hr:∀ r ∈ l,rtR w r) :
 ACalls E.P 126 [.view 7 (ags.map AG.av),rwsV l,.slc 0 3 n] [.arr 25 3 (k.map VL.av)] (fun r H=>r=.tup [rowV (aggsR k ags l).1,.int .i64 (aggsR k ags l).2]∧H=[.dead]):=by
 have hmax:=maxLen_eq
 refine ok126.acalls hE hm (by simp) fun N hN=>?_
 unfold mc126 q126_0 z2 z4 pI pM pG pB pQ pR pS pF pL pE pW pX pD pP pA pV pN gT oM oY
 simp only [lA,seval]
 repeat' (first|(with_reducible first|(apply St.o;constructor)<;>intro _|refine And.intro (by omega) ?_|(apply Sq.o;constructor))|simp (disch:=omega) only [lE,seval,List.length_map])
 refine loop_i (fun j:Nat=>j≤ags.length∧∀ x ∈ ags.take j,(aggE x l).2=0) (fun j=>⟨[(0,.view 7 (ags.map AG.av)),(1,rwsV l),(2,.slc 1 3 (n+j)),(16,.view 7 (ags.map AG.av)),(17,.int .i64 ags.length),(18,.int .i64 j)],[.dead,.arr 25 3 ((k++(ags.take j).map fun x=>(aggE x l).1).map VL.av)]⟩) (fun j=>ags.length - j) 0 ⟨by omega,by simp⟩ (Ent.trans (Ent.move 2 0 rfl rfl) (ent [0,1] false (by simp only [lP,seval,po_dead,pa_vls,List.take_zero,List.map_nil,List.append_nil]<;>(try simp)<;>(try omega)) (by simp only [lP,seval,po_dead,pa_vls,List.take_zero,List.map_nil,List.append_nil]<;>(try simp)<;>(try omega)))) ?_
 rintro j ⟨hj,hn0⟩
 have hlen:((k++(ags.take j).map fun x=>(aggE x l).1).map VL.av).length=n+j:=by simp;omega
 by_cases hjn:j<ags.length
 · have hlt:((j:Int)<(ags.length:Int)):=by omega
   have he:=mapE_err (f:=fun x=>aggE x l) hjn hn0
   have hs:=all_step (p:=fun x=>decide ((aggE x l).2≠0)) hjn (fun x hx=>by simp [hn0 x hx])
   have ht:((k++(ags.take (j+1)).map fun x=>(aggE x l).1).map VL.av)=((k++(ags.take j).map fun x=>(aggE x l).1).map VL.av)++[(aggE (ags.getD j default) l).1.av]:=by
    have hg:ags.getD j default=ags[j]:=by simp [hjn]
    rw [List.take_succ_eq_append_getElem hjn,hg];simp only [List.map_append,List.append_assoc,List.map_cons,List.map_nil]
   have hfa:=hf (ags.getD j default) (by simp [hjn])
   generalize hx:ags.getD j default=a at *
   repeat' (first|(with_reducible first|(apply St.o;constructor)<;>intro _|refine And.intro (by omega) ?_|(apply Sq.o;constructor))|simp (disch:=omega) only [lE,seval,IdxR_ags,hx,Int.toNat_natCast,List.length_map,hlt,decide_true,hlen])
   · rename_i h1
     have hag:aggE a l=(⟨1,l.length,⟨#[]⟩⟩,0):=by rw [aggE,if_pos h1]
     rw [hag] at hs ht
     refine back_i (j+1) ⟨by omega,fun y hy=>by simpa using hs (by simp) y hy⟩ (by omega) ?_
     rw [ht]
     exact (ent [0,4] false (by simp only [lP,seval,po_dead,hlen,pa_vls,List.map_append,List.map_cons,List.map_nil,VL.av,VL.cs]<;>(try simp)<;>(try omega)) (by simp only [lP,seval,po_dead,hlen,pa_vls,List.map_append,List.map_cons,List.map_nil,VL.av,VL.cs]<;>(try simp)<;>(try omega)))
   · rename_i h1
     have hfa:=hfa h1
     have hrt:∀ r ∈ l,(a.arg.tr.eval r).1.Right:=fun r hr'=>ev_right hfa (hr r hr')
     have hbd:=fun i=>accA_bd hrt i
     refine loop_i (fun i:Nat=>i≤l.length∧∀ x ∈ l.take i,(a.arg.tr.eval x).2=0) (fun i=>⟨[(0,.view 7 (ags.map AG.av)),(1,rwsV l),(2,.slc 1 3 (n+j)),(9,.op 2 0),(10,.op 3 0),(16,.view 7 (ags.map AG.av)),(17,.int .i64 ags.length),(18,.int .i64 j),(31,rwsV l),(32,.int .i64 l.length),(33,.int .i64 i)],[.dead,.arr 25 3 ((k++(ags.take j).map fun x=>(aggE x l).1).map VL.av),.box a.cs,.box (accA a l i).cs]⟩) (fun i=>l.length - i) 0 ⟨by omega,by simp⟩ (ent [0,1,2,3] false (by simp only [lP,seval,po_dead,pa_vls,accA,List.take_zero,List.map_nil,List.foldl_nil,VL.null,VL.cs,AG.cs]<;>(try simp)<;>(try omega)) (by simp only [lP,seval,po_dead,pa_vls,accA,List.take_zero,List.map_nil,List.foldl_nil,VL.null,VL.cs,AG.cs]<;>(try simp)<;>(try omega))) ?_
     rintro i ⟨hi,hn1⟩
     by_cases hin:i<l.length
     · have hlt:((i:Int)<(l.length:Int)):=by omega
       have he1:=mapE_err (f:=fun r=>a.arg.tr.eval r) hin hn1
       have hs1:=all_step (p:=fun r=>decide ((a.arg.tr.eval r).2≠0)) hin (fun x hx=>by simp [hn1 x hx])
       have hacc:=accA_succ a l hin
       have h123:=ev hfa (hr (l.getD i default) (by simp [hin]))
       have hb:=hbd i hi
       have hvr:=right_n (hrt (l.getD i default) (by simp [hin]))
       generalize hy:l.getD i default=y at *
       generalize a.arg.tr.eval y=v at *
       obtain ⟨v,ve⟩:=v
       generalize hbb:accA a l i=b at *
       have h95:=c95 v b
       simp only at hvr hacc
       have hw:IntKind.i64.wrap (b.n+v.n)=b.n+v.n:=wrap_i64 (by omega) (by omega)
       simp only [av_fs,vl_av] at h123 h95
       repeat' (first|(with_reducible first|(apply St.o;constructor)<;>intro _|refine And.intro (by omega) ?_|(apply Sq.o;constructor))|((with_reducible apply Sc.o true;constructor);simp only [lP,seval,IdxR_rows,hy,hw,ti25,Int.toNat_natCast,List.length_map,hlt,decide_true,VL.cs];(first|refine ⟨_,h123,?_⟩|refine ⟨_,h95,?_⟩);rintro _ _ ⟨rfl,rfl⟩;simp only [lA,lP,seval,IdxR_rows,hy,hw,ti25,Int.toNat_natCast,List.length_map,hlt,decide_true,VL.cs])|simp (disch:=omega) only [lE,seval,IdxR_rows,hy,hw,ti25,Int.toNat_natCast,List.length_map,hlt,decide_true,VL.cs])
       · rename_i h
         have e1:=aggE_err h1 (he1 h) h
         rw [e1] at he
         exact keep_da (aggsR_err (he h) h)
       all_goals
        clear he he1 h123 h95 hb hbd hs
        first
        | (exfalso;omega)
        | (have hv:stepA a.fn b v=b:=by simp [stepA, *];done
           rw [hv] at hacc
           refine back_i (i+1) ⟨by omega,fun y hy=>by simpa using hs1 (by simpa using ‹ve=0›) y hy⟩ (by omega) ?_
           rw [hacc]
           exact (ent [0,1,2,3] false (by simp only [lP,seval,po_dead,pa_vls,VL.cs]<;>(try simp)<;>(try omega)) (by simp only [lP,seval,po_dead,pa_vls,VL.cs]<;>(try simp)<;>(try omega))))
        | (have hv:stepA a.fn b v=v:=by simp [stepA, *];done
           rw [hv] at hacc
           refine back_i (i+1) ⟨by omega,fun y hy=>by simpa using hs1 (by simpa using ‹ve=0›) y hy⟩ (by omega) ?_
           rw [hacc]
           exact (ent [0,1,2,3] false (by simp only [lP,seval,po_dead,pa_vls,VL.cs]<;>(try simp)<;>(try omega)) (by simp only [lP,seval,po_dead,pa_vls,VL.cs]<;>(try simp)<;>(try omega))))
        | (have hv:stepA a.fn b v=⟨b.k,b.n+v.n,b.s⟩:=by simp [stepA, *];done
           rw [hv] at hacc
           refine back_i (i+1) ⟨by omega,fun y hy=>by simpa using hs1 (by simpa using ‹ve=0›) y hy⟩ (by omega) ?_
           rw [hacc]
           exact (ent [0,1,2,3] false (by simp only [lP,seval,po_dead,pa_vls,VL.cs]<;>(try simp)<;>(try omega)) (by simp only [lP,seval,po_dead,pa_vls,VL.cs]<;>(try simp)<;>(try omega))))
        | trace_state
     · obtain rfl:i=l.length:=by omega
       rw [List.take_length] at hn1
       have hag:=aggE_fold h1 hn1
       have hb:=hbd l.length (Nat.le_refl _)
       generalize accA a l l.length=b at *
       have h152:=c152 b ⟨by omega,by omega⟩
       simp only [vl_av] at h152
       repeat' (first|(with_reducible first|(apply St.o;constructor)<;>intro _|refine And.intro (by omega) ?_|(apply Sq.o;constructor))|((with_reducible apply Sc.o true;constructor);simp only [lP,seval,ti25,List.length_map,Int.lt_irrefl,decide_false,hlen,VL.cs];refine ⟨_,h152,?_⟩;rintro _ _ ⟨rfl,rfl⟩;simp only [lA,lP,seval,ti25,List.length_map,Int.lt_irrefl,decide_false,hlen,VL.cs])|simp (disch:=omega) only [lE,seval,ti25,List.length_map,Int.lt_irrefl,decide_false,hlen,VL.cs])
       · rename_i h
         rw [if_neg h] at hag
         rw [hag] at he
         exact keep_da (aggsR_err (he (by simp)) (by simp))
       · rename_i h
         rw [if_pos h] at hag
         rw [hag] at hs ht
         refine back_i (j+1) ⟨by omega,fun y hy=>by simpa using hs (by simp) y hy⟩ (by omega) ?_
         rw [ht]
         exact (ent [0,5] false (by simp only [lP,seval,po_dead,hlen,pa_vls,List.map_append,List.map_cons,List.map_nil,VL.av,VL.cs]<;>(try simp)<;>(try omega)) (by simp only [lP,seval,po_dead,hlen,pa_vls,List.map_append,List.map_cons,List.map_nil,VL.av,VL.cs]<;>(try simp)<;>(try omega)))
 · obtain rfl:j=ags.length:=by omega
   rw [List.take_length] at hn0 hlen ⊢
   repeat' (first|(with_reducible first|(apply St.o;constructor)<;>intro _|refine And.intro (by omega) ?_|(apply Sq.o;constructor))|simp (disch:=omega) only [lE,seval,List.length_map,Int.lt_irrefl,decide_false])
   have hq:aggsR k ags l=(k++ags.map fun x=>(aggE x l).1,0):=by
    unfold aggsR aggsE;rw [mapE_ok hn0,if_pos rfl]
   rw [hq,← hlen]
   exact keep_i [0] true (by simp) (by simp) rfl ⟨by simp only [lP,seval,vw_vls,List.take_length],by simp only [lP,seval,po_dead]⟩
set_option maxRecDepth 100000
def mc103:MC:=(.seq (.ops [pK 2 0,pY 4,pI 5 0]) (.seq (.ops [(none,.v (.fn 15 (.func 124) [] [.t 2])),(none,.e (.alloc 6 [.raw .nilFunc])),(none,.e (.store 1 false (.t 6) (.t 15)))]) (.seq (.ops [pM 16 1,pV 17 99 16,pM 7 17]) (.seq (.ops [pM 18 7,(none,.v (.fn 19 (.func 125) [] [.t 6])),pW 20 104 18 19]) (.seq (.seq (.ops [pF 21 10 2,pL 22 21,pG 23 22,pE 24 23 0]) (.cond 24 (.seq (.ops [pF 26 11 2,pL 27 26,pM 28 7,(none,.e (.mkl 29 25 3 0 (.agg z2) [])),(none,.e (.call (some 30) 126 [.t 27,.t 28,.t 29])),pM 25 30,pX 31 0 25,pX 32 1 25,pM 8 31,pM 9 32]) (.seq (.ops [pM 33 8,(none,.e (.mkl 34 69 1 1 (.raw (.slice none 0 0)) [(0,.t 33)])),pM 35 9,pM 4 34,pM 5 35]) .ret)) .skip)) (.seq (.ops [pY 10]) (.seq (.block 0 (.loop (.seq (.seq (.ops [pM 36 7,pG 37 36,(none,.v (.bin 38 .gtr false (.t 37) (.c (.int .i64 0))))]) (.cond 38 .skip (.exit 0))) (.block 1 (.seq (.any false (.pure0 none (oL 39 6) (.pure0 none (oM 40 7) (.pure0 none (.p (.idx 41 1 (.t 40) (.c (.int .i64 0)))) (.pure0 none (oL 42 41) (.alt none (.e (.callv (some 43) (.t 39) [.t 42])) (.base (.pure0 none (oM 11 43) .done)) .stop)))))) (.seq (.ops [pI 12 1]) (.seq (.block 2 (.loop (.seq (.seq (.any false (.pure0 none (oM 44 12) (.pure0 none (oM 45 7) (.pure0 none (oG 46 45) (.pure0 none (oB 47 44 46) (.pure0 none (oM 48 47) (.pure0 (some (48,true)) (oL 49 6) (.pure0 (some (48,true)) (oM 50 7) (.pure0 (some (48,true)) (oM 51 12) (.pure0 (some (48,true)) (oQ 52 1 50 51) (.pure0 (some (48,true)) (oL 53 52) (.pure0 (some (48,true)) (oM 55 11) (.alt (some (48,true)) (.e (.callv (some 54) (.t 49) [.t 53])) (.base (.alt (some (48,true)) (oW 56 64 54 55) (.base (.pure0 none (oP 57 48 56) .done)) .stop)) .stop))))))))))))) (.cond 57 .skip (.exit 2))) (.block 3 (.ops [pM 58 12,pA 59 58 1,pM 12 59]))))) (.seq (.any false (.pure0 none (oF 61 11 2) (.pure0 none (oL 62 61) (.pure0 none (oM 63 7) (.pure0 none (oM 64 12) (.pure0 none (.p (.pre 65 1 (.t 63) (some (.t 64)))) (.pure0 none (oM 66 11) (.alt none (.e (.call (some 67) 126 [.t 62,.t 65,.t 66])) (.base (.pure0 none (oM 60 67) (.pure0 none (oX 68 0 60) (.pure0 none (oX 69 1 60) (.pure0 none (oM 13 68) (.pure0 none (oM 14 69) .done)))))) .stop)))))))) (.seq (.seq (.ops [pM 70 14,pD 71 70 0]) (.cond 71 (.seq (.ops [pM 72 14,pY 4,pM 5 72]) .ret) .skip)) (.seq (.ops [pM 73 10,pM 74 13,(none,.e (.mkl 75 69 1 1 (.raw (.slice none 0 0)) [(0,.t 74)])),(none,.e (.app 76 69 1 24 (.t 73) (.t 75))),pM 10 76]) (.ops [pM 77 7,pM 78 12,(none,.p (.cut 79 1 (.t 77) (.t 78) none)),pM 7 79]))))))))))) (.seq (.ops [pM 80 10,pM 4 80,pI 5 0]) .ret))))))))
theorem ok103:FnOk E 103 81 [.tmp 4,.tmp 5] mc103:=ofk func103
set_option maxRecDepth 20000
set_option maxHeartbeats 16000000
theorem runsF_same {α κ:Type} [DecidableEq κ] {key:α→κ}:∀ {n m:Nat} {l:List α},l.length≤n→l.length≤m→runsF key n l=runsF key m l
 | 0,0,_,_,_=>rfl
 | 0,m+1,l,h,_=>by
   have:l=[]:=List.eq_nil_of_length_eq_zero (by omega)
   subst this;rfl
 | n+1,0,l,_,h=>by
   have:l=[]:=List.eq_nil_of_length_eq_zero (by omega)
   subst this;rfl
 | n+1,m+1,[],_,_=>rfl
 | n+1,m+1,x::l,h1,h2=>by
   rw [runsF,runsF]
   have:=(List.dropWhile_sublist (fun y=>decide (key y=key x)) (l:=l)).length_le
   simp only [List.length_cons] at h1 h2
   rw [runsF_same (n:=n) (m:=m) (by omega) (by omega)]
def runs {α κ:Type} [DecidableEq κ] (key:α→κ) (l:List α):List (List α):=runsF key l.length l
theorem runs_nil {α κ:Type} [DecidableEq κ] {key:α→κ}:runs key ([]:List α)=[]:=rfl
theorem runs_at {α κ:Type} [DecidableEq κ] {key:α→κ} {x:α} {l:List α} {n:Nat} (h0:0<n) (hn:n≤(x::l).length) (h1:∀ y ∈ (x::l).take n,key y=key x) (h2:∀ h:n<(x::l).length,key (x::l)[n]≠key x) :
 runs key (x::l)=(x::l).take n::runs key ((x::l).drop n):=by
 obtain ⟨k,rfl⟩:∃ k,n=k+1:=⟨n - 1,by omega⟩
 simp only [List.length_cons] at hn
 simp only [List.take_succ_cons,List.drop_succ_cons] at h1 ⊢
 have e:∀ (m:List α) (k:Nat),k≤m.length→(∀ y ∈ m.take k,key y=key x)→(∀ h:k<m.length,key m[k]≠key x)→m.takeWhile (fun y=>decide (key y=key x))=m.take k∧m.dropWhile (fun y=>decide (key y=key x))=m.drop k:=by
  intro m
  induction m with
  | nil=>intro k hk _ _;simp
  | cons y m ih =>
    intro k hk ha hb
    cases k with
    | zero =>
      have:=hb (by simp)
      simp only [List.getElem_cons_zero] at this
      simp [List.takeWhile_cons,List.dropWhile_cons,this]
    | succ k =>
      have hy:key y=key x:=ha y (by simp)
      obtain ⟨i1,i2⟩:=ih k (by simpa using hk) (fun z hz=>ha z (by simp [hz])) (fun h=>by have:=hb (by simpa using h);simpa using this)
      simp [List.takeWhile_cons,List.dropWhile_cons,hy,i1,i2]
 obtain ⟨e1,e2⟩:=e l k (by omega) (fun y hy=>h1 y (List.mem_cons_of_mem _ hy)) (fun h=>by have:=h2 (by simpa using h);simpa using this)
 unfold runs
 simp only [List.length_cons]
 rw [runsF,e1,e2]
 congr 1
 exact runsF_same (by simp) (by simp)
theorem c124o (q:QY) (r:List VL) (hf:FitsG q.grp r) (hg:q.grp.length≤1000000000):ACalls E.P 124 [rowV r,.vp q.cs] [] (fun o H=>o=.slc 0 3 q.grp.length∧H=[.arr 25 3 ((keyC q.grp r).map VL.av)]):=by
 have hmax:=maxLen_eq
 refine ok124.acalls hE hm (by simp) fun N hN=>?_
 unfold mc124 z2 pY pM pF pL pG pI pB pQ pR pA
 simp only [lA,seval,QY.cs]
 repeat' (first|(with_reducible first|(apply St.o;constructor)<;>intro _|refine And.intro (by omega) ?_|(apply Sq.o;constructor))|simp (disch:=omega) only [lE,seval])
 refine loop_i (fun i:Nat=>i≤q.grp.length) (fun i=>⟨[(0,rowV r),(4,.slc 0 3 i),(9,.view 1 (q.grp.map (AV.int .i64))),(10,.int .i64 q.grp.length),(11,.int .i64 i)],[.arr 25 3 (((keyC q.grp r).take i).map VL.av)]⟩) (fun i=>q.grp.length - i) 0 (by omega) (ent [0] false (by simp only [lP,seval,List.length_map]<;>(try simp)<;>(try omega)) (by simp only [lP,seval,List.length_map]<;>(try simp)<;>(try omega))) ?_
 intro i hi
 have hlen:((keyC q.grp r).take i).length=i:=by simp [keyC];omega
 by_cases hin:i<q.grp.length
 · have hlt:((i:Int)<(q.grp.length:Int)):=by omega
   obtain ⟨h1,h2⟩:=hf (q.grp.getD i 0) (by simp [List.getD_eq_getElem?_getD,hin])
   have ht:(keyC q.grp r).take (i+1)=(keyC q.grp r).take i++[r.getD (q.grp.getD i 0).toNat default]:=by
    rw [List.take_succ_eq_append_getElem (by simpa [keyC] using hin)]
    simp [keyC,List.getD_eq_getElem?_getD,hin]
   generalize hc:q.grp.getD i 0=c at *
   generalize hv:r.getD c.toNat default=v at *
   repeat' (first|(with_reducible first|(apply St.o;constructor)<;>intro _|refine And.intro (by omega) ?_|(apply Sq.o;constructor))|simp (disch:=omega) only [lE,seval,IdxR_ints,IdxR_vls,hc,hv,Int.toNat_natCast,List.length_map,hlt,decide_true,hlen])
   refine back_i (i+1) (show i+1≤q.grp.length by omega) (show q.grp.length - (i+1)<q.grp.length - i by omega) ?_
   rw [ht]
   exact (ent [2] false (by simp only [lP,seval,hlen,pa_vls,List.map_append,List.map_cons,List.map_nil,VL.av]<;>(try simp)<;>(try omega)) (by simp only [lP,seval,hlen,pa_vls,List.map_append,List.map_cons,List.map_nil,VL.av]<;>(try simp)<;>(try omega)))
 · obtain rfl:i=q.grp.length:=by omega
   have ht:(keyC q.grp r).take q.grp.length=keyC q.grp r:=List.take_of_length_le (by simp [keyC])
   rw [ht] at *
   repeat' (first|(with_reducible first|(apply St.o;constructor)<;>intro _|refine And.intro (by omega) ?_|(apply Sq.o;constructor))|simp (disch:=omega) only [lE,seval,List.length_map,Int.lt_irrefl,decide_false])
   exact keep_i [0] false (by simp) (by simp) rfl ⟨by simp only [lP,seval],by simp only [lP,seval,pa_vls]⟩
def GrQ (g:List Int) (ags:List AG) (l:Rws) (r:AV) (H:List AObj):Prop:=H=[]∧∃ x:Rws,r=.tup [rwsV x,.int .i64 (groupE g ags l).2]∧((groupE g ags l).2=0→x=(groupE g ags l).1)
theorem keep_gr {g:List Int} {ags:List AG} {l:Rws} {e:Int} {H:List AObj} (h:(groupE g ags l).2=e) (he:e≠0):keepQ 0 (GrQ g ags l) (.tup [.raw (.slice none 0 0),.int .i64 e]) H:=by
 subst h
 exact keepw_i [] false rfl (by simp) rfl (r':=.tup [.view 1 [],.int .i64 (groupE g ags l).2]) (WeakL.tup (.cons weak_nil (.refl _))) ⟨rfl,[],rfl,fun h=>absurd h he⟩
theorem spine103:∀ fn,E.P.funcs[103]?=some fn→fn.body.map (Go.Al.spine 7)=some true:=fun fn h=>by
 have e:=func103.symm.trans h
 injection e with e
 subst e
 rfl
theorem mapE_app {α β:Type} {f:α→β × Int}:∀ {l:List α} {x:α} {m:List α},(∀ y ∈ l,(f y).2=0)→(f x).2≠0→mapE f (l++x::m)=([],(f x).2)
 | [],x,m,_,h=>by rw [List.nil_append,mapE,if_pos h]
 | y::l,x,m,hn,h=>by
   rw [List.cons_append,mapE,if_neg (by simp [hn y]),mapE_app (fun z hz=>hn z (by simp [hz])) h,if_pos h]
theorem renL_vls {ρ:Nat→Nat} {xs:List VL}:renL ρ (xs.map VL.av)=xs.map VL.av:=renL_map (fun v=>by simp [VL.av,ren,renL]) xs
theorem aggsR_e (k:List VL) (ags:List AG) (l:Rws):(aggsR k ags l).2=(aggsE ags l).2:=by
 unfold aggsR;split
 · rename_i h;exact h.symm
 · rfl
theorem c103 {w:Nat} (q:QY) (l:Rws) (hl:l.length≤4000) (hg:q.grp.length≤1000000) (ha:q.aggs.length≤1000000)
 (hf:∀ a ∈ q.aggs,a.fn≠1→fitE w a.arg) (hr:∀ r ∈ l,rtR w r) (hc:∀ c ∈ q.grp,0≤c∧c<w) :
 ACalls E.P 103 [q.av,rwsV l] [] (GrQ q.grp q.aggs l):=by
 have hmax:=maxLen_eq
 have hfit:∀ r,rtR w r→FitsG q.grp r:=fun r h c hcm=>by have:=hc c hcm;rw [h.1];exact this
 have hcmp:Cmp 125 [[.fn (.func 124) [] [.vp q.cs]]] (rtR w) (keyed q.grp):=fun x y hx hy=>c125 q x y (hfit x hx) (hfit y hy) (by omega)
 have hswo:Swo (keyed q.grp):=(lexC_cmp.ord.comap (keyC q.grp)).swo
 have h99:=c99 l (by omega)
 have h104:=c104 hcmp hswo l hr l.length rfl (by omega)
 have hsm:∀ r ∈ stab (keyed q.grp) l,rtR w r:=fun r h=>hr r (stab_mem.1 h)
 have hsl:(stab (keyed q.grp) l).length=l.length:=stab_length l
 have hgr:groupE q.grp q.aggs l=if q.grp=[] then ([(aggsE q.aggs (stab (keyed q.grp) l)).1],(aggsE q.aggs (stab (keyed q.grp) l)).2) else mapE (runE q.grp q.aggs) (runs (keyC q.grp) (stab (keyed q.grp) l)):=rfl
 generalize hS:stab (keyed q.grp) l=S at *
 refine ok103.acallsF hE hm (by simp) 7 spine103 fun N hN=>?_
 unfold mc103 z2 pK pY pI pM pV pW pF pL pG pE pX pA pD oM oL oF oB oP oX oG oQ oW
 refine mf_i ?_
 simp only [lA,seval,q_av]
 repeat' (first|(with_reducible first|(apply St.o;constructor)<;>intro _|refine And.intro (by omega) ?_|(apply Sq.o;constructor))|simp (disch:=omega) only [lE,seval])
 refine mf_go (mf_i ?_)
 repeat' (first|(with_reducible first|(apply St.o;constructor)<;>intro _|refine And.intro (by omega) ?_|(apply Sq.o;constructor))|simp (disch:=omega) only [lE,seval])
 refine mf_go (mf_i ?_)
 repeat' (first|(with_reducible first|(apply St.o;constructor)<;>intro _|refine And.intro (by omega) ?_|(apply Sq.o;constructor))|((with_reducible apply Sc.o false;constructor);simp only [lP,seval];refine ⟨_,h99,?_⟩;rintro _ _ ⟨rfl,rfl⟩;simp only [lA,lP,seval])|simp (disch:=omega) only [lE,seval])
 refine mf_to (fr':=[(2,.vp q.cs),(6,.vp [.fn (.func 124) [] [.vp q.cs]]),(7,.slc 0 1 l.length)]) (H':=[.arr 69 1 (l.map rowV)]) (ent [2] true (by simp only [lP,seval,renL_rows,pa_rows,vw_rows]<;>(try simp)<;>(try omega)) (by simp only [lP,seval,renL_rows,pa_rows,vw_rows]<;>(try simp)<;>(try omega))) (mf_i ?_)
 repeat' (first|(with_reducible first|(apply St.o;constructor)<;>intro _|refine And.intro (by omega) ?_|(apply Sq.o;constructor))|simp (disch:=omega) only [lE,seval])
 refine callN_i [0] false (by simp) (by simp) ?_
 simp only [lP,seval,pa_rows]
 refine ⟨_,h104,?_⟩
 rintro _ _ ⟨rfl,rfl⟩
 simp only [lA,lP,seval,renL_rows]
 repeat' (first|(with_reducible first|(apply St.o;constructor)<;>intro _|refine And.intro (by omega) ?_|(apply Sq.o;constructor))|simp (disch:=omega) only [lE,seval])
 refine mf_to (fr':=[(2,.vp q.cs),(6,.vp [.fn (.func 124) [] [.vp q.cs]]),(7,rwsV S)]) (H':=[]) (ent [] true (by simp only [lP,seval,pa_rows,vw_rows,hsl]<;>(try simp)<;>(try omega)) (by simp only [lP,seval,pa_rows,vw_rows,hsl]<;>(try simp)<;>(try omega))) (mf_i ?_)
 simp only [QY.cs]
 repeat' (first|(with_reducible first|(apply St.o;constructor)<;>intro _|refine And.intro (by omega) ?_|(apply Sq.o;constructor))|simp (disch:=omega) only [lE,seval,List.length_map])
 · rename_i h
   have hn:q.grp=[]:=List.eq_nil_of_length_eq_zero (by omega)
   rw [if_pos hn] at hgr
   have h126:=c126 q.aggs S [] 0 rfl (by omega) (by omega) ha hf hsm
   refine callN_i [0] false (by simp) (by simp) ?_
   simp only [lP,seval,List.map_nil]
   refine ⟨_,h126,?_⟩
   rintro _ _ ⟨rfl,rfl⟩
   simp only [lA,lP,seval]
   repeat' (first|(with_reducible first|(apply St.o;constructor)<;>intro _|refine And.intro (by omega) ?_|(apply Sq.o;constructor))|simp (disch:=omega) only [lE,seval])
   simp only [mfQ,lA,seval]
   refine keep_i [] true (by simp) (by simp) rfl ⟨by simp only [lP,seval],[(aggsR [] q.aggs S).1],?_,fun h0=>?_⟩
   · simp only [lP,seval,List.map_cons,List.map_nil,aggsR_e,hgr]
     rfl
   · rw [hgr] at h0 ⊢
     simp only at h0 ⊢
     rw [aggsR,if_pos h0]
     rfl
 · rename_i h
   have hn:q.grp≠[]:=fun e=>by rw [e] at h;simp at h
   rw [if_neg hn] at hgr
   refine mf_go (mf_i ?_)
   repeat' (first|(with_reducible first|(apply St.o;constructor)<;>intro _|refine And.intro (by omega) ?_|(apply Sq.o;constructor))|simp (disch:=omega) only [lE,seval])
   refine mf_go (mf_i ?_)
   repeat' (first|(with_reducible first|(apply St.o;constructor)<;>intro _|refine And.intro (by omega) ?_|(apply Sq.o;constructor))|simp (disch:=omega) only [lE,seval])
   refine loop_i (fun x:Rws × List Rws=>x.1.length+x.2.length≤S.length∧(∀ r ∈ x.1,rtR w r)∧runs (keyC q.grp) S=x.2++runs (keyC q.grp) x.1∧∀ m ∈ x.2,(runE q.grp q.aggs m).2=0)
    (fun x=>⟨[(2,.vp q.cs),(6,.vp [.fn (.func 124) [] [.vp q.cs]]),(7,rwsV x.1),(10,.slc 0 1 x.2.length)],[.arr 69 1 ((x.2.map fun m=>(runE q.grp q.aggs m).1).map rowV)]⟩) (fun x=>x.1.length) (S,[]) ⟨by simp,hsm,by simp,by simp⟩ (Ent.ghost' 10 69 1 (by omega) rfl (ent [0] false)) ?_
   · rintro ⟨s,dn⟩ ⟨h1,h2,h3,h4⟩
     simp only at h1 h2 h3 h4 ⊢
     cases s with
     | nil =>
       rw [runs_nil,List.append_nil] at h3
       simp only [QY.cs,List.map_nil]
       repeat' (first|(with_reducible first|(apply St.o;constructor)<;>intro _|refine And.intro (by omega) ?_|(apply Sq.o;constructor))|simp (disch:=omega) only [lE,seval])
       refine mf_go (mf_last ?_)
       repeat' (first|(with_reducible first|(apply St.o;constructor)<;>intro _|refine And.intro (by omega) ?_|(apply Sq.o;constructor))|simp (disch:=omega) only [lE,seval])
       rw [h3,mapE_ok h4] at hgr
       refine keep_i [] true (by simp) (by simp) rfl ⟨by simp only [lP,seval],dn.map fun m=>(runE q.grp q.aggs m).1,?_,fun _=>by rw [hgr]⟩
       rw [hgr]
       have hlen:(((dn.map fun m=>(runE q.grp q.aggs m).1)).map rowV).length=dn.length:=by simp
       rw [← hlen]
       simp only [lP,seval,vw_rows,List.take_length]
     | cons x s =>
       have hk:=c124o q x (hfit x (h2 x (by simp))) (by omega)
       have hlen:(((dn.map fun m=>(runE q.grp q.aggs m).1)).map rowV).length=dn.length:=by simp
       have hpos:((0:Int)<((x::s).length:Int)):=by simp
       simp only [QY.cs] at hk ⊢
       have hgx:(x::s).getD 0 default=x:=rfl
       generalize hs:x::s=sx at *
       repeat' (first|(with_reducible first|(apply St.o;constructor)<;>intro _|refine And.intro (by omega) ?_|(apply Sq.o;constructor))|((with_reducible apply Sc.o false;constructor);simp only [lP,seval,IdxR_rows,hgx,hpos,Int.toNat_zero,List.nil_append,List.cons_append,List.length_map,decide_true,gt_iff_lt];refine ⟨_,hk,?_⟩;rintro _ _ ⟨rfl,rfl⟩;simp only [lA,lP,seval,IdxR_rows,hgx,hpos,Int.toNat_zero,List.nil_append,List.cons_append,List.length_map,decide_true,gt_iff_lt])|with_reducible refine any_i [] ?_|simp (disch:=omega) only [lE,seval,IdxR_rows,hgx,hpos,Int.toNat_zero,List.nil_append,List.cons_append,List.length_map,decide_true,gt_iff_lt])
       have hgl:q.grp.length=((keyC q.grp x).map VL.av).length:=by simp [keyC]
       refine loop_i (fun n:Nat=>0<n∧n≤sx.length∧∀ y ∈ sx.take n,keyC q.grp y=keyC q.grp x)
        (fun n=>⟨[(2,.vp q.cs),(6,.vp [.fn (.func 124) [] [.vp q.cs]]),(7,rwsV sx),(10,.slc 0 1 dn.length),(11,.slc 1 3 q.grp.length),(12,.int .i64 n)],[.arr 69 1 ((dn.map fun m=>(runE q.grp q.aggs m).1).map rowV),.arr 25 3 ((keyC q.grp x).map VL.av)]⟩) (fun n=>sx.length - n) 1 ⟨by omega,by rw [← hs];simp,by rw [← hs];simp⟩ (ent [0,1] false (by simp only [lP,seval,renL_vls,pa_rows,pa_vls]<;>(try simp)<;>(try omega)) (by simp only [lP,seval,renL_vls,pa_rows,pa_vls]<;>(try simp)<;>(try omega))) ?_
       rintro n ⟨g0,g1,g2⟩
       simp only [QY.cs]
       by_cases hnl:n<sx.length
       · have hlt:((n:Int)<(sx.length:Int)):=by omega
         have hky:=c124 q (sx.getD n default) (hfit _ (h2 _ (by simp [hnl]))) (by omega)
         have h64:=c64 (keyC q.grp (sx.getD n default)) (keyC q.grp x)
         simp only [QY.cs] at hky
         have htk:sx.take (n+1)=sx.take n++[sx.getD n default]:=by rw [List.take_succ_eq_append_getElem hnl];simp [hnl]
         generalize hy:sx.getD n default=y at *
         repeat' (first|(with_reducible apply St.o;constructor) <;> intro _|(with_reducible first|refine And.intro (by omega) ?_|(apply Sp.o;constructor)|refine mkl_own ?_|refine ap_own ?_|refine base0_i ?_|refine frz0_i ?_)|((with_reducible apply Sc.o true;constructor);simp only [lP,seval,IdxR_rows,hy,hlt,Int.toNat_natCast,List.nil_append,List.cons_append,List.length_map,decide_true,hgl,vw_vls,List.take_length];refine ⟨_,h64,?_⟩;rintro _ _ ⟨rfl,rfl⟩;simp only [lA,lP,seval,IdxR_rows,hy,hlt,Int.toNat_natCast,List.nil_append,List.cons_append,List.length_map,decide_true,hgl,vw_vls,List.take_length])|((with_reducible apply Sc.o false;constructor);simp only [lP,seval,IdxR_rows,hy,hlt,Int.toNat_natCast,List.nil_append,List.cons_append,List.length_map,decide_true,hgl,vw_vls,List.take_length];refine ⟨_,hky,?_⟩;rintro _ _ ⟨rfl,rfl⟩;simp only [lA,lP,seval,IdxR_rows,hy,hlt,Int.toNat_natCast,List.nil_append,List.cons_append,List.length_map,decide_true,hgl,vw_vls,List.take_length])|with_reducible refine any0_i [1] ?_|simp (disch:=omega) only [lE,seval,IdxR_rows,hy,hlt,Int.toNat_natCast,List.nil_append,List.cons_append,List.length_map,decide_true,hgl,vw_vls,List.take_length])
         · rename_i h
           have h:keyC q.grp y=keyC q.grp x:=eqC_iff.1 h
           refine back_i (n+1) ⟨by omega,by omega,fun z hz=>?_⟩ (by omega) ?_
           · rw [htk] at hz
             rcases List.mem_append.1 hz with hz | hz
             · exact g2 z hz
             · rw [List.mem_singleton.1 hz];exact h
           · exact (ent [0,1] false (by simp only [lP,seval,pa_rows,pa_vls,hgl,List.length_map]<;>(try simp)<;>(try omega)) (by simp only [lP,seval,pa_rows,pa_vls,hgl,List.length_map]<;>(try simp)<;>(try omega)))
         · rename_i h
           have h:keyC q.grp y≠keyC q.grp x:=eqC_false.1 (by simpa using h)
           have hex:∀ h:n<sx.length,keyC q.grp sx[n]≠keyC q.grp x:=fun hh=>by
            have:sx[n]=y:=by rw [← hy];simp [hh]
            rw [this];exact h
           have hrun:=runs_at (key:=keyC q.grp) (x:=x) (l:=s) (n:=n) g0 (by rw [hs];exact g1) (by rw [hs];exact g2) (by rw [hs];exact hex)
           rw [hs] at hrun
           have hhd:(sx.take n).headD default=x:=by rw [← hs];obtain ⟨k,rfl⟩:∃ k,n=k+1:=⟨n - 1,by omega⟩;simp
           have hre:runE q.grp q.aggs (sx.take n)=(keyC q.grp x++(aggsE q.aggs (sx.take n)).1,(aggsE q.aggs (sx.take n)).2):=by rw [runE,hhd]
           have h126:=c126 q.aggs (sx.take n) (keyC q.grp x) (keyC q.grp x).length rfl (by rw [List.length_map] at hgl;omega) (by simp;omega) ha hf (fun r hr=>h2 r (List.mem_of_mem_take hr))
           refine acallI_i [1] false (by simp) (by simp) (by simp) ?_
           simp only [lP,seval,pa_vls]
           have hte:List.take n (sx.map rowV)=(sx.take n).map rowV:=List.map_take.symm
           have hde:List.drop n (sx.map rowV)=(sx.drop n).map rowV:=List.map_drop.symm
           rw [hte]
           refine ⟨_,h126,?_⟩
           rintro _ _ ⟨rfl,rfl⟩
           have hae:=aggsR_e (keyC q.grp x) q.aggs (sx.take n)
           have hao:(aggsE q.aggs (sx.take n)).2=0→(aggsR (keyC q.grp x) q.aggs (sx.take n)).1=(runE q.grp q.aggs (sx.take n)).1:=fun h=>by rw [aggsR,if_pos h,hre]
           have hr2:(runE q.grp q.aggs (sx.take n)).2=(aggsE q.aggs (sx.take n)).2:=by rw [hre]
           generalize aggsR (keyC q.grp x) q.aggs (sx.take n)=ar at *
           obtain ⟨a1,a2⟩:=ar
           simp only at hae hao
           simp only [lA,lP,seval]
           repeat' (first|(with_reducible first|(apply St.o;constructor)<;>intro _|refine And.intro (by omega) ?_|(apply Sq.o;constructor))|simp (disch:=omega) only [lE,seval,hde,hlen,List.length_map])
           · rename_i h
             rw [hae] at h
             rw [h3,hrun] at hgr
             have:=mapE_app (f:=runE q.grp q.aggs) (m:=runs (keyC q.grp) (sx.drop n)) h4 (by rw [hr2];exact h)
             rw [this] at hgr
             exact keep_gr (by rw [hgr,hr2,hae]) (by rw [hae];exact h)
           · rename_i h
             rw [hae] at h
             refine back_i (sx.drop n,dn++[sx.take n]) ⟨?_,fun r hr=>h2 r (List.mem_of_mem_drop hr),?_,fun m hm=>?_⟩ ?_ ?_
             · simp only [List.length_drop,List.length_append,List.length_cons,List.length_nil]
               omega
             · simp only
               rw [h3,hrun,List.append_assoc]
               rfl
             · rcases List.mem_append.1 hm with hm | hm
               · exact h4 m hm
               · rw [List.mem_singleton.1 hm,hr2];exact h
             · simp only [List.length_drop]
               omega
             · exact (ent [3] true (by simp only [lP,seval,hlen,hao h,pa_rows,vw_rows,List.map_append,List.map_cons,List.map_nil]<;>(try simp)<;>(try omega)) (by simp only [lP,seval,hlen,hao h,pa_rows,vw_rows,List.map_append,List.map_cons,List.map_nil]<;>(try simp)<;>(try omega)))
       · have hlt:((n:Int)<(sx.length:Int))=False:=by simp only [eq_iff_iff,iff_false];omega
         have hex:∀ h:n<sx.length,keyC q.grp sx[n]≠keyC q.grp x:=fun hh=>absurd hh hnl
         repeat' (first|(with_reducible apply St.o;constructor) <;> intro _|(with_reducible first|refine And.intro (by omega) ?_|(apply Sp.o;constructor)|refine mkl_own ?_|refine ap_own ?_|refine base0_i ?_|refine frz0_i ?_)|with_reducible refine any0_i [1] ?_|simp (disch:=omega) only [lE,seval,hlt,Int.toNat_natCast,List.length_map,decide_false,hgl])
         all_goals
          have hrun:=runs_at (key:=keyC q.grp) (x:=x) (l:=s) (n:=n) g0 (by rw [hs];exact g1) (by rw [hs];exact g2) (by rw [hs];exact hex)
          rw [hs] at hrun
          have hhd:(sx.take n).headD default=x:=by rw [← hs];obtain ⟨k,rfl⟩:∃ k,n=k+1:=⟨n - 1,by omega⟩;simp
          have hre:runE q.grp q.aggs (sx.take n)=(keyC q.grp x++(aggsE q.aggs (sx.take n)).1,(aggsE q.aggs (sx.take n)).2):=by rw [runE,hhd]
          have h126:=c126 q.aggs (sx.take n) (keyC q.grp x) (keyC q.grp x).length rfl (by rw [List.length_map] at hgl;omega) (by simp;omega) ha hf (fun r hr=>h2 r (List.mem_of_mem_take hr))
          refine acallI_i [1] false (by simp) (by simp) (by simp) ?_
          simp only [lP,seval,pa_vls]
          have hte:List.take n (sx.map rowV)=(sx.take n).map rowV:=List.map_take.symm
          have hde:List.drop n (sx.map rowV)=(sx.drop n).map rowV:=List.map_drop.symm
          rw [hte]
          refine ⟨_,h126,?_⟩
          rintro _ _ ⟨rfl,rfl⟩
          have hae:=aggsR_e (keyC q.grp x) q.aggs (sx.take n)
          have hao:(aggsE q.aggs (sx.take n)).2=0→(aggsR (keyC q.grp x) q.aggs (sx.take n)).1=(runE q.grp q.aggs (sx.take n)).1:=fun h=>by rw [aggsR,if_pos h,hre]
          have hr2:(runE q.grp q.aggs (sx.take n)).2=(aggsE q.aggs (sx.take n)).2:=by rw [hre]
          generalize aggsR (keyC q.grp x) q.aggs (sx.take n)=ar at *
          obtain ⟨a1,a2⟩:=ar
          simp only at hae hao
          simp only [lA,lP,seval]
          repeat' (first|(with_reducible first|(apply St.o;constructor)<;>intro _|refine And.intro (by omega) ?_|(apply Sq.o;constructor))|simp (disch:=omega) only [lE,seval,hde,hlen,List.length_map])
          · rename_i h
            rw [hae] at h
            rw [h3,hrun] at hgr
            have:=mapE_app (f:=runE q.grp q.aggs) (m:=runs (keyC q.grp) (sx.drop n)) h4 (by rw [hr2];exact h)
            rw [this] at hgr
            exact keep_gr (by rw [hgr,hr2,hae]) (by rw [hae];exact h)
          · rename_i h
            rw [hae] at h
            refine back_i (sx.drop n,dn++[sx.take n]) ⟨?_,fun r hr=>h2 r (List.mem_of_mem_drop hr),?_,fun m hm=>?_⟩ ?_ ?_
            · simp only [List.length_drop,List.length_append,List.length_cons,List.length_nil]
              omega
            · simp only
              rw [h3,hrun,List.append_assoc]
              rfl
            · rcases List.mem_append.1 hm with hm | hm
              · exact h4 m hm
              · rw [List.mem_singleton.1 hm,hr2];exact h
            · simp only [List.length_drop]
              omega
            · exact (ent [3] true (by simp only [lP,seval,hlen,hao h,pa_rows,vw_rows,List.map_append,List.map_cons,List.map_nil]<;>(try simp)<;>(try omega)) (by simp only [lP,seval,hlen,hao h,pa_rows,vw_rows,List.map_append,List.map_cons,List.map_nil]<;>(try simp)<;>(try omega)))
end Go.Proofs.Try
