/-
 A part of the proof: see the text of the law.
-/
import Derived.Test.YtchlampphcaomaaGreatDoorFirst
set_option linter.unusedSimpArgs false
set_option linter.unusedVariables false
namespace Go.Proofs.Try
open Go.Proofs.Tryz
open Go.Al
set_option maxRecDepth 100000
def mc168:MC:=(.seq (.ops [pZ 2]) (.seq (.ops [pM 3 0,(none,.e (.call (some 4) 174 [.t 3,.c (.fn (.func 175) [] [])])),pN 5 4,pM 2 5]) .ret))
theorem ok168:FnOk E 168 6 [.tmp 2] mc168:=ofk func168
def mc174:MC:=(.seq (.ops [pZ 4]) (.seq (.ops [pM 5 0,pM 6 1,pW 7 178 5 6,(none,.v (.bin 8 .geq false (.t 7) (.c (.int .i64 0)))),pM 4 8]) .ret))
theorem ok174:FnOk E 174 9 [.tmp 4] mc174:=ofk func174
def mc177:MC:=(.seq (.ops [pK 3 1,pI 4 0]) (.seq (.seq (.ops [pM 6 0,pG 7 6,pI 8 0]) (.block 0 (.loop (.seq (.ops [pB 9 8 7]) (.seq (.cond 9 .skip (.exit 0)) (.seq (.block 1 (.seq (.ops [pM 10 8,pM 5 10]) (.seq (.any false (.pure0 none (oR 11 3 3) (.pure0 none (oM 12 0) (.pure0 none (oM 13 5) (.pure0 none (oQ 14 3 12 13) (.pure0 none (oR 15 3 14) (.pure0 none (.v (.eq 16 false (.agg [(0,false,1,.int),(1,false,1,.int),(2,false,1,.str)]) (.t 11) (.t 15))) .done))))))) (.cond 16 (.seq (.ops [pM 17 5,pM 4 17]) .ret) .skip)))) (.ops [pA 18 8 1,pM 8 18]))))))) (.seq (.ops [(none,.v (.mov 4 (.c (.int .i64 (-1)))))]) .ret)))
theorem ok177:FnOk E 177 19 [.tmp 4] mc177:=ofk func177
def mc178:MC:=(.seq (.ops [pI 4 0]) (.seq (.seq (.ops [pM 6 0,pG 7 6,pI 8 0]) (.block 0 (.loop (.seq (.ops [pB 9 8 7]) (.seq (.cond 9 .skip (.exit 0)) (.seq (.block 1 (.seq (.ops [pM 10 8,pM 5 10]) (.seq (.ops [pM 11 1,pM 12 0,pM 13 5,pQ 14 3 12 13,pR 15 3 14,(none,.e (.callv (some 16) (.t 11) [.t 15]))]) (.cond 16 (.seq (.ops [pM 17 5,pM 4 17]) .ret) .skip)))) (.ops [pA 18 8 1,pM 8 18]))))))) (.seq (.ops [(none,.v (.mov 4 (.c (.int .i64 (-1)))))]) .ret)))
theorem ok178:FnOk E 178 19 [.tmp 4] mc178:=ofk func178
set_option maxRecDepth 20000
instance:Inhabited VL:=⟨⟨0,0,⟨#[]⟩⟩⟩
abbrev VL.cs (v:VL):List AV:=[.int .i64 v.k,.int .i64 v.n,.str v.s]
theorem vl_av (v:VL):v.av=.agg v.cs:=rfl
theorem vw_vl {H:List AObj} {l:List Nat} {n:Nat} (v:VL):vw H l (n+1) v.av=v.av:=by simp [VL.av,vw_agg,vw_int,vw_str]
theorem pa_vl {H:List AObj} {l:List Nat} {bor:Bool} {n:Nat} (v:VL):pa H l bor (n+1) v.av=v.av:=by simp [VL.av,pa_agg,pa_int,pa_str]
theorem vw_vls {H:List AObj} {l:List Nat} {n:Nat} {xs:List VL}:(xs.map VL.av).map (vw H l (n+1))=xs.map VL.av:=map_same vw_vl xs
theorem pa_vls {H:List AObj} {l:List Nat} {bor:Bool} {n:Nat} {xs:List VL}:(xs.map VL.av).map (pa H l bor (n+1))=xs.map VL.av:=map_same pa_vl xs
theorem IdxR_vls {P:Program} {m:Nat} {N:FN} {xs:List VL} {n:Int} {d:Nat} {c:Kn} (h0:0≤n) (h1:n<xs.length):IdxR P m N (xs.map VL.av) n d c=rK P m N c d (.vp (xs.getD n.toNat default).cs) :=
 IdxR_map (cs:=VL.cs) (fun _=>rfl) h0 h1
theorem any_take {α:Type} {p:α→Bool} {l:List α} {i:Nat} (h:i<l.length) (d:α) (h1:(l.take i).any p=false) (h2:p (l.getD i d)=false):(l.take (i+1)).any p=false:=by
 rw [List.take_succ_eq_append_getElem h,List.any_append,h1]
 simpa [h] using h2
theorem any_at {α:Type} {p:α→Bool} {l:List α} {i:Nat} (h:i<l.length) (d:α) (h2:p (l.getD i d)=true):l.any p=true:=by
 rw [List.any_eq_true]
 exact ⟨l[i],by simp,by simpa [h] using h2⟩
theorem c178 (l:List VL) (f:FuncId) (p:VL→Bool) (hp:∀ v:VL,ACalls E.P f [v.av] [] (fun r H=>r=.bool (p v)∧H=[])) :
 ACalls E.P 178 [.view 3 (l.map VL.av),.fn (.func f) [] []] [] (fun r H=>(∃ n:Int,r=.int .i64 n∧(0≤n↔l.any p=true))∧H=[]):=by
 have hmax:=maxLen_eq
 refine ok178.acalls hE hm (by simp) fun N hN=>?_
 unfold mc178 pI pM pG pB pQ pR pA
 simp only [lA,seval]
 refine LenR_i fun hl=>?_
 rw [List.length_map,hmax] at hl
 simp only [lA,seval,List.length_map]
 refine loop_i (fun i:Nat=>i≤l.length∧(l.take i).any p=false) (fun i=>⟨[(0,.view 3 (l.map VL.av)),(1,.fn (.func f) [] []),(7,.int .i64 l.length),(8,.int .i64 i)],[]⟩) (fun i=>l.length - i) 0 ⟨by omega,by simp⟩ (ent [] false) ?_
 rintro i ⟨hi,ha⟩
 have hpi:=hp (l.getD i default)
 simp only [vl_av] at hpi
 repeat' (first|(with_reducible first|(apply St.o;constructor)<;>intro _|refine And.intro (by omega) ?_|(apply Sq.o;constructor))|((with_reducible apply Sc.o true;constructor);simp only [lP,seval,IdxR_vls,Int.toNat_natCast];refine ⟨_,hpi,?_⟩;rintro _ _ ⟨rfl,rfl⟩;simp only [lA,lP,seval,IdxR_vls,Int.toNat_natCast])|((with_reducible refine keep0_i ?_);simp only [lP,seval])|simp (disch:=omega) only [lE,seval,IdxR_vls,Int.toNat_natCast])
 · rename_i h1 h2
   exact ⟨i,rfl,by have:=any_at (p:=p) (l:=l) (i:=i) (by omega) default h2;simp only [this,iff_true];omega⟩
 · rename_i h1 h2
   exact back_i (i+1) ⟨by omega,any_take (by omega) default ha (by simpa using h2)⟩ (by omega) (ent [] false)
 · rename_i h1
   refine ⟨-1,rfl,?_⟩
   rw [List.take_of_length_le (by omega)] at ha
   simp [ha]
theorem c174 (l:List VL) (f:FuncId) (p:VL→Bool) (hp:∀ v:VL,ACalls E.P f [v.av] [] (fun r H=>r=.bool (p v)∧H=[])) :
 ACalls E.P 174 [.view 3 (l.map VL.av),.fn (.func f) [] []] [] (fun r H=>r=.bool (l.any p)∧H=[]):=by
 have h178:=c178 l f p hp
 refine ok174.acalls hE hm (by simp) fun N hN=>?_
 unfold mc174 pZ pM pW
 simp only [lA,seval]
 repeat' (first|(with_reducible first|(apply St.o;constructor)<;>intro _|refine And.intro (by omega) ?_|(apply Sq.o;constructor))|((with_reducible apply Sc.o true;constructor);simp only [lP,seval];refine ⟨_,h178,?_⟩;rintro _ _ ⟨⟨n,rfl,hn⟩,rfl⟩;simp only [lA,lP,seval])|((with_reducible refine keep0_i ?_);simp only [lP,seval])|simp (disch:=omega) only [lE,seval])
 simp only [ge_iff_le,hn,Bool.decide_eq_true]
theorem c168 (l:List VL):ACalls E.P 168 [.view 3 (l.map VL.av)] [] (fun r H=>r=.bool (l.all VL.logical)∧H=[]):=by
 have h174:=c174 l 175 (fun v=>!v.logical) c175
 refine ok168.acalls hE hm (by simp) fun N hN=>?_
 unfold mc168 pZ pM pN
 simp only [lA,seval]
 repeat' (first|(with_reducible first|(apply St.o;constructor)<;>intro _|refine And.intro (by omega) ?_|(apply Sq.o;constructor))|((with_reducible apply Sc.o true;constructor);simp only [lP,seval];refine ⟨_,h174,?_⟩;rintro _ _ ⟨rfl,rfl⟩;simp only [lA,lP,seval])|((with_reducible refine keep0_i ?_);simp only [lP,seval])|simp (disch:=omega) only [lE,seval])
 simp [List.any_eq_not_all_not]
def VL.same (a b:VL):Bool:=decide (a.k=b.k∧a.n=b.n∧a.s=b.s)
theorem VL.same_iff {a b:VL}:a.same b=true↔a=b:=by
 obtain ⟨_,_,_⟩:=a;obtain ⟨_,_,_⟩:=b
 simp [VL.same]
theorem c177 (l:List VL) (x:VL):ACalls E.P 177 [.view 3 (l.map VL.av),x.av] [] (fun r H=>(∃ n:Int,r=.int .i64 n∧(0≤n↔l.any x.same=true))∧H=[]):=by
 have hmax:=maxLen_eq
 obtain ⟨kx,nx,sx⟩:=x
 refine ok177.acalls hE hm (by simp) fun N hN=>?_
 unfold mc177 pK pI pM pG pB pA oM oR oQ
 simp only [lA,seval,VL.av]
 refine LenR_i fun hl=>?_
 rw [List.length_map,hmax] at hl
 simp only [lA,seval,List.length_map]
 refine loop_i (fun i:Nat=>i≤l.length∧(l.take i).any (VL.same ⟨kx,nx,sx⟩)=false) (fun i=>⟨[(0,.view 3 (l.map VL.av)),(3,.op 0 0),(7,.int .i64 l.length),(8,.int .i64 i)],[.box [.int .i64 kx,.int .i64 nx,.str sx]]⟩) (fun i=>l.length - i) 0 ⟨by omega,by simp⟩ (ent [0] false) ?_
 rintro i ⟨hi,ha⟩
 simp only [← VL.av.eq_1] at *
 repeat' (first|(with_reducible first|(apply St.o;constructor)<;>intro _|refine And.intro (by omega) ?_|(apply Sq.o;constructor))|((with_reducible refine keep0_i ?_);simp only [lP,seval])|simp (disch:=omega) only [lE,seval,IdxR_vls,Int.toNat_natCast,strA,flatEq])
 · rename_i h1 h2
   refine ⟨i,rfl,?_⟩
   have:=any_at (p:=VL.same ⟨kx,nx,sx⟩) (l:=l) (i:=i) (by omega) default (by simpa [VL.same] using h2)
   simp [this]
 · rename_i h1 h2
   exact back_i (i+1) ⟨by omega,any_take (by omega) default ha (by simpa [VL.same] using h2)⟩ (by omega) (ent [0] false)
 · rename_i h1
   refine ⟨-1,rfl,?_⟩
   rw [List.take_of_length_le (by omega)] at ha
   simp [ha]
set_option maxRecDepth 100000
def mc147:MC:=(.seq (.ops [pK 2 0,pK 3 1,(none,.e (.alloc 4 z2)),pI 5 0]) (.seq (.ops [pR 6 3 2,pR 7 3 3,(none,.e (.mkl 8 25 3 2 (.agg z2) [(0,.t 6),(1,.t 7)])),(none,.e (.call (some 9) 167 [.c (.bool false),.t 8])),pX 10 0 9,pX 11 1 9,pS 3 4 10,pM 5 11]) .ret))
theorem ok147:FnOk E 147 12 [.cell 4 25,.tmp 5] mc147:=ofk func147
def mc148:MC:=(.seq (.ops [pK 2 0,pK 3 1,(none,.e (.alloc 4 z2)),pI 5 0]) (.seq (.ops [pR 6 3 2,pR 7 3 3,(none,.e (.mkl 8 25 3 2 (.agg z2) [(0,.t 6),(1,.t 7)])),(none,.e (.call (some 9) 167 [.c (.bool true),.t 8])),pX 10 0 9,pX 11 1 9,pS 3 4 10,pM 5 11]) .ret))
theorem ok148:FnOk E 148 12 [.cell 4 25,.tmp 5] mc148:=ofk func148
def mc149:MC:=(.seq (.ops [pK 1 0,(none,.e (.alloc 2 z2)),pI 3 0]) (.seq (.seq (.ops [pR 4 3 1,(none,.e (.mkl 5 25 3 1 (.agg z2) [(0,.t 4)])),pV 6 168 5,pN 7 6]) (.cond 7 (.seq (.ops [(none,.v (.build 8 z2 [])),pS 3 2 8,pI 3 7]) .ret) .skip)) (.seq (.seq (.ops [pF 9 0 1,pL 10 9,pE 11 10 3]) (.cond 11 (.ops [pF 12 1 1,pL 13 12,(none,.v (.bin 14 .sub false (.c (.int .i64 1)) (.t 13))),pF 15 1 1,(none,.e (.store 1 false (.t 15) (.t 14)))]) .skip)) (.seq (.ops [pR 16 3 1,pS 3 2 16,pI 3 0]) .ret))))
theorem ok149:FnOk E 149 17 [.cell 2 25,.tmp 3] mc149:=ofk func149
abbrev q151_0:MI:=.v (.mov 9 (.c (.bool true)))
abbrev q151_1:MI:=oI 7 0
def mc151:MC:=(.seq (.ops [pK 4 1,pK 5 2,(none,.e (.alloc 6 z2)),(none,q151_1)]) (.seq (.seq (.ops [pM 10 0,(none,.v (.bin 11 .lss false (.t 10) (.c (.int .i64 6)))),pM 12 11,gF 12 (oM 13 0),(some (12,false),.v (.bin 14 .gtr false (.t 13) (.c (.int .i64 11)))),pO 15 12 14]) (.cond 15 (.seq (.ops [(none,.v (.build 16 z2 [])),pS 3 6 16,pI 7 1]) .ret) .skip)) (.seq (.seq (.ops [pF 17 0 4,pL 18 17,pE 19 18 0,pM 20 19,gF 20 (oF 21 0 5),gF 20 (oL 22 21),gF 20 (oE 23 22 0),pO 24 20 23]) (.cond 24 (.seq (.ops [(none,.v (.build 25 z2 [])),pS 3 6 25,(none,q151_1)]) .ret) .skip)) (.seq (.seq (.ops [pF 26 0 4,pL 27 26,pF 28 0 5,pL 29 28,(none,.v (.bin 30 .neq false (.t 27) (.t 29)))]) (.cond 30 (.seq (.ops [(none,.v (.build 31 z2 [])),pS 3 6 31,pI 7 7]) .ret) .skip)) (.seq (.ops [pR 32 3 4,pR 33 3 5,pW 34 95 32 33,pM 8 34,pZ 9]) (.seq (.seq (.ops [pM 35 0]) (.block 0 (.seq (.block 5 (.seq (.block 4 (.seq (.block 3 (.seq (.block 2 (.seq (.block 1 (.seq (.seq (.seq (.ops [pE 37 35 7,pM 36 37]) (.cond 36 (.exit 1) .skip)) (.seq (.seq (.ops [pE 39 35 6,pM 38 39]) (.cond 38 (.exit 2) .skip)) (.seq (.seq (.ops [pE 41 35 11,pM 40 41]) (.cond 40 (.exit 3) .skip)) (.seq (.seq (.ops [pE 43 35 8,pM 42 43]) (.cond 42 (.exit 4) .skip)) (.seq (.ops [pE 45 35 9,pM 44 45]) (.cond 44 (.exit 5) .skip)))))) (.exit 0))) (.ops [(none,q151_0)]))) (.seq (.seq (.ops [pM 46 8,pE 47 46 0,pM 48 9,(none,.v (.bin 49 .neq true (.t 47) (.t 48))),pV 50 169 49,pS 3 6 50,(none,q151_1)]) .ret) (.exit 0)))) (.ops [(none,q151_0)]))) (.seq (.seq (.ops [pM 51 8,(none,.v (.bin 52 .lss false (.t 51) (.c (.int .i64 0)))),pM 53 9,(none,.v (.bin 54 .neq true (.t 52) (.t 53))),pV 55 169 54,pS 3 6 55,(none,q151_1)]) .ret) (.exit 0)))) (.seq (.ops [(none,q151_0)]) (.exit 0))))) (.seq (.ops [pM 56 8,(none,.v (.bin 57 .gtr false (.t 56) (.c (.int .i64 0)))),pM 58 9,(none,.v (.bin 59 .neq true (.t 57) (.t 58))),pV 60 169 59,pS 3 6 60,(none,q151_1)]) .ret)))))))
theorem ok151:FnOk E 151 61 [.cell 6 25,.tmp 7] mc151:=ofk func151
abbrev q167_0:MI:=oI 5 0
def mc167:MC:=(.seq (.ops [(none,.e (.alloc 4 z2)),(none,q167_0)]) (.seq (.block 0 (.seq (.ops [pM 7 1,pV 8 168 7,pN 9 8,pM 6 9]) (.cond 6 (.seq (.ops [(none,.v (.build 10 z2 [])),pS 3 4 10,pI 5 7]) .ret) (.seq (.ops [pM 12 1,pM 13 0,pV 14 169 13,pW 15 173 12 14,pM 11 15]) (.cond 11 (.seq (.ops [pM 16 0,pV 17 169 16,pS 3 4 17,(none,q167_0)]) .ret) (.seq (.ops [pM 19 1,(none,.v (.build 20 z2 [])),pW 21 173 19 20,pM 18 21]) (.cond 18 (.seq (.ops [(none,.v (.build 22 z2 [])),pS 3 4 22,(none,q167_0)]) .ret) .skip))))))) (.seq (.ops [pM 23 0,pN 24 23,pV 25 169 24,pS 3 4 25,(none,q167_0)]) .ret)))
theorem ok167:FnOk E 167 26 [.cell 4 25,.tmp 5] mc167:=ofk func167
def mc173:MC:=(.seq (.ops [pK 3 1,pZ 4]) (.seq (.ops [pM 5 0,pR 6 3 3,pW 7 177 5 6,(none,.v (.bin 8 .geq false (.t 7) (.c (.int .i64 0)))),pM 4 8]) .ret))
theorem ok173:FnOk E 173 9 [.tmp 4] mc173:=ofk func173
set_option maxRecDepth 20000
theorem c173 (l:List VL) (x:VL):ACalls E.P 173 [.view 3 (l.map VL.av),x.av] [] (fun r H=>r=.bool (l.any x.same)∧H=[]):=by
 have h:=c177 l x
 obtain ⟨kx,nx,sx⟩:=x
 refine ok173.acalls hE hm (by simp) fun N hN=>?_
 unfold mc173 pK pZ pM pR pW
 simp only [lA,seval,VL.av]
 simp only [VL.av] at h
 repeat' (first|(with_reducible first|(apply St.o;constructor)<;>intro _|refine And.intro (by omega) ?_|(apply Sq.o;constructor))|((with_reducible apply Sc.o true;constructor);simp only [lP,seval];refine ⟨_,h,?_⟩;rintro _ _ ⟨⟨n,rfl,hn⟩,rfl⟩;simp only [lA,lP,seval])|((with_reducible refine keep0_i ?_);simp only [lP,seval])|simp (disch:=omega) only [lE,seval])
 simp only [ge_iff_le,hn,Bool.decide_eq_true]
def VL.decP (strong:Bool) (l:List VL):VL × Int :=
 if (!l.all VL.logical)=true then (VL.null,7) else if l.any (VL.ofB strong).same=true then (VL.ofB strong,0) else if l.any VL.null.same=true then (VL.null,0) else (VL.ofB (!strong),0)
theorem c167 (strong:Bool) (l:List VL):ACalls E.P 167 [.bool strong,.view 3 (l.map VL.av)] [] (fun r H=>r=.tup [(VL.decP strong l).1.av,.int .i64 (VL.decP strong l).2]∧H=[]):=by
 have h1:=c168 l
 have h2:=c173 l (VL.ofB strong)
 have h3:=c173 l VL.null
 rw [show VL.null.av=.agg [.int .i64 0,.int .i64 0,.str ⟨#[]⟩] from rfl] at h3
 have h4:=c169 strong
 have h5:=c169 (!strong)
 have hx:∀ b,(VL.ofB b).av=.agg (VL.ofB b).cs:=fun _=>rfl
 simp only [hx] at h2 h4 h5
 simp only [VL.decP]
 generalize l.all VL.logical=p1 at *
 generalize l.any (VL.ofB strong).same=p2 at *
 generalize l.any VL.null.same=p3 at *
 simp only [VL.null] at h3 ⊢
 refine ok167.acalls hE hm (by simp) fun N hN=>?_
 unfold mc167 q167_0 z2 pM pV pN pS pI pW oI
 simp only [lA,seval,ti25]
 repeat' (first|(with_reducible first|(apply St.o;constructor)<;>intro _|refine And.intro (by omega) ?_|(apply Sq.o;constructor))|((with_reducible apply Sc.o true;constructor);simp only [lP,seval,ti25];(first|refine ⟨_,h1,?_⟩|refine ⟨_,h2,?_⟩|refine ⟨_,h3,?_⟩|refine ⟨_,h4,?_⟩|refine ⟨_,h5,?_⟩);rintro _ _ ⟨rfl,rfl⟩;simp only [lA,lP,seval,ti25])|((with_reducible refine keep0_i ?_);simp only [lP,seval])|simp (disch:=omega) only [lE,seval,ti25])
 all_goals clear h1 h2 h3 h4 h5
 all_goals (simp_all;rfl)
theorem c147' (a b:VL):ACalls E.P 147 [a.av,b.av] [] (fun r H=>r=.tup [(VL.decP false [a,b]).1.av,.int .i64 (VL.decP false [a,b]).2]∧H=[]):=by
 have h1:=c167 false [a,b]
 have hx:∀ b,VL.av b=.agg b.cs:=fun _=>rfl
 generalize VL.decP false [a,b]=r at *
 obtain ⟨r1,r2⟩:=r
 simp only [List.map_cons,List.map_nil,hx] at h1 ⊢
 refine ok147.acalls hE hm (by simp) fun N hN=>?_
 unfold mc147 z2 pK pI pR pX pS pM
 simp only [lA,seval]
 repeat' (first|(with_reducible first|(apply St.o;constructor)<;>intro _|refine And.intro (by omega) ?_|(apply Sq.o;constructor))|((with_reducible apply Sc.o true;constructor);simp only [lP,seval,ti25];refine ⟨_,h1,?_⟩;rintro _ _ ⟨rfl,rfl⟩;simp only [lA,lP,seval,ti25])|((with_reducible refine keep0_i ?_);simp only [lP,seval])|simp (disch:=omega) only [lE,seval,ti25])
theorem c148' (a b:VL):ACalls E.P 148 [a.av,b.av] [] (fun r H=>r=.tup [(VL.decP true [a,b]).1.av,.int .i64 (VL.decP true [a,b]).2]∧H=[]):=by
 have h1:=c167 true [a,b]
 have hx:∀ b,VL.av b=.agg b.cs:=fun _=>rfl
 generalize VL.decP true [a,b]=r at *
 obtain ⟨r1,r2⟩:=r
 simp only [List.map_cons,List.map_nil,hx] at h1 ⊢
 refine ok148.acalls hE hm (by simp) fun N hN=>?_
 unfold mc148 z2 pK pI pR pX pS pM
 simp only [lA,seval]
 repeat' (first|(with_reducible first|(apply St.o;constructor)<;>intro _|refine And.intro (by omega) ?_|(apply Sq.o;constructor))|((with_reducible apply Sc.o true;constructor);simp only [lP,seval,ti25];refine ⟨_,h1,?_⟩;rintro _ _ ⟨rfl,rfl⟩;simp only [lA,lP,seval,ti25])|((with_reducible refine keep0_i ?_);simp only [lP,seval])|simp (disch:=omega) only [lE,seval,ti25])
theorem right_null {a:VL} (h:a.Right):a.k=0↔VL.null.same a=true:=by
 rw [VL.same_iff]
 obtain ⟨k,n,s⟩:=a
 simp only [VL.Right,VL.null,VL.mk.injEq] at *
 constructor
 · intro hk
   rcases h with ⟨_,h1,h2⟩ | ⟨h,_⟩ | ⟨h,_⟩ | ⟨h,_⟩
   · simp [hk,h1,h2]
   all_goals omega
 · rintro ⟨rfl,_,_⟩;rfl
theorem dec_eq {strong:Bool} {a b:VL} (ha:a.Right) (hb:b.Right):VL.decP strong [a,b]=VL.dec strong a b:=by
 have e1:=right_null ha
 have e2:=right_null hb
 have e3:∀ v:VL,(VL.ofB strong).same v=v.is strong:=fun v=>by
  simp only [VL.same,VL.is,VL.ofB];congr 1;apply propext;constructor <;> rintro ⟨h1,h2,h3⟩ <;> exact ⟨h1.symm,h2.symm,h3.symm⟩
 unfold VL.decP VL.dec
 simp only [List.all_cons,List.all_nil,Bool.and_true,List.any_cons,List.any_nil,Bool.or_false,e3,Bool.not_and,e1,e2,Bool.or_eq_true]
theorem c147 {a b:VL} (ha:a.Right) (hb:b.Right):ACalls E.P 147 [a.av,b.av] [] (fun r H=>r=.tup [(VL.dec false a b).1.av,.int .i64 (VL.dec false a b).2]∧H=[]):=by
 rw [← dec_eq ha hb];exact c147' a b
theorem c148 {a b:VL} (ha:a.Right) (hb:b.Right):ACalls E.P 148 [a.av,b.av] [] (fun r H=>r=.tup [(VL.dec true a b).1.av,.int .i64 (VL.dec true a b).2]∧H=[]):=by
 rw [← dec_eq ha hb];exact c148' a b
theorem c149 {a:VL} (ha:a.Right):ACalls E.P 149 [a.av] [] (fun r H=>r=.tup [a.not19.1.av,.int .i64 a.not19.2]∧H=[]):=by
 have h1:=c168 [a]
 have hx:∀ b,VL.av b=.agg b.cs:=fun _=>rfl
 simp only [List.map_cons,List.map_nil,hx] at h1 ⊢
 obtain ⟨k,n,s⟩:=a
 refine ok149.acalls hE hm (by simp) fun N hN=>?_
 unfold mc149 z2 pK pI pR pV pN pS pF pL pE
 simp only [lA,seval]
 repeat' (first|(with_reducible first|(apply St.o;constructor)<;>intro _|refine And.intro (by omega) ?_|(apply Sq.o;constructor))|((with_reducible apply Sc.o true;constructor);simp only [lP,seval,ti25];refine ⟨_,h1,?_⟩;rintro _ _ ⟨rfl,rfl⟩;simp only [lA,lP,seval,ti25])|((with_reducible refine keep0_i ?_);simp only [lP,seval])|simp (disch:=omega) only [lE,seval,ti25])
 all_goals clear h1
 all_goals (simp only [VL.not19,VL.null,VL.ofB,VL.Right,VL.logical] at *;simp_all)
 rcases ha with ⟨h,_⟩ | ⟨h,_⟩ | ha | ⟨h1,h2,h3⟩ <;> rfl
theorem c151 (op:Int) (a b:VL):ACalls E.P 151 [.int .i64 op,a.av,b.av] [] (fun r H=>r=.tup [(VL.test VL.cmp op a b).1.av,.int .i64 (VL.test VL.cmp op a b).2]∧H=[]):=by
 have h1:=c95 a b
 have h3:∀ b:Bool,ACalls E.P 169 [.bool b] [] (fun r H=>r=.agg [.int .i64 3,.int .i64 (if b then 1 else 0),.str ⟨#[]⟩]∧H=[]):=c169
 generalize hc:a.cmp b=c at h1
 obtain ⟨ka,na,sa⟩:=a
 obtain ⟨kb,nb,sb⟩:=b
 refine ok151.acalls hE hm (by simp) fun N hN=>?_
 unfold mc151 q151_1 q151_0 z2 pK pM pO pS pI pF pL pE pR pW pZ pV gF oM oI oL oF oE
 simp only [lA,seval,VL.av]
 repeat' (first|(with_reducible first|(apply St.o;constructor)<;>intro _|refine And.intro (by omega) ?_|(apply Sq.o;constructor))|((with_reducible apply Sc.o true;constructor);simp only [lP,seval,ti25,strA,VL.ofB,flatEq];(first|refine ⟨_,h1,?_⟩|refine ⟨_,h3 _,?_⟩);rintro _ _ ⟨rfl,rfl⟩;simp only [lA,lP,seval,ti25,strA,VL.ofB,flatEq])|((with_reducible refine keep0_i ?_);simp only [lP,seval])|simp (disch:=omega) only [lE,seval,ti25,strA,VL.ofB,flatEq])
 all_goals clear h1 h3
 all_goals (simp only [VL.test,VL.null,VL.ofB,tst] at *;simp_all)
 all_goals (try rw [if_neg (by omega)])
 all_goals (try simp)
 all_goals (obtain rfl:op=10:=by omega)
 all_goals simp
set_option maxRecDepth 100000
def mc194:MC:=(.seq (.ops [pK 1 0,pI 2 0]) (.seq (.ops [pF 3 0 1,pL 4 3,pF 5 1 1,pL 6 5,(none,.v (.bin 7 .add false (.t 4) (.t 6))),pM 2 7]) .ret))
theorem ok194:FnOk E 194 8 [.tmp 2] mc194:=ofk func194
def mc196:MC:=(.seq (.ops [pK 1 0,pI 2 0]) (.seq (.ops [pF 3 0 1,pL 4 3,pF 5 1 1,pL 6 5,(none,.v (.bin 7 .sub false (.t 4) (.t 6))),pM 2 7]) .ret))
theorem ok196:FnOk E 196 8 [.tmp 2] mc196:=ofk func196
def mc197:MC:=(.seq (.ops [pK 1 0,pI 2 0]) (.seq (.ops [pF 6 0 1,pL 7 6,pF 8 0 1,pL 9 8,(none,.v (.neg 10 (.t 9))),(none,.v (.max 11 [.t 7,.t 10])),(none,.v (.conv 12 .u64 (.t 11))),pF 13 1 1,pL 14 13,pF 15 1 1,pL 16 15,(none,.v (.neg 17 (.t 16))),(none,.v (.max 18 [.t 14,.t 17])),(none,.v (.conv 19 .u64 (.t 18))),pW 20 198 12 19,pM 5 20,pX 21 0 5,pX 22 1 5,pM 3 21,pM 4 22]) (.seq (.seq (.ops [pM 23 3,(none,.v (.bin 24 .neq false (.t 23) (.c (.int .u64 0)))),pM 25 24,gF 25 (oM 26 4),(some (25,false),.v (.bin 27 .gtr false (.t 26) (.c (.int .u64 549755813888)))),pO 28 25 27]) (.cond 28 (.seq (.ops [pI 2 549755813888]) .ret) .skip)) (.seq (.seq (.ops [pF 29 0 1,pL 30 29,(none,.v (.bin 31 .lss false (.t 30) (.c (.int .i64 0)))),pF 32 1 1,pL 33 32,(none,.v (.bin 34 .lss false (.t 33) (.c (.int .i64 0)))),(none,.v (.bin 35 .neq true (.t 31) (.t 34)))]) (.cond 35 (.seq (.ops [pM 36 4,(none,.v (.conv 37 .i64 (.t 36))),(none,.v (.neg 38 (.t 37))),pM 2 38]) .ret) .skip)) (.seq (.ops [pM 39 4,(none,.v (.conv 40 .i64 (.t 39))),pM 2 40]) .ret)))))
theorem ok197:FnOk E 197 41 [.tmp 2] mc197:=ofk func197
def mc198:MC:=(.seq (.ops [(none,.v (.mov 4 (.c (.int .u64 0)))),(none,.v (.mov 5 (.c (.int .u64 0))))]) (.seq (.ops [pM 14 0,(none,.v (.bin 15 .and false (.t 14) (.c (.int .u64 4294967295)))),pM 6 15]) (.seq (.ops [pM 16 0,(none,.p (.shr 17 (.t 16) (.c (.int .u64 32)))),pM 7 17]) (.seq (.ops [pM 18 1,(none,.v (.bin 19 .and false (.t 18) (.c (.int .u64 4294967295)))),pM 8 19]) (.seq (.ops [pM 20 1,(none,.p (.shr 21 (.t 20) (.c (.int .u64 32)))),pM 9 21]) (.seq (.ops [pM 22 6,pM 23 8,(none,.v (.bin 24 .mul false (.t 22) (.t 23))),pM 10 24]) (.seq (.ops [pM 25 7,pM 26 8,(none,.v (.bin 27 .mul false (.t 25) (.t 26))),pM 28 10,(none,.p (.shr 29 (.t 28) (.c (.int .u64 32)))),(none,.v (.bin 30 .add false (.t 27) (.t 29))),pM 11 30]) (.seq (.ops [pM 31 11,(none,.v (.bin 32 .and false (.t 31) (.c (.int .u64 4294967295)))),pM 12 32]) (.seq (.ops [pM 33 11,(none,.p (.shr 34 (.t 33) (.c (.int .u64 32)))),pM 13 34]) (.seq (.ops [pM 35 12,pM 36 6,pM 37 9,(none,.v (.bin 38 .mul false (.t 36) (.t 37))),(none,.v (.bin 39 .add false (.t 35) (.t 38))),pM 12 39]) (.seq (.ops [pM 40 7,pM 41 9,(none,.v (.bin 42 .mul false (.t 40) (.t 41))),pM 43 13,(none,.v (.bin 44 .add false (.t 42) (.t 43))),pM 45 12,(none,.p (.shr 46 (.t 45) (.c (.int .u64 32)))),(none,.v (.bin 47 .add false (.t 44) (.t 46))),pM 4 47]) (.seq (.ops [pM 48 0,pM 49 1,(none,.v (.bin 50 .mul false (.t 48) (.t 49))),pM 5 50]) .ret))))))))))))
theorem ok198:FnOk E 198 51 [.tmp 4,.tmp 5] mc198:=ofk func198
set_option maxRecDepth 20000
theorem c194 (a b:Int):ACalls E.P 194 [.agg [.int .i64 a,.int .i64 b]] [] (fun r H=>r=.int .i64 (IntKind.i64.wrap (a+b))∧H=[]):=by
 refine ok194.acalls hE hm (by simp) fun N hN=>?_
 unfold mc194 pK pI pF pL pM
 simp only [lA,seval]
 repeat' (first|(with_reducible first|(apply St.o;constructor)<;>intro _|refine And.intro (by omega) ?_|(apply Sq.o;constructor))|((with_reducible refine keep0_i ?_);simp only [lP,seval])|simp (disch:=omega) only [lE,seval])
theorem c196 (a b:Int):ACalls E.P 196 [.agg [.int .i64 a,.int .i64 b]] [] (fun r H=>r=.int .i64 (IntKind.i64.wrap (a - b))∧H=[]):=by
 refine ok196.acalls hE hm (by simp) fun N hN=>?_
 unfold mc196 pK pI pF pL pM
 simp only [lA,seval]
 repeat' (first|(with_reducible first|(apply St.o;constructor)<;>intro _|refine And.intro (by omega) ?_|(apply Sq.o;constructor))|((with_reducible refine keep0_i ?_);simp only [lP,seval])|simp (disch:=omega) only [lE,seval])
theorem wrapu {n:Nat} (h:n<2 ^ 64):IntKind.u64.wrap (n:Int)=n:=IntWalk.u64_in n ⟨by omega,by omega⟩
theorem and32 {x:Nat} (hx:x<2 ^ 64):IntKind.u64.wrap ↑(BitVec.ofInt IntKind.u64.bits (x:Int) &&& BitVec.ofInt IntKind.u64.bits 4294967295).toNat=((x % 4294967296:Nat):Int):=by
 have h1:(BitVec.ofInt IntKind.u64.bits (x:Int) &&& BitVec.ofInt IntKind.u64.bits 4294967295).toNat=x % 4294967296:=by
  rw [BitVec.toNat_and]
  have e1:(BitVec.ofInt IntKind.u64.bits (x:Int)).toNat=x:=by
   rw [show IntKind.u64.bits=64 from rfl]
   simp [BitVec.toNat_ofInt]
   omega
  have e2:(BitVec.ofInt IntKind.u64.bits 4294967295).toNat=2 ^ 32 - 1:=by decide
  rw [e1,e2,Nat.and_two_pow_sub_one_eq_mod]
 rw [h1,wrapu (by omega)]
theorem shr32 {x:Nat}:(x:Int).fdiv (2 ^ min 32 IntKind.u64.bits)=((x / 4294967296:Nat):Int):=by
 rw [show (2:Int) ^ min 32 IntKind.u64.bits=((4294967296:Nat):Int) by decide,Int.fdiv_eq_ediv_of_nonneg _ (by omega)]
 omega
theorem p32 {a b:Nat} (ha:a<4294967296) (hb:b<4294967296):a * b≤18446744065119617025:=by
 have:=Nat.mul_le_mul (Nat.le_sub_one_of_lt ha) (Nat.le_sub_one_of_lt hb)
 omega
theorem wrapmod (n:Nat):IntKind.u64.wrap (n:Int)=((n % 18446744073709551616:Nat):Int):=by
 simp [IntKind.wrap,IntKind.signed,IntKind.bits]
theorem c198 (x y:Nat) (hx:x<2 ^ 64) (hy:y<2 ^ 64):ACalls E.P 198 [.int .u64 x,.int .u64 y] [] (fun r H=>r=.tup [.int .u64 (x * y / 2 ^ 64:Nat),.int .u64 (x * y % 2 ^ 64:Nat)]∧H=[]):=by
 refine ok198.acalls hE hm (by simp) fun N hN=>?_
 unfold mc198 pM
 simp only [lA,seval]
 repeat' (first|(with_reducible first|(apply St.o;constructor)<;>intro _|refine And.intro (by omega) ?_|(apply Sq.o;constructor))|((with_reducible refine keep0_i ?_);simp only [lP,seval])|simp (disch:=omega) only [lE,seval])
 have q0:=p32 (a:=x % 4294967296) (b:=y % 4294967296) (by omega) (by omega)
 have q1:=p32 (a:=x / 4294967296) (b:=y % 4294967296) (by omega) (by omega)
 have q2:=p32 (a:=x % 4294967296) (b:=y / 4294967296) (by omega) (by omega)
 have q3:=p32 (a:=x / 4294967296) (b:=y / 4294967296) (by omega) (by omega)
 have hxy:x * y=(x / 4294967296) * (y / 4294967296) * 18446744073709551616+((x / 4294967296) * (y % 4294967296)+(x % 4294967296) * (y / 4294967296)) * 4294967296+(x % 4294967296) * (y % 4294967296):=by
  have e1:x=x / 4294967296 * 4294967296+x % 4294967296:=by omega
  have e2:y=y / 4294967296 * 4294967296+y % 4294967296:=by omega
  generalize x / 4294967296=x1 at *
  generalize x % 4294967296=x0 at *
  generalize y / 4294967296=y1 at *
  generalize y % 4294967296=y0 at *
  subst e1 e2
  simp only [Nat.add_mul,Nat.mul_add]
  have:x1 * 4294967296 * (y1 * 4294967296)=x1 * y1 * 18446744073709551616:=by rw [Nat.mul_mul_mul_comm]
  have:x1 * 4294967296 * y0=x1 * y0 * 4294967296:=by rw [Nat.mul_right_comm]
  have:x0 * (y1 * 4294967296)=x0 * y1 * 4294967296:=by rw [Nat.mul_assoc]
  omega
 rw [and32 hx,and32 hy]
 simp only [shr32,← Int.natCast_mul,← Int.natCast_add]
 rw [wrapmod (x * y)]
 generalize x / 4294967296 * (y / 4294967296)=p3 at *
 generalize x / 4294967296 * (y % 4294967296)=p1 at *
 generalize x % 4294967296 * (y / 4294967296)=p2 at *
 generalize x % 4294967296 * (y % 4294967296)=p0 at *
 generalize x * y=p at *
 subst hxy
 simp only [wrapu (show p0<2 ^ 64 by omega),wrapu (show p1<2 ^ 64 by omega),wrapu (show p2<2 ^ 64 by omega),wrapu (show p3<2 ^ 64 by omega),shr32,← Int.natCast_add]
 rw [wrapu (show p1+p0 / 4294967296<2 ^ 64 by omega)]
 rw [and32 (by omega)]
 simp only [shr32,← Int.natCast_add]
 rw [wrapu (show (p1+p0 / 4294967296) % 4294967296+p2<2 ^ 64 by omega)]
 simp only [shr32,← Int.natCast_add]
 simp only [wrapmod,← Int.natCast_add]
 congr 3
 omega
def small (a:Int):Prop:=-549755813888≤a∧a≤549755813888
def ari (op a b:Int):Int:=if op=5 then a * b else if op=4 then a - b else a+b
def ariR (op a b:Int):Int × Int:=if ari op a b < -549755813888∨549755813887<ari op a b then (0,360) else (ari op a b,0)
theorem mul_bound {a b:Int} (ha:small a) (hb:small b) : -302231454903657293676544≤a * b∧a * b≤302231454903657293676544∧(a * b).natAbs=a.natAbs * b.natAbs:=by
 have h:=Int.natAbs_mul a b
 have h2:a.natAbs * b.natAbs≤549755813888 * 549755813888:=Nat.mul_le_mul (by obtain ⟨_,_⟩:=ha;omega) (by obtain ⟨_,_⟩:=hb;omega)
 omega
theorem sgn_mul (a b:Int):((decide (a<0) != decide (b<0))=true→a * b≤0)∧((decide (a<0) != decide (b<0))=false→0≤a * b):=by
 by_cases ha:a<0 <;> by_cases hb:b<0 <;> simp [ha,hb]
 · exact Int.le_of_lt (Int.mul_pos_of_neg_of_neg ha hb)
 · exact Int.mul_nonpos_of_nonpos_of_nonneg (by omega) (by omega)
 · exact Int.mul_nonpos_of_nonneg_of_nonpos (by omega) (by omega)
 · exact Int.mul_nonneg (by omega) (by omega)
theorem c197 (a b:Int) (ha:small a) (hb:small b):ACalls E.P 197 [.agg [.int .i64 a,.int .i64 b]] [] (fun r H=>(∃ n,r=.int .i64 n∧((-549755813888≤n∧n≤549755813887)→n=a * b)∧((-549755813888≤a * b∧a * b≤549755813887)→n=a * b))∧H=[]):=by
 obtain ⟨m1,m2,m3⟩:=mul_bound ha hb
 obtain ⟨ha1,ha2⟩:=ha
 obtain ⟨hb1,hb2⟩:=hb
 have h1:=c198 a.natAbs b.natAbs (by omega) (by omega)
 have e:∀ c:Int,-549755813888≤c∧c≤549755813888→(if IntKind.i64.wrap (0 - c) > c then IntKind.i64.wrap (0 - c) else c)=(c.natAbs:Int):=fun c hc=>by
  rw [wrap_i64 (by omega) (by omega)];split <;> omega
 refine ok197.acalls hE hm (by simp) fun N hN=>?_
 unfold mc197 pK pI pF pL pW pM pX pO gF oM
 simp only [lA,seval,e a ⟨ha1,ha2⟩,e b ⟨hb1,hb2⟩,wrapu (show a.natAbs<2 ^ 64 by omega),wrapu (show b.natAbs<2 ^ 64 by omega)]
 rw [← m3] at h1
 repeat' (first|(with_reducible first|(apply St.o;constructor)<;>intro _|refine And.intro (by omega) ?_|(apply Sq.o;constructor))|((with_reducible apply Sc.o true;constructor);simp only [lP,seval,e a ⟨ha1,ha2⟩,e b ⟨hb1,hb2⟩,wrapu (show a.natAbs<2 ^ 64 by omega),wrapu (show b.natAbs<2 ^ 64 by omega)];refine ⟨_,h1,?_⟩;rintro _ _ ⟨rfl,rfl⟩;simp only [lA,lP,seval,e a ⟨ha1,ha2⟩,e b ⟨hb1,hb2⟩,wrapu (show a.natAbs<2 ^ 64 by omega),wrapu (show b.natAbs<2 ^ 64 by omega)])|((with_reducible refine keep0_i ?_);simp only [lP,seval])|simp (disch:=omega) only [lE,seval,e a ⟨ha1,ha2⟩,e b ⟨hb1,hb2⟩,wrapu (show a.natAbs<2 ^ 64 by omega),wrapu (show b.natAbs<2 ^ 64 by omega)])
 all_goals clear h1
 all_goals (obtain ⟨s1,s2⟩:=sgn_mul a b;generalize a * b=p at *;generalize a.natAbs * b.natAbs=q at *)
 · exact ⟨_,rfl,by omega,by omega⟩
 · have:=s1 (by assumption)
   exact ⟨_,rfl,by omega,by omega⟩
 · have:=s2 (by assumption)
   exact ⟨_,rfl,by omega,by omega⟩
 · exact ⟨_,rfl,by omega,by omega⟩
set_option maxRecDepth 100000
def mc132:MC:=(.seq (.ops [pK 1 0,pZ 2]) (.seq (.any false (.pure0 none (oF 3 5 1) (.pure0 none (oL 4 3) (.pure0 none (oG 5 4) (.pure0 none (oF 6 0 1) (.pure0 none (oL 7 6) (.alt none (oV 8 156 7) (.base (.pure0 none (.v (.bin 9 .eql false (.t 5) (.t 8))) (.pure0 none (oM 10 9) (.pure0 (some (10,true)) (oF 11 1 1) (.pure0 (some (10,true)) (oL 12 11) (.pure0 (some (10,true)) (oE 13 12 0) (.pure0 (some (10,true)) (oM 14 13) (.pure0 (some (14,false)) (oF 15 0 1) (.pure0 (some (14,false)) (oL 16 15) (.pure0 (some (14,false)) (oE 17 16 1) (.pure0 (some (10,true)) (oO 18 14 17) (.pure0 none (oP 19 10 18) (.pure0 none (oM 20 19) (.pure0 (some (20,true)) (oF 21 2 1) (.pure0 (some (20,true)) (oR 22 3 21) (.pure0 (some (20,true)) (.v (.build 23 z2 [])) (.pure0 (some (20,true)) (.v (.eq 24 false (.agg [(0,false,1,.int),(1,false,1,.int),(2,false,1,.str)]) (.t 22) (.t 23))) (.pure0 (some (20,true)) (oM 25 24) (.pure0 (some (25,false)) (oF 26 0 1) (.pure0 (some (25,false)) (oL 27 26) (.pure0 (some (25,false)) (oE 28 27 2) (.pure0 (some (20,true)) (oO 29 25 28) (.pure0 none (oP 30 20 29) (.pure0 none (oM 2 30) .done)))))))))))))))))))))))) .stop))))))) .ret))
theorem ok132:FnOk E 132 31 [.tmp 2] mc132:=ofk func132
def mc156:MC:=(.seq (.ops [pI 2 0]) (.seq (.block 0 (.seq (.ops [pM 4 0,pE 5 4 1,pM 6 5,gF 6 (oM 7 0),gF 6 (oE 8 7 2),pO 9 6 8,pM 3 9]) (.cond 3 (.seq (.ops [pI 2 0]) .ret) (.seq (.ops [pM 11 0,pE 12 11 14,pM 13 12,gF 13 (oM 14 0),gF 13 (oE 15 14 15),pO 16 13 15,pM 10 16]) (.cond 10 (.seq (.ops [pI 2 1]) .ret) (.seq (.ops [pM 18 0,(none,.v (.bin 19 .gtr false (.t 18) (.c (.int .i64 2)))),pM 20 19,gT 20 (oM 21 0),(some (20,true),.v (.bin 22 .lss false (.t 21) (.c (.int .i64 14)))),pP 23 20 22,pM 17 23]) (.cond 17 (.seq (.ops [pI 2 2]) .ret) .skip))))))) (.seq (.ops [(none,.v (.mov 2 (.c (.int .i64 (-1)))))]) .ret)))
theorem ok156:FnOk E 156 24 [.tmp 2] mc156:=ofk func156
set_option maxRecDepth 20000
def EX.op:EX→Int | .mk op _ _ _ _ _=>op
def EX.n:EX→Int | .mk _ n _ _ _ _=>n
def EX.val:EX→VL | .mk _ _ k i s _=>⟨k,i,s⟩
def EX.args:EX→List EX | .mk _ _ _ _ _ args=>args
abbrev EX.fs (e:EX):List AV:=[.int .i64 e.op,.int .i64 e.n,.int .i64 e.val.k,.int .i64 e.val.n,.str e.val.s,.view 6 (e.args.map EX.av)]
theorem av_fs (e:EX):e.av=.agg e.fs:=by cases e;simp [EX.av,EX.fs,EX.op,EX.n,EX.val,EX.args,avL_map]
theorem cs_fs (e:EX):e.cs=e.fs:=by cases e;simp [EX.cs,EX.fs,EX.op,EX.n,EX.val,EX.args,avL_map]
theorem IdxR_exs {P:Program} {m:Nat} {N:FN} {xs:List EX} {n:Int} {d:Nat} {c:Kn} (h0:0≤n) (h1:n<xs.length):IdxR P m N (xs.map EX.av) n d c=rK P m N c d (.vp (xs.getD n.toNat default).fs) :=
 IdxR_map (cs:=EX.fs) (fun e=>by rw [av_fs];rfl) h0 h1
theorem ti28:E.TI 28=some ⟨.struct [(0,3),(1,3),(2,25),(5,26)],6,72,[.int .i64 0,.int .i64 0,.int .i64 0,.int .i64 0,.string ByteArray.empty,.slice none 0 0],true,true,false⟩:=rfl
theorem size_args {e:EX} {i:Nat} (h:i<e.args.length):SizeOf.sizeOf (e.args.getD i default)<SizeOf.sizeOf e:=by
 obtain ⟨op,n,k,i',s,args⟩:=e
 simp only [EX.args] at *
 have:=List.sizeOf_lt_of_mem (List.getElem_mem h)
 simp only [List.getD_eq_getElem?_getD,h,List.getElem?_eq_getElem,Option.getD_some,EX.mk.sizeOf_spec] at *
 omega
def ar (op:Int):Int:=if op=1∨op=2 then 0 else if op=14∨op=15 then 1 else if 2<op∧op<14 then 2 else -1
theorem c156 (op:Int):ACalls E.P 156 [.int .i64 op] [] (fun r H=>r=.int .i64 (ar op)∧H=[]):=by
 refine ok156.acalls hE hm (by simp) fun N hN=>?_
 unfold mc156 pI pM pE pO pP gF gT oM oE
 simp only [lA,seval]
 repeat' (first|(with_reducible first|(apply St.o;constructor)<;>intro _|refine And.intro (by omega) ?_|(apply Sq.o;constructor))|((with_reducible refine keep0_i ?_);simp only [lP,seval])|simp (disch:=omega) only [lE,seval])
 all_goals (simp only [ar,AV.int.injEq,true_and])
 all_goals (repeat' split) <;> first | rfl | omega
def EX.fm (e:EX):Bool:=decide ((e.args.length:Int)=ar e.op) && (decide (e.n=0) || decide (e.op=1)) && (decide (e.val.k=0∧e.val.n=0∧e.val.s=⟨#[]⟩) || decide (e.op=2))
theorem c132 (e:EX):ACalls E.P 132 [e.av] [] (fun r H=>r=.bool e.fm∧H=[]):=by
 have h:=c156 e.op
 have hmax:=maxLen_eq
 refine ok132.acalls hE hm (by simp) fun N hN=>?_
 unfold mc132 z2 pK pZ oM oL oR oF oE oP oO oG oV
 simp only [lA,seval,av_fs]
 repeat' (first|(with_reducible first|(apply St.o;constructor)<;>intro _|refine And.intro (by omega) ?_|(apply Sq.o;constructor))|((with_reducible apply Sc.o true;constructor);simp only [lP,seval,strA,flatEq,List.length_map];refine ⟨_,h,?_⟩;rintro _ _ ⟨rfl,rfl⟩;simp only [lA,lP,seval,strA,flatEq,List.length_map])|((with_reducible refine keep0_i ?_);simp only [lP,seval])|simp (disch:=omega) only [lE,seval,strA,flatEq,List.length_map])
 all_goals (simp only [EX.fm,AV.bool.injEq] at *;simp_all)
set_option maxRecDepth 100000
def mc157:MC:=(.seq (.ops [pK 2 0,pZ 3]) (.seq (.ops [pL 4 1,(none,.v (.fn 5 (.func 159) [] [.t 2])),pW 6 158 4 5,pN 7 6,pM 3 7]) .ret))
theorem ok157:FnOk E 157 8 [.tmp 3] mc157:=ofk func157
def mc158:MC:=(.seq (.ops [pZ 4]) (.seq (.ops [pM 5 0,pM 6 1,pW 7 171 5 6,(none,.v (.bin 8 .geq false (.t 7) (.c (.int .i64 0)))),pM 4 8]) .ret))
theorem ok158:FnOk E 158 9 [.tmp 4] mc158:=ofk func158
def mc159:MC:=(.seq (.ops [pZ 3]) (.seq (.ops [pM 4 0,pL 5 1,(none,.v (.bin 6 .neq false (.t 4) (.t 5))),pM 7 6,gT 7 (oM 8 0),gT 7 (oD 9 8 0),pP 10 7 9,pM 3 10]) .ret))
theorem ok159:FnOk E 159 11 [.tmp 3] mc159:=ofk func159
def mc171:MC:=(.seq (.ops [pI 4 0]) (.seq (.seq (.ops [pM 6 0,pG 7 6,pI 8 0]) (.block 0 (.loop (.seq (.ops [pB 9 8 7]) (.seq (.cond 9 .skip (.exit 0)) (.seq (.block 1 (.seq (.ops [pM 10 8,pM 5 10]) (.seq (.ops [pM 11 1,pM 12 0,pM 13 5,pQ 14 1 12 13,pL 15 14,(none,.e (.callv (some 16) (.t 11) [.t 15]))]) (.cond 16 (.seq (.ops [pM 17 5,pM 4 17]) .ret) .skip)))) (.ops [pA 18 8 1,pM 8 18]))))))) (.seq (.ops [(none,.v (.mov 4 (.c (.int .i64 (-1)))))]) .ret)))
theorem ok171:FnOk E 171 19 [.tmp 4] mc171:=ofk func171
set_option maxRecDepth 20000
def okK (w k:Int):Bool:=decide (k=w∨k=0)
theorem c159 (k w:Int):ACalls E.P 159 [.int .i64 k,.vp [.int .i64 w]] [] (fun r H=>r=.bool (!okK w k)∧H=[]):=by
 refine ok159.acalls hE hm (by simp) fun N hN=>?_
 unfold mc159 pZ pM pL pP gT oM oD
 simp only [lA,seval]
 repeat' (first|(with_reducible first|(apply St.o;constructor)<;>intro _|refine And.intro (by omega) ?_|(apply Sq.o;constructor))|((with_reducible refine keep0_i ?_);simp only [lP,seval])|simp (disch:=omega) only [lE,seval])
 all_goals (simp only [okK,AV.bool.injEq] at *;simp_all)
theorem c171 (l:List Int) (w:Int):ACalls E.P 171 [.view 1 (l.map (AV.int .i64)),.fn (.func 159) [] [.vp [.int .i64 w]]] [] (fun r H=>(∃ n:Int,r=.int .i64 n∧(0≤n↔l.any (fun k=>!okK w k)=true))∧H=[]):=by
 have hmax:=maxLen_eq
 refine ok171.acalls hE hm (by simp) fun N hN=>?_
 unfold mc171 pI pM pG pB pQ pL pA
 simp only [lA,seval]
 refine LenR_i fun hl=>?_
 rw [List.length_map,hmax] at hl
 simp only [lA,seval,List.length_map]
 refine loop_i (fun i:Nat=>i≤l.length∧(l.take i).any (fun k=>!okK w k)=false) (fun i=>⟨[(0,.view 1 (l.map (AV.int .i64))),(1,.fn (.func 159) [] [.vp [.int .i64 w]]),(7,.int .i64 l.length),(8,.int .i64 i)],[]⟩) (fun i=>l.length - i) 0 ⟨by omega,by simp⟩ (ent [] false) ?_
 rintro i ⟨hi,ha⟩
 have hpi:=c159 (l.getD i 0) w
 repeat' (first|(with_reducible first|(apply St.o;constructor)<;>intro _|refine And.intro (by omega) ?_|(apply Sq.o;constructor))|((with_reducible apply Sc.o true;constructor);simp only [lP,seval,Int.toNat_natCast];refine ⟨_,hpi,?_⟩;rintro _ _ ⟨rfl,rfl⟩;simp only [lA,lP,seval,Int.toNat_natCast])|((with_reducible refine keep0_i ?_);simp only [lP,seval])|simp (disch:=omega) only [lE,seval,Int.toNat_natCast])
 · rename_i h1 h2
   refine ⟨i,rfl,?_⟩
   have:=any_at (p:=fun k=>!okK w k) (l:=l) (i:=i) (by omega) 0 h2
   simp only [this,iff_true];omega
 · rename_i h1 h2
   exact back_i (i+1) ⟨by omega,any_take (p:=fun k=>!okK w k) (by omega) 0 ha h2⟩ (by omega) (ent [] false)
 · rename_i h1
   refine ⟨-1,rfl,?_⟩
   rw [List.take_of_length_le (by omega)] at ha
   simp [ha]
theorem c158 (l:List Int) (w:Int):ACalls E.P 158 [.view 1 (l.map (AV.int .i64)),.fn (.func 159) [] [.vp [.int .i64 w]]] [] (fun r H=>r=.bool (l.any fun k=>!okK w k)∧H=[]):=by
 have h:=c171 l w
 refine ok158.acalls hE hm (by simp) fun N hN=>?_
 unfold mc158 pZ pM pW
 simp only [lA,seval]
 repeat' (first|(with_reducible first|(apply St.o;constructor)<;>intro _|refine And.intro (by omega) ?_|(apply Sq.o;constructor))|((with_reducible apply Sc.o true;constructor);simp only [lP,seval];refine ⟨_,h,?_⟩;rintro _ _ ⟨⟨n,rfl,hn⟩,rfl⟩;simp only [lA,lP,seval])|((with_reducible refine keep0_i ?_);simp only [lP,seval])|simp (disch:=omega) only [lE,seval])
 simp only [ge_iff_le,hn,Bool.decide_eq_true]
theorem c157 (l:List Int) (w:Int):ACalls E.P 157 [.int .i64 w,.vp [.view 1 (l.map (AV.int .i64))]] [] (fun r H=>r=.bool (l.all (okK w))∧H=[]):=by
 have h:=c158 l w
 refine ok157.acalls hE hm (by simp) fun N hN=>?_
 unfold mc157 pK pZ pL pW pN pM
 simp only [lA,seval]
 repeat' (first|(with_reducible first|(apply St.o;constructor)<;>intro _|refine And.intro (by omega) ?_|(apply Sq.o;constructor))|((with_reducible apply Sc.o true;constructor);simp only [lP,seval];refine ⟨_,h,?_⟩;rintro _ _ ⟨rfl,rfl⟩;simp only [lA,lP,seval])|((with_reducible refine keep0_i ?_);simp only [lP,seval])|simp (disch:=omega) only [lE,seval])
 all_goals simp [List.any_eq_not_all_not]
def ferr {α:Type}:List (α × Int)→Int
 | []=>0
 | x::l=>if x.2=0 then ferr l else x.2
theorem ferr_at {α:Type} [Inhabited α]:∀ {l:List (α × Int)} {i:Nat},(∀ j,j<i→(l.getD j default).2=0)→i<l.length→(l.getD i default).2≠0→ferr l=(l.getD i default).2
 | [],i,_,h,_=>by simp at h
 | x::l,0,_,_,h=>by simp at h;simp [ferr,h]
 | x::l,i+1,h0,h1,h2=>by
   have:=h0 0 (by omega)
   simp at this
   simp only [ferr,this,if_true]
   simpa using ferr_at (l:=l) (i:=i) (fun j hj=>by simpa using h0 (j+1) (by omega)) (by simpa using h1) (by simpa using h2)
theorem ferr_none {α:Type} [Inhabited α]:∀ {l:List (α × Int)},(∀ j,j<l.length→(l.getD j default).2=0)→ferr l=0
 | [],_=>rfl
 | x::l,h=>by
   have:=h 0 (by simp)
   simp at this
   simp only [ferr,this,if_true]
   exact ferr_none fun j hj=>by simpa using h (j+1) (by simpa using hj)
def kN (ks:List Int) (op n:Int) (v:VL) (l:List Int):Int × Int :=
 if op=1 then (if n<0∨n≥ks.length∨ks.getD n.toNat 0<0∨3<ks.getD n.toNat 0 then (0,1) else (ks.getD n.toNat 0,0))
 else if op=2 then (if v.Right then (v.k,0) else (0,1))
 else if ariB op=true then (if l.all (okK 1)=true then (1,0) else (0,7))
 else if cmpB op=true then (if l.all (okK (l.getD 0 0))=true∨l.all (okK (l.getD 1 0))=true then (3,0) else (0,7))
 else if op=15 then (3,0)
 else if l.all (okK 3)=true then (3,0) else (0,7)
def knode (ks:List Int) (e:EX) (rs:List (Int × Int)):Int × Int:=if ferr rs=0 then kN ks e.op e.n e.val (rs.map (·.1)) else (0,ferr rs)
set_option maxRecDepth 100000
set_option maxRecDepth 20000
set_option maxHeartbeats 4000000
mutual
def EX.formed:EX→Bool
 | .mk op n k i s args=>(EX.mk op n k i s args).fm && EX.formedL args
def EX.formedL:List EX→Bool
 | []=>true
 | e::es=>e.formed && EX.formedL es
end
theorem formedL_all:∀ l:List EX,EX.formedL l=l.all EX.formed
 | []=>rfl
 | e::es=>by rw [EX.formedL,formedL_all es];rfl
theorem formed_eq (e:EX):e.formed=(e.fm && e.args.all EX.formed):=by
 cases e;rw [EX.formed,formedL_all];rfl
set_option maxRecDepth 100000
set_option maxRecDepth 20000
set_option maxHeartbeats 8000000
abbrev ksV (ks:List Int):AV:=.view 1 (ks.map (AV.int .i64))
theorem ar_cases {op:Int} {n:Nat} (h:(n:Int)=ar op):(n=0∧(op=1∨op=2))∨(n=1∧(op=14∨op=15))∨(n=2∧3≤op∧op≤13):=by
 unfold ar at h
 (repeat' split at h) <;> omega
def prK (x:Int × Int):AV:=.int .i64 x.1
theorem vw_prK {H:List AObj} {l:List Nat} {n:Nat} {xs:List (Int × Int)}:(xs.map prK).map (vw H l (n+1))=xs.map prK:=map_same (fun _=>vw_int) xs
theorem pa_prK {H:List AObj} {l:List Nat} {bor:Bool} {n:Nat} {xs:List (Int × Int)}:(xs.map prK).map (pa H l bor (n+1))=xs.map prK:=map_same (fun _=>pa_int) xs
end Go.Proofs.Try
