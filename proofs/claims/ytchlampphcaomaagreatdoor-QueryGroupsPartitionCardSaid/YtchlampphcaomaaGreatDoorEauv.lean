/-
 A part of the proof: see the text of the law.
-/
import Derived.Test.YtchlampphcaomaaGreatDoorEav
import Derived.Test.YtchlampphcaomaaGreatDoorEay
import Derived.Test.YtchlampphcaomaaGreatDoorAlphaK
set_option linter.unusedSimpArgs false
set_option linter.unusedVariables false
namespace Go.Proofs.Try
open Go.Proofs.Tryz
open Go.Al
set_option maxRecDepth 100000
def mc30:MC:=(.seq (.ops [pZ 4]) (.seq (.ops [pM 5 0,pV 6 61 5,(none,.e (.call (some 7) 60 [.t 6,.c (.fn (.func 62) [] [])])),pM 8 1,pV 9 61 8,(none,.e (.call (some 10) 60 [.t 9,.c (.fn (.func 62) [] [])])),(none,.e (.call (some 11) 59 [.t 7,.t 10,.c (.fn (.func 63) [] [])])),pM 4 11]) .ret))
theorem ok30:FnOk E 30 12 [.tmp 4] mc30:=ofk func30
abbrev q59_0:MI:=oZ 6
def mc59:MC:=(.seq (.ops [(none,q59_0)]) (.seq (.seq (.ops [pM 10 0,pG 11 10,pM 12 1,pG 13 12,(none,.v (.bin 14 .neq false (.t 11) (.t 13)))]) (.cond 14 (.seq (.ops [(none,q59_0)]) .ret) .skip)) (.seq (.seq (.ops [pM 15 0,pG 16 15,pI 17 0]) (.block 0 (.loop (.seq (.ops [pB 18 17 16]) (.seq (.cond 18 .skip (.exit 0)) (.seq (.block 1 (.seq (.ops [pM 19 17,pQ 20 1 15 17,pL 21 20,pM 7 19,pM 8 21]) (.seq (.ops [pM 22 1,pM 23 7,pQ 24 1 22 23,pL 25 24,pM 9 25]) (.seq (.ops [pM 26 2,pM 27 8,pM 28 9,(none,.e (.callv (some 29) (.t 26) [.t 27,.t 28])),pN 30 29]) (.cond 30 (.seq (.ops [(none,q59_0)]) .ret) .skip))))) (.ops [pA 31 17 1,pM 17 31]))))))) (.seq (.ops [(none,.v (.mov 6 (.c (.bool true))))]) .ret))))
theorem ok59:FnOk E 59 32 [.tmp 6] mc59:=ofk func59
def mc60:MC:=(.seq (.ops [pY 4]) (.seq (.ops [pM 6 0,pV 7 91 6,pM 5 7]) (.seq (.ops [pM 8 5,pM 9 1,pW 10 92 8 9]) (.seq (.ops [pM 11 5,pM 4 11]) .ret))))
theorem ok60:FnOk E 60 12 [.tmp 4] mc60:=ofk func60
def mc61:MC:=(.seq (.ops [pK 1 0,(none,.v (.mov 2 (.c (.raw .nilFunc))))]) (.seq (.ops [(none,.v (.fn 3 (.func 93) [] [.t 1])),pM 2 3]) .ret))
theorem ok61:FnOk E 61 4 [.tmp 2] mc61:=ofk func61
def mc63:MC:=(.seq (.ops [pZ 4]) (.seq (.ops [pM 5 0,pM 6 1,pW 7 64 5 6,pM 4 7]) .ret))
theorem ok63:FnOk E 63 8 [.tmp 4] mc63:=ofk func63
def mc91:MC:=(.seq (.ops [pY 2]) (.seq (.ops [pM 3 0,(none,.e (.call (some 4) 115 [.c (.raw (.slice none 0 0)),.t 3])),pM 2 4]) .ret))
theorem ok91:FnOk E 91 5 [.tmp 2] mc91:=ofk func91
def mc93:MC:=(.seq (.ops [pL 5 1,pG 6 5,pI 7 0]) (.block 0 (.loop (.seq (.ops [pB 8 7 6]) (.seq (.cond 8 .skip (.exit 0)) (.seq (.block 1 (.seq (.ops [pQ 9 1 5 7,pL 10 9,pM 4 10]) (.seq (.ops [pM 11 0,pM 12 4,(none,.e (.callv (some 13) (.t 11) [.t 12])),pN 14 13]) (.cond 14 .ret .skip)))) (.ops [pA 15 7 1,pM 7 15])))))))
theorem ok93:FnOk E 93 16 [] mc93:=ofk func93
def mc115:MC:=(.seq (.ops [pK 2 0,pY 4]) (.seq (.seq (.ops [pM 6 1]) (.block 0 (.rngf (.t 6) #[7] (.ops [pM 5 7]) (.block 1 (.ops [pL 8 2,pM 9 5,(none,.e (.mkl 10 69 1 1 (.raw (.slice none 0 0)) [(0,.t 9)])),(none,.e (.app 11 69 1 24 (.t 8) (.t 10))),(none,.e (.store 1 false (.t 2) (.t 11)))]))))) (.seq (.ops [pL 12 2,pM 4 12]) .ret)))
theorem ok115:FnOk E 115 13 [.tmp 4] mc115:=ofk func115
set_option maxRecDepth 20000
set_option maxHeartbeats 8000000
theorem fold_snocH {α:Type} (l:List α):∀ x:List α,l.foldl (fun x v=>x++[v]) x=x++l:=by
 induction l with
 | nil=>simp
 | cons v l ih=>intro x;rw [List.foldl_cons,ih,List.append_assoc];rfl
section
variable {X:Type} {S:X→(Nat→Prop)→List AObj→Prop} {id:Nat}
theorem c93g (f:X→List VL→X) (l:Rws) (b:Nat)
 (hb:∀ x G H,S x G H→H[b]?=some (.box [rowsV l]))
 (live:X→Nat→Prop) (hl:∀ x v k,live x (k+1)→live (f x v) k)
 (hy:∀ x v k G H,live x (k+1)→S x G H→AYield E.P id [rowV v] H (fun r H'=>r=.bool true∧Bhd S (f x v) G H H')) (x:X) (hx:live x l.length) (G:Nat→Prop) (H:List AObj) (hs:S x G H) :
 ACalls E.P 93 [.yld id,.op b 0] H (fun r H'=>Bhd S (l.foldl f x) G H H'):=by
 have hmax:=maxLen_eq
 refine ok93.acalls0 hE hm (by simp) fun N hN=>?_
 unfold mc93 pL pG pI pB pQ pM pN pA
 have f1:=hb _ _ _ hs
 simp only [lA,seval,f1]
 repeat' (first|(with_reducible first|(apply St.o;constructor)<;>intro _|refine And.intro (by omega) ?_|(apply Sq.o;constructor))|simp (disch:=omega) only [lE,seval,List.length_map])
 have hl0:l.length≤maxLen:=by simpa using ‹(l.map rowV).length≤maxLen›
 refine loop_i (fun p:Nat × List AObj=>p.1≤l.length∧live ((l.take p.1).foldl f x) (l.length - p.1)∧Bhd S ((l.take p.1).foldl f x) G H p.2)
  (fun p=>⟨[(0,.yld id),(1,.op b 0),(5,rowsV l),(6,.int .i64 l.length),(7,.int .i64 p.1)],p.2⟩) (fun p=>l.length - p.1) (0,H)
  ⟨by omega,by simpa using hx,Bhd.self hs⟩ (Ent.fr (by simp [FrSub,Go.Al.get])) ?_
 rintro ⟨j,H2⟩ ⟨hj,hlv,hbd⟩
 simp only at hj hlv hbd ⊢
 by_cases hin:j<l.length
 · have hlt:((j:Int)<(l.length:Int)):=by omega
   have hlv2:live ((l.take j).foldl f x) ((l.length - (j+1))+1):=by rwa [show l.length - (j+1)+1=l.length - j by omega]
   have hyl:=hy _ (l.getD j default) _ _ _ hlv2 hbd.1
   have hfold:(l.take (j+1)).foldl f x=f ((l.take j).foldl f x) (l.getD j default):=by
    rw [List.take_succ_eq_append_getElem hin,List.foldl_append]
    simp [hin]
   repeat' (first|(with_reducible first|(apply St.o;constructor)<;>intro _|refine And.intro (by omega) ?_|(apply Sq.o;constructor))|simp (disch:=omega) only [lE,seval,IdxR_rows,Int.toNat_natCast,List.length_map,hlt,decide_true])
   refine yld_i hyl ?_
   rintro _ H4 ⟨rfl,hb4⟩
   repeat' (first|(with_reducible first|(apply St.o;constructor)<;>intro _|refine And.intro (by omega) ?_|(apply Sq.o;constructor))|simp (disch:=omega) only [lE,seval])
   refine back_i (j+1,H4) ⟨by omega,?_,?_⟩ (by simp only;omega) (Ent.fr (by simp [FrSub,Go.Al.get]))
   · rw [hfold];exact hl _ _ _ hlv2
   · rw [hfold];exact hbd.trans hb4
 · obtain rfl:j=l.length:=by omega
   repeat' (first|(with_reducible first|(apply St.o;constructor)<;>intro _|refine And.intro (by omega) ?_|(apply Sq.o;constructor))|simp (disch:=omega) only [lE,seval,List.length_map,Int.lt_irrefl,decide_false])
   all_goals simpa using hbd
end
theorem c61 (l:Rws):ACalls E.P 61 [rowsV l] [] (fun r H=>r=.fn (.func 93) [] [.op 0 0]∧H=[.box [rowsV l]]):=by
 refine ok61.acalls hE hm (by simp) fun N hN=>?_
 unfold mc61 pK pM
 simp only [lA,seval]
 repeat' (first|(with_reducible first|(apply St.o;constructor)<;>intro _|refine And.intro (by omega) ?_|(apply Sq.o;constructor))|simp (disch:=omega) only [lE,seval])
 all_goals exact keep_i [0] false (by simp) (by simp) rfl ⟨by simp only [lP,seval],by simp only [lP,seval,pa_rows]⟩
theorem c115 (l:Rws) (hc:l.length≤1048576) :
 ACalls E.P 115 [.raw (.slice none 0 0),.fn (.func 93) [] [.op 0 0]] [.box [rowsV l]] (fun r H=>(l=[]∧r=.raw (.slice none 0 0)∧H=[.box [rowsV l]])∨(r=.slc 1 1 l.length∧H=[.box [rowsV l],.arr 69 1 (l.map rowV)])):=by
 have hmax:=maxLen_eq
 refine ok115.acalls hE hm (by simp) fun N hN=>?_
 unfold mc115 pK pY pM pL
 simp only [lA,seval]
 refine rng_i hN [(2,.op 1 0)] (by simp [FrSub,Go.Al.get]) fun fn cas bd hy=>?_
 let lo:LoopState→AObj:=fun st=>.loop st none [(2,.op 1 0)] N.n fn #[7] cas bd
 let F:List AObj:=[.box [rowsV l],.dead,lo .ready]
 have hG:Grows (colW rowV 69 1 F 1):=colW_grows F 1
 have hY:∀ (x:Rws) (v:List VL) (k:Nat) (G:Nat→Prop) (H:List AObj),x.length+(k+1)≤1048576→colW rowV 69 1 F 1 x G H→AYield E.P 2 [rowV v] H (fun r H'=>r=.bool true∧Bhd (colW rowV 69 1 F 1) (x++[v]) G H H'):=by
  rintro x v k G H hk hS
  have h3:H[2]?=some (lo .ready):=hS.1 2 (by simp [F]) (by omega)
  have hlen:=hS.2.2.2.1
  refine hy 2 [(2,.op 1 0)] [rowV v] H _ h3 rfl fun N2 hN2=>?_
  have hlen4:3≤H.length:=hlen
  simp only [lA,seval,get_last,set_last]
  refine ⟨h3,?_⟩
  obtain ⟨H1,hH1⟩:∃ H1,H1=H.set 2 (.loop .busy none [(2,.op 1 0)] N.n fn #[7] cas bd):=⟨_,rfl⟩
  have hf31:H1[2]?=some (lo .busy):=by rw [hH1];exact at_same _ _ 2 (by omega)
  have hlen1:H1.length=H.length:=by rw [hH1];simp
  have hSb:colW rowV 69 1 (F.set 2 (lo .busy)) 1 x G H1:=by rw [hH1];exact colW_put (lo .busy) hS (n:=2) (by simp [F]) (by omega)
  have hback:∀ x' H',Bhd (colW rowV 69 1 (F.set 2 (lo .busy)) 1) x' G H1 H'→Bhd (colW rowV 69 1 F 1) x' G H (H'.set 2 (lo .ready)):=fun x' H' h =>
   colW_back (lo .ready) (lo .busy) ⟨x,hS⟩ (by rw [hH1] at h;exact h) (by simp [F]) (by omega) rfl
  rw [← hH1]
  clear hH1
  have hq:=hSb.2.2.2.2
  rcases hq with ⟨rfl,h1⟩ | ⟨a,a1,a2,a3,a4,a5⟩
  · have g1:∀ o o',(H1++[o]++[o'])[1]?=some (.box [.raw (.slice none 0 0)]):=fun o o'=>by rw [at_app _ _ 1 (by simp <;> omega),at_app _ _ 1 (by omega)];exact h1
    repeat' (first|(with_reducible first|(apply St.o;constructor)<;>intro _|refine And.intro (by omega) ?_|(apply Sq.o;constructor))|((with_reducible refine keep0_i ?_);simp only [lP,seval])|simp (disch:=omega) only [lE,seval,h1,g1,get_last,fillE,setAll,List.length_cons,List.length_nil,List.length_append])
    refine round_i (o:=fun st pd=>.loop st pd [(2,.op 1 0)] N.n fn #[7] cas bd) (by rw [at_set _ _ 1 2 (by omega),at_app _ _ 2 (by simp <;> omega),at_app _ _ 2 (by omega)];exact hf31) ⟨rfl,?_⟩
    exact hback _ _ (colW_one v _ hSb)
  · have g1:∀ o o',((H1++[o]).set a .dead++[o'])[1]?=some (.box [.slc a 1 x.length]):=fun o o'=>by rw [at_app _ _ 1 (by simp <;> omega),at_set _ _ a 1 (by simp [F] at a1;omega),at_app _ _ 1 (by omega)];exact a4
    have g2:∀ o,(H1++[o])[a]?=some (.arr 69 1 (x.map rowV)):=fun o=>by rw [at_app _ _ a (by omega)];exact a5
    repeat' (first|(with_reducible first|(apply St.o;constructor)<;>intro _|refine And.intro (by omega) ?_|(apply Sq.o;constructor))|((with_reducible refine keep0_i ?_);simp only [lP,seval])|simp (disch:=omega) only [lE,seval,a4,g1,g2,get_last,fillE,setAll,List.length_map,List.length_cons,List.length_nil,List.length_append,List.length_set])
    refine round_i (o:=fun st pd=>.loop st pd [(2,.op 1 0)] N.n fn #[7] cas bd) (by rw [at_set _ _ 1 2 (by omega),at_app _ _ 2 (by simp <;> omega),at_set _ _ a 2 (by simp [F] at a1;omega),at_app _ _ 2 (by omega)];exact hf31) ⟨rfl,?_⟩
    have:=colW_snoc v (.arr 69 1 [rowV v]) hSb a1 a2 a3
    exact hback _ _ this
 have h93:=c93g (S:=colW rowV 69 1 F 1) (id:=2) (fun x v=>x++[v]) l 0 (fun x G H h=>h.1 0 (by simp [F]) (by omega))
  (fun x k=>x.length+k≤1048576) (fun x v k h=>by simp only [List.length_append,List.length_cons,List.length_nil];omega) hY [] (by simpa using hc) (fun _=>False)
  [.box [rowsV l],.box [.raw (.slice none 0 0)],lo .ready] ⟨fun i h1 h2=>by
    have h4:i<3:=h1
    have:i=0∨i=2:=by omega
    rcases this with rfl | rfl <;> rfl,fun i h=>h.elim,by simp [F],by simp [F],.inl ⟨rfl,rfl⟩⟩
 refine ⟨_,h93,?_⟩
 rintro r H' ⟨⟨h0,_,_,h3,hx⟩,_,_⟩
 rw [fold_snocH,List.nil_append] at hx
 have e0:H'[0]?=some (.box [rowsV l]):=h0 0 (by simp [F]) (by omega)
 have e3:H'[2]?=some (lo .ready):=h0 2 (by simp [F]) (by omega)
 have h34:3≤H'.length:=h3
 have g0:(H'.set 2 .lost)[0]?=some (.box [rowsV l]):=by rw [at_set _ _ 2 0 (by omega)];exact e0
 have hl2:(H'.set 2 .lost).length=H'.length:=by simp
 refine ⟨.ready,none,[(2,.op 1 0)],e3,by simp,[(2,.op 1 0)],H'.set 2 .lost,Ent.fr (by simp [FrSub,Go.Al.get]),?_⟩
 rcases hx with ⟨hx,h1⟩ | ⟨a,a1,a2,_,a4,a5⟩
 · have g2:(H'.set 2 .lost)[1]?=some (.box [.raw (.slice none 0 0)]):=by rw [at_set _ _ 2 1 (by omega)];exact h1
   generalize H'.set 2 .lost=H2 at *
   repeat' (first|(with_reducible first|(apply St.o;constructor)<;>intro _|refine And.intro (by omega) ?_|(apply Sq.o;constructor))|simp (disch:=omega) only [lE,seval,g2])
   refine keep_i [0] false (by simp;omega) (by simp) rfl (.inl ⟨hx,?_,?_⟩)
   · simp only [lP,seval]
   · simp only [lP,seval,g0,pa_rows]
 · have ha4:3≤a:=a1
   have g2:(H'.set 2 .lost)[1]?=some (.box [.slc a 1 l.length]):=by rw [at_set _ _ 2 1 (by omega)];exact a4
   have ga:(H'.set 2 .lost)[a]?=some (.arr 69 1 (l.map rowV)):=by rw [at_set _ _ 2 a (by omega)];exact a5
   generalize H'.set 2 .lost=H2 at *
   repeat' (first|(with_reducible first|(apply St.o;constructor)<;>intro _|refine And.intro (by omega) ?_|(apply Sq.o;constructor))|simp (disch:=omega) only [lE,seval,g2])
   have hpos:pos [0,a] a 0=some 1:=by
    have z1:¬ 0=a:=by omega
    simp [pos,z1]
   refine keep_i [0,a] false (by simp;omega) (by simp;omega) rfl (.inr ⟨?_,?_⟩)
   · simp only [lP,seval,hpos]
   · simp only [lP,seval,g0,ga,pa_rows]
theorem c91 (l:Rws) (hc:l.length≤1048576) :
 ACalls E.P 91 [.fn (.func 93) [] [.op 0 0]] [.box [rowsV l]] (fun r H=>(l=[]∧r=.raw (.slice none 0 0)∧H=[.box [rowsV l]])∨(r=.slc 1 1 l.length∧H=[.box [rowsV l],.arr 69 1 (l.map rowV)])):=by
 have h115:=c115 l hc
 refine ok91.acalls hE hm (by simp) fun N hN=>?_
 unfold mc91 pY pM
 simp only [lA,seval]
 refine callN_i [0] false (by simp) (by simp) ?_
 simp only [lP,seval,pa_rows]
 refine ⟨_,h115,?_⟩
 rintro r H (⟨hl,rfl,rfl⟩ | ⟨rfl,rfl⟩)
 · simp only [lA,lP,seval,renL_rows]
   refine keep_i [0] false rfl (by simp) rfl (.inl ⟨hl,?_,?_⟩)
   · simp only [lP,seval]
   · simp only [lP,seval,pa_rows]
 · simp only [lA,lP,seval,renL_rows]
   refine keep_i [0,1] false (by simp) (by simp) rfl (.inr ⟨?_,?_⟩)
   · simp only [lP,seval]
   · simp only [lP,seval,pa_rows]
theorem c92nil:ACalls E.P 92 [.raw (.slice none 0 0),.fn (.func 62) [] []] [] (fun r H=>r=.tup []∧H=[]) :=
 ⟨bodied92,fun γ σ w vs hi hv=>by
   obtain ⟨u,_,rfl,hu,fv,_,rfl,hf,rfl⟩:=hv
   have hu:u=.slice none 0 0:=hu
   subst hu
   refine (AnyF.slices_SortFunc_none { Tryz.sortV with } none 0 fv w).mono ?_
   rintro e w' ⟨rfl,rfl⟩
   exact ⟨_,γ,σ,.tup [],_,rfl,.refl _ _ _,hi,⟨[],rfl,rfl⟩,rfl,rfl⟩⟩
theorem c60 (l:Rws) (hc:l.length≤1048576) :
 ACalls E.P 60 [.fn (.func 93) [] [.op 0 0],.fn (.func 62) [] []] [.box [rowsV l]] (fun r H=>r=rowsV (sortL l)∧H=[.box [rowsV l]]):=by
 have h91:=c91 l hc
 have h92n:=c92nil
 refine ok60.acalls hE hm (by simp) fun N hN=>?_
 unfold mc60 pY pM pV pW
 simp only [lA,seval]
 refine callN_i [0] false (by simp) (by simp) ?_
 simp only [lP,seval,pa_rows]
 refine ⟨_,h91,?_⟩
 rintro r H (⟨hl,rfl,rfl⟩ | ⟨rfl,rfl⟩)
 · subst hl
   simp only [lA,lP,seval,renL_rows]
   refine callN_i [] false (by simp) (by simp) ?_
   simp only [lP,seval]
   refine ⟨_,h92n,?_⟩
   rintro _ _ ⟨rfl,rfl⟩
   simp only [lA,lP,seval]
   exact keepw_i [0] false rfl (by simp) rfl (r':=.view 1 []) (by simp only [lP,seval];exact weak_nil) ⟨by simp [sortL],by simp only [lP,seval,pa_rows,List.map_nil];rfl⟩
 · have h92:=c92 l (by omega)
   simp only [lA,lP,seval,renL_rows]
   refine callN_i [1] false (by simp) (by simp) ?_
   simp only [lP,seval,pa_rows,renL_rows]
   refine ⟨_,h92,?_⟩
   rintro _ _ ⟨rfl,rfl⟩
   simp only [lA,lP,seval]
   refine keep_i [0] true (by simp) (by simp) rfl ⟨?_,?_⟩
   · simp only [lP,seval,renL_rows,vw_rows,List.length_map,(sortL_perm l).length_eq]
   · simp only [lP,seval,pa_rows]
theorem c63 (a b:List VL):ACalls E.P 63 [rowV a,rowV b] [] (fun r H=>r=.bool (eqC a b)∧H=[]):=by
 have h64:=c64 a b
 refine ok63.acalls hE hm (by simp) fun N hN=>?_
 unfold mc63 pZ pM pW
 simp only [lA,seval]
 repeat' (first|(with_reducible first|(apply St.o;constructor)<;>intro _|refine And.intro (by omega) ?_|(apply Sq.o;constructor))|((with_reducible apply Sc.o true;constructor);simp only [lP,seval];refine ⟨_,h64,?_⟩;rintro _ _ ⟨rfl,rfl⟩;simp only [lA,lP,seval])|simp (disch:=omega) only [lE,seval])
 all_goals exact keep_b rfl
theorem c59 (l m:Rws):ACalls E.P 59 [rowsV l,rowsV m,.fn (.func 63) [] []] [] (fun r H=>r=.bool (eqC l m)∧H=[]):=by
 have hmax:=maxLen_eq
 refine ok59.acalls hE hm (by simp) fun N hN=>?_
 unfold mc59 q59_0 pM pG pI pB pQ pL pN pA oZ
 simp only [lA,seval]
 repeat' (first|(with_reducible first|(apply St.o;constructor)<;>intro _|refine And.intro (by omega) ?_|(apply Sq.o;constructor))|simp (disch:=omega) only [lE,seval,List.length_map])
 · rename_i h
   exact keep_b (eqC_false.2 fun h2=>by subst h2;omega).symm
 · rename_i h
   have hlen:l.length=m.length:=by omega
   refine loop_i (fun i:Nat=>i≤l.length∧∀ j,j<i→l.getD j default=m.getD j default) (fun i=>⟨[(1,rowsV m),(2,.fn (.func 63) [] []),(15,rowsV l),(16,.int .i64 l.length),(17,.int .i64 i)],[]⟩) (fun i=>l.length - i) 0 ⟨by omega,by simp⟩ (ent [] false) ?_
   rintro i ⟨hi,ha⟩
   by_cases hin:i<l.length
   · have hlt:((i:Int)<(l.length:Int)):=by omega
     have hk:=c63 (l.getD i default) (m.getD i default)
     repeat' (first|(with_reducible first|(apply St.o;constructor)<;>intro _|refine And.intro (by omega) ?_|(apply Sq.o;constructor))|((with_reducible apply Sc.o true;constructor);simp only [lP,seval,IdxR_rows,Int.toNat_natCast,List.length_map,hlt,decide_true];refine ⟨_,hk,?_⟩;rintro _ _ ⟨rfl,rfl⟩;simp only [lA,lP,seval,IdxR_rows,Int.toNat_natCast,List.length_map,hlt,decide_true])|simp (disch:=omega) only [lE,seval,IdxR_rows,Int.toNat_natCast,List.length_map,hlt,decide_true])
     · rename_i h2
       have h3:¬ (l.getD i default=m.getD i default):=by rw [← eqC_iff];simpa using h2
       exact keep_b (eqC_false.2 fun h4=>by subst h4;exact h3 rfl).symm
     · rename_i h2
       have h3:l.getD i default=m.getD i default:=by rw [← eqC_iff];simpa using h2
       refine back_i (i+1) ⟨by omega,fun j hj=>?_⟩ (by omega) (ent [] false)
       by_cases hji:j<i
       · exact ha j hji
       · obtain rfl:j=i:=by omega
         exact h3
   · obtain rfl:i=l.length:=by omega
     repeat' (first|(with_reducible first|(apply St.o;constructor)<;>intro _|refine And.intro (by omega) ?_|(apply Sq.o;constructor))|simp (disch:=omega) only [lE,seval,List.length_map,Int.lt_irrefl,decide_false])
     exact keep_b (eqC_iff.2 (list_eqG hlen ha)).symm
theorem bag_iff (l m:Rws):sortL l=sortL m↔l.Perm m:=by
 constructor
 · intro h
   exact (sortL_perm l).symm.trans (h ▸ sortL_perm m)
 · intro h
   exact (sorted_eq ((sortL_perm l).trans h) (sortL_pair l))
theorem c30 (l m:Rws) (hl:l.length≤1048576) (hm2:m.length≤1048576):ACalls E.P 30 [rowsV l,rowsV m] [] (fun r H=>r=.bool (eqC (sortL l) (sortL m))∧H=[]):=by
 have h61:=c61 l
 have h61':=c61 m
 have h60:=c60 l hl
 have h60':=c60 m hm2
 have h59:=c59 (sortL l) (sortL m)
 refine ok30.acalls hE hm (by simp) fun N hN=>?_
 unfold mc30 pZ pM pV
 simp only [lA,seval]
 refine callN_i [] false (by simp) (by simp) ?_
 simp only [lP,seval,pa_rows]
 refine ⟨_,h61,?_⟩
 rintro _ _ ⟨rfl,rfl⟩
 simp only [lA,lP,seval,renL_rows]
 refine callN_i [0] false (by simp) (by simp) ?_
 simp only [lP,seval,pa_rows]
 refine ⟨_,h60,?_⟩
 rintro _ _ ⟨rfl,rfl⟩
 simp only [lA,lP,seval,renL_rows]
 refine callN_i [] false (by simp) (by simp) ?_
 simp only [lP,seval,pa_rows]
 refine ⟨_,h61',?_⟩
 rintro _ _ ⟨rfl,rfl⟩
 simp only [lA,lP,seval,renL_rows]
 refine callN_i [1] false (by simp) (by simp) ?_
 simp only [lP,seval,pa_rows]
 refine ⟨_,h60',?_⟩
 rintro _ _ ⟨rfl,rfl⟩
 simp only [lA,lP,seval,renL_rows]
 refine callN_i [] false (by simp) (by simp) ?_
 simp only [lP,seval,pa_rows]
 refine ⟨_,h59,?_⟩
 rintro _ _ ⟨rfl,rfl⟩
 simp only [lA,lP,seval,renL_rows]
 exact keep_b rfl
end Go.Proofs.Try
