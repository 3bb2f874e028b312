/-
 For every stamp to begin with and at most 120 calls the history is valid,it has at most 40 transactions,and the stamp with which an active transaction with writes would commit is one more than the last one.
-/
import Derived.Test.YtfhoeghdioofmaaGreatEll
import Derived.Test.YtfhoeghdioofmaaGreatEzz
import Derived.Test.YtfhoeghdioofmaaGreatEoo
import Derived.Test.YtfhoeghdioofmaaGreatReads
import Derived.Test.YtfhoeghdioofmaaGreatRows
set_option linter.unusedSimpArgs false
set_option linter.unusedVariables false
namespace Go.Proofs.Try
open Go.Proofs.Tryz
open Go.Al
set_option maxRecDepth 100000
abbrev q3_0:MI:=oZ 4
def mc3:MC:=(.seq (.ops [(none,q3_0)]) (.seq (.ops [pM 12 1,pV 13 10 12,pM 5 13]) (.seq (.ops [pM 14 0,pV 15 11 14,pM 6 15]) (.seq (.seq (.ops [pM 16 5,pN 17 16,pM 18 17,gF 18 (oM 19 6),(some (18,false),.v (.eq 20 false .ptr (.t 19) (.c (.raw (.pointer none))))),pO 21 18 20]) (.cond 21 (.seq (.ops [(none,.e (.call (some 22) 12 [])),pM 4 22]) .ret) .skip)) (.seq (.seq (.ops [pI 7 0]) (.block 0 (.loop (.seq (.seq (.ops [pM 23 7,pM 24 1,pG 25 24,pB 26 23 25]) (.cond 26 .skip (.exit 0))) (.seq (.block 1 (.seq (.ops [pM 29 6,pM 30 1,pM 31 7,pQ 32 6 30 31,pR 33 6 32,pW 34 13 29 33]) (.seq (.ops [pM 35 6,pV 36 14 35,pM 8 36]) (.seq (.seq (.ops [pM 37 8,pV 38 15 37,pD 39 38 0,pM 40 39,gF 40 (oM 41 8),gF 40 (oG 42 41),(some (40,false),.v (.bin 43 .gtr false (.t 42) (.c (.int .i64 40)))),pO 44 40 43]) (.cond 44 (.seq (.ops [(none,q3_0)]) .ret) .skip)) (.seq (.ops [pI 9 0]) (.block 2 (.loop (.seq (.seq (.ops [pM 45 9,pM 46 8,pG 47 46,pB 48 45 47]) (.cond 48 .skip (.exit 2))) (.seq (.block 3 (.seq (.ops [pM 52 8,pM 53 9,pW 54 16 52 53,pM 51 54,pX 55 0 51,pX 56 1 51,pM 10 55,pM 11 56]) (.seq (.ops [pM 57 11,pE 58 57 0,pM 59 58,gT 59 (oM 60 8),gT 59 (oM 61 9),gT 59 (oQ 62 6 60 61),gT 59 (oF 63 5 62),gT 59 (oL 64 63),gT 59 (oG 65 64),(some (59,true),.v (.bin 66 .gtr false (.t 65) (.c (.int .i64 0)))),pP 67 59 66,pM 68 67,gT 68 (oM 69 10),gT 68 (oM 70 6),gT 68 (oV 71 17 70),gT 68 (oA 72 71 1),(some (68,true),.v (.bin 73 .neq false (.t 69) (.t 72))),pP 74 68 73]) (.cond 74 (.seq (.ops [(none,q3_0)]) .ret) .skip)))) (.ops [pM 49 9,pA 50 49 1,pM 9 50])))))))))) (.ops [pM 27 7,pA 28 27 1,pM 7 28])))))) (.seq (.ops [(none,.e (.call (some 75) 12 [])),pM 4 75]) .ret))))))
theorem ok3:FnOk E 3 76 [.tmp 4] mc3:=ofk func3
set_option maxRecDepth 20000
set_option maxHeartbeats 16000000
theorem few_len {l:List CL} (h:fewS l=true):l.length≤120∧∀ c ∈ l,c.vals.length≤20:=by
 simp only [fewS,Bool.and_eq_true,List.all_eq_true,decide_eq_true_eq] at h
 exact ⟨h.2,h.1⟩
theorem c3 (last:Int) (l:List CL):ACalls E.P 3 [.int .i64 last,.view 6 (l.map CL.av)] [] (fun r H=>r=.bool true∧H=[]):=by
 have hmax:=maxLen_eq
 have h10:=c10 l
 refine ok3.acalls hE hm (by simp) fun N hN=>?_
 unfold mc3 q3_0 pM pV pN pO pI pG pB pQ pR pW pD pX pE pP pA gF gT oM oL oF oA oZ oG oQ oV
 simp only [lA,seval]
 repeat' (first|(with_reducible first|(apply St.o;constructor)<;>intro _|refine And.intro (by omega) ?_|(apply Sq.o;constructor))|((with_reducible apply Sc.o true;constructor);simp only [lP,seval];refine ⟨_,h10,?_⟩;rintro _ _ ⟨rfl,rfl⟩;simp only [lA,lP,seval])|simp (disch:=omega) only [lE,seval])
 by_cases hl:okLast last
 rotate_left
 · refine callW_i (f11n hl _) ?_
   rintro _ _ ⟨rfl,rfl⟩
   cases hf:fewS l
   · repeat' (first|(with_reducible first|(apply St.o;constructor)<;>intro _|refine And.intro (by omega) ?_|(apply Sq.o;constructor))|((with_reducible apply Sc.o true;constructor);simp only [lP,seval,isNil,Go.Al.ptrEq,hf];refine ⟨_,c12,?_⟩;rintro _ _ ⟨rfl,rfl⟩;simp only [lA,lP,seval,isNil,Go.Al.ptrEq,hf])|simp (disch:=omega) only [lE,seval,isNil,Go.Al.ptrEq,hf])
     exact keep_b rfl
   · repeat' (first|(with_reducible first|(apply St.o;constructor)<;>intro _|refine And.intro (by omega) ?_|(apply Sq.o;constructor))|((with_reducible apply Sc.o true;constructor);simp only [lP,seval,isNil,Go.Al.ptrEq,hf];refine ⟨_,c12,?_⟩;rintro _ _ ⟨rfl,rfl⟩;simp only [lA,lP,seval,isNil,Go.Al.ptrEq,hf])|simp (disch:=omega) only [lE,seval,isNil,Go.Al.ptrEq,hf])
     exact keep_b rfl
 refine callW_i (f11s hl _ (fun _=>False) (fun _ h=>h.elim)) ?_
 rintro _ H0 ⟨X,rfl,a0,_⟩
 obtain ⟨cs0,b0⟩:=a0.box
 cases hf:fewS l
 · repeat' (first|(with_reducible first|(apply St.o;constructor)<;>intro _|refine And.intro (by omega) ?_|(apply Sq.o;constructor))|((with_reducible apply Sc.o true;constructor);simp only [lP,seval,b0,isNil,Go.Al.ptrEq,hf];refine ⟨_,c12,?_⟩;rintro _ _ ⟨rfl,rfl⟩;simp only [lA,lP,seval,b0,isNil,Go.Al.ptrEq,hf])|simp (disch:=omega) only [lE,seval,b0,isNil,Go.Al.ptrEq,hf])
   exact keep_b rfl
 repeat' (first|(with_reducible first|(apply St.o;constructor)<;>intro _|refine And.intro (by omega) ?_|(apply Sq.o;constructor))|simp (disch:=omega) only [lE,seval,b0,isNil,Go.Al.ptrEq,hf])
 obtain ⟨hlen,hvals⟩:=few_len hf
 refine loop_i (fun p:Nat × List AObj=>p.1≤l.length∧TsF X p.2 (runT (t0 last) (l.take p.1)) (fun _=>False)) (fun p=>⟨[(1,.view 6 (l.map CL.av)),(6,.op X 0),(7,.int .i64 p.1)],p.2⟩) (fun p=>l.length - p.1) (0,H0) ⟨by simp,a0⟩ (Ent.fr (by simp [FrSub,Go.Al.get])) ?_
 rintro ⟨i,H1⟩ ⟨hi,a1⟩
 simp only at hi a1 ⊢
 by_cases hil:i<l.length
 · obtain ⟨ok1,iv1⟩:=run_ok hl (by omega) i hi
   obtain ⟨ok2,iv2⟩:=run_ok hl (by omega) (i+1) hil
   rw [runT_next _ hil] at ok2 iv2
   have hnx:=runT_next (t0 last) hil
   have hcv:=hvals _ (getD_mem hil)
   generalize hc:l.getD i default=c at *
   generalize runT (t0 last) (l.take i)=u at *
   repeat' (first|(with_reducible first|(apply St.o;constructor)<;>intro _|refine And.intro (by omega) ?_|(apply Sq.o;constructor))|simp (disch:=omega) only [lE,seval,IdxR_cls,hc,cl_load,Int.toNat_natCast,List.length_map])
   all_goals try (exfalso;omega)
   refine callW_i (f13 a1 ok1 (by omega) c (by omega)) ?_
   rintro _ H2 ⟨rfl,a2,_⟩
   repeat' (first|(with_reducible first|(apply St.o;constructor)<;>intro _|refine And.intro (by omega) ?_|(apply Sq.o;constructor))|simp (disch:=omega) only [lE,seval])
   generalize (doS u c).2=v at *
   refine callW_i (f14 a2 ok2) ?_
   rintro _ H3 ⟨rfl,a3,_⟩
   have h15:=c15 (histS v)
   rw [iv_check ok2 iv2] at h15
   have hw:IntKind.i64.wrap (v.last+1)=v.last+1:=wrap_i64 (by have:=iv2.sh;omega) (by have:=iv2.sh;omega)
   have hl40:(histS v).length≤40:=by have:=ok2.cnt;rw [histS_len];simp only [allS,List.length_append,List.length_map];omega
   repeat' (first|(with_reducible first|(apply St.o;constructor)<;>intro _|refine And.intro (by omega) ?_|(apply Sq.o;constructor))|((with_reducible apply Sc.o true;constructor);simp only [lP,seval,List.length_map];refine ⟨_,h15,?_⟩;rintro _ _ ⟨rfl,rfl⟩;simp only [lA,lP,seval,List.length_map])|simp (disch:=omega) only [lE,seval,List.length_map])
   all_goals try (exfalso;omega)
   refine loop_i (fun k:Nat=>k≤(histS v).length) (fun k=>⟨[(1,.view 6 (l.map CL.av)),(6,.op X 0),(7,.int .i64 i),(8,.view 6 ((histS v).map accA)),(9,.int .i64 k)],H3⟩) (fun k=>(histS v).length - k) 0 (by omega) (Ent.fr (by simp [FrSub,Go.Al.get])) ?_
   rintro k hk
   by_cases hkl:k<(histS v).length
   · have h16:=c16 (histS v) k
     have hst:=fun e=>law_stamp ok2 iv2 (k:=k) e
     generalize hx:(histS v).getD k default=x at *
     have hx2:at' (histS v) k=x:=hx
     rw [hx2] at hst
     repeat' (first|(with_reducible first|(apply St.o;constructor)<;>intro _|refine And.intro (by omega) ?_|(apply Sq.o;constructor))|((with_reducible apply Sc.o true;constructor);simp only [lP,seval,IdxR_accs',hx,accC,admitA,Int.toNat_natCast,List.length_map];refine ⟨_,h16,?_⟩;rintro _ _ ⟨rfl,rfl⟩;simp only [lA,lP,seval,IdxR_accs',hx,accC,admitA,Int.toNat_natCast,List.length_map])|simp (disch:=omega) only [lE,seval,IdxR_accs',hx,accC,admitA,Int.toNat_natCast,List.length_map])
     all_goals try (exfalso;omega)
     · refine callW_i (f17 a3) ?_
       rintro _ _ ⟨rfl,rfl⟩
       repeat' (first|(with_reducible first|(apply St.o;constructor)<;>intro _|refine And.intro (by omega) ?_|(apply Sq.o;constructor))|simp (disch:=omega) only [lE,seval,hw])
       · exact absurd (hst (by assumption) (by omega)) (by assumption)
       · exact back_i (k+1) (by omega) (by omega) (Ent.fr (by simp [FrSub,Go.Al.get]))
     · exact back_i (k+1) (by omega) (by omega) (Ent.fr (by simp [FrSub,Go.Al.get]))
     · exact back_i (k+1) (by omega) (by omega) (Ent.fr (by simp [FrSub,Go.Al.get]))
   · obtain rfl:k=(histS v).length:=by omega
     repeat' (first|(with_reducible first|(apply St.o;constructor)<;>intro _|refine And.intro (by omega) ?_|(apply Sq.o;constructor))|simp (disch:=omega) only [lE,seval,List.length_map,Int.lt_irrefl,decide_false])
     all_goals try (exfalso;omega)
     exact back_i (i+1,H3) ⟨by simp only;omega,by simp only;rw [hnx];exact a3⟩ (by simp only;omega) (Ent.fr (by simp [FrSub,Go.Al.get]))
 · obtain rfl:i=l.length:=by omega
   repeat' (first|(with_reducible first|(apply St.o;constructor)<;>intro _|refine And.intro (by omega) ?_|(apply Sq.o;constructor))|((with_reducible apply Sc.o true;constructor);simp only [lP,seval,List.length_map,Int.lt_irrefl,decide_false];refine ⟨_,c12,?_⟩;rintro _ _ ⟨rfl,rfl⟩;simp only [lA,lP,seval,List.length_map,Int.lt_irrefl,decide_false])|simp (disch:=omega) only [lE,seval,List.length_map,Int.lt_irrefl,decide_false])
   all_goals try (exfalso;omega)
   exact keep_b rfl
end Go.Proofs.Try
namespace Go.Proofs.YtfhoeghdioofmaaGreat
open Go.Al Go.Proofs.Try
open Go.Proofs.Tryz
open Go.ChangeShapes Go.WideShapes Go.ChangeAt Go.RowKit
set_option maxRecDepth 100000 in
theorem lifted3 (os:Os) (started:os.Started) (H:Type) (enc:TypeId × Value→H) :
 ReturnsInHanded {} Tryz.checked os 3 .any (Rows.txnHistoryIsValidSpec.pre6 enc Tryz.prog Tryz.f3 Rows.txnHistoryIsValidRow.domain false) (Rows.txnHistoryIsValidSpec.post enc Tryz.prog Tryz.f3 false true false false):=by
 refine returnsInHanded_of_change (C:=Tryz.checked) own started (by kernel_rfl) Tryz.func3
  (ChangeSpec.witness6 (enc:=enc) (C:=Tryz.checked) false ⟨#[],#[.int .i64 0,.slice none 0 0],[]⟩ 8 (by kernel_rfl) (by kernel_rfl) (by kernel_rfl) (by kernel_rfl)) ?_
 intro W base args ds gs before hval hW _ _
 exact contract_of hE kids full (s:=Rows.txnHistoryIsValidSpec) (tb:=4) (by rw [Tryz.params3];decide +kernel) (by rw [Tryz.params3];exact reads_cons rv3 (reads_cons rv22 (reads_nil))) (by rintro _ ⟨a,_,ha,⟨b,_,hb,rfl,rfl⟩,rfl⟩;exact c3 a b) rfl
  (by rw [Tryz.params3];rintro H (_ | ⟨d0,(_ | ⟨d1,(_ | ⟨dz,ds⟩)⟩)⟩) hl <;> simp at hl;exact ⟨rfl,rfl,rfl⟩) (by kernel_rfl) (by kernel_rfl) H enc W base args ds gs before (glob_ok _) hval hW
theorem txnHistoryIsValid_holds:Rows.TxnHistoryIsValidSaid :=
 OpenClaim.holds_of_wide 3 Tryz.f3 rfl rfl rfl rfl rfl rfl rfl ⟨rfl,rfl,rfl,rfl,rfl⟩ rfl rfl rfl rfl rfl (by kernel_rfl) Tryz.func3 (by kernel_rfl)
  (of_decide_eq_true (by kernel_rfl)) (by unfold Func.isWrapper;first | (rw [if_pos (by decide +kernel)];kernel_rfl) | (rw [if_neg (by decide +kernel)];exact ⟨rfl,rfl⟩))
  (fun os started H enc _=>lifted3 os started H enc)
end Go.Proofs.YtfhoeghdioofmaaGreat
