/-
 A part of the proof.
-/
import Derived.Test.YtfhoeghdioofmaaGreatKii
import Derived.Test.YtfhoeghdioofmaaGreatKdd
set_option linter.unusedSimpArgs false
set_option linter.unusedVariables false
namespace Go.Proofs.Try
open Go.Proofs.Tryz
open Go.Al
set_option maxRecDepth 100000
abbrev q16_0:MI:=oI 4 0
def mc16:MC:=(.seq (.ops [pK 3 1,(none,q16_0),pI 5 0]) (.seq (.seq (.ops [pM 16 0,pV 17 15 16,pM 6 17]) (.seq (.ops [pM 18 6,pD 19 18 0]) (.cond 19 (.seq (.ops [pM 20 6,(none,q16_0),pM 5 20]) .ret) .skip))) (.seq (.seq (.ops [pL 21 3,(none,.v (.bin 22 .lss false (.t 21) (.c (.int .i64 0)))),pM 23 22,gF 23 (oL 24 3),gF 23 (oM 25 0),gF 23 (oG 26 25),(some (23,false),.v (.bin 27 .geq false (.t 24) (.t 26))),pO 28 23 27,pM 29 28,gF 29 (oM 30 0),gF 29 (oL 31 3),gF 29 (oQ 32 6 30 31),gF 29 (oF 33 2 32),gF 29 (oL 34 33),pO 35 29 34]) (.cond 35 (.seq (.ops [(none,q16_0),pI 5 1]) .ret) .skip)) (.seq (.ops [pI 7 0]) (.seq (.seq (.ops [pM 36 0,pL 37 3,pQ 38 6 36 37,pR 39 6 38,(none,.e (.alloc 8 z0)),pS 6 8 39]) (.seq (.ops [pF 40 5 8,pL 41 40,pG 42 41,(none,.v (.bin 43 .gtr false (.t 42) (.c (.int .i64 0))))]) (.cond 43 (.seq (.ops [pF 44 5 8,pL 45 44,pV 46 63 45,pM 9 46]) (.seq (.ops [(none,.v (.mov 10 (.c (.bool true))))]) (.seq (.seq (.ops [pM 47 0,pG 48 47,pI 49 0]) (.block 0 (.loop (.seq (.ops [pB 50 49 48]) (.seq (.cond 50 .skip (.exit 0)) (.seq (.block 1 (.seq (.ops [pQ 51 6 47 49,pR 52 6 51,(none,.e (.alloc 12 z0)),pS 6 12 52]) (.seq (.ops [pM 53 7,pF 54 3 12,pL 55 54,pF 56 1 12,pL 57 56,(none,.v (.max 58 [.t 53,.t 55,.t 57])),pM 7 58]) (.ops [pM 59 10,pM 60 59,gT 60 (oR 61 6 12),gT 60 (oV 62 64 61),gT 60 (oM 63 62),gT 63 (oF 64 3 12),gT 63 (oL 65 64),gT 63 (oF 66 1 8),gT 63 (oL 67 66),(some (63,true),.v (.bin 68 .gtr false (.t 65) (.t 67))),gT 60 (oP 69 63 68),gT 60 (oM 70 69),gT 70 (oM 71 9),gT 70 (oF 72 5 12),gT 70 (oL 73 72),gT 70 (oW 74 66 71 73),gT 60 (oP 75 70 74),gT 60 (oN 76 75),pP 77 60 76,pM 10 77])))) (.ops [pA 78 49 1,pM 49 78]))))))) (.seq (.ops [pM 79 7,pA 80 79 1,pM 7 80]) (.seq (.seq (.ops [pM 81 7,(none,.v (.bin 82 .gtr false (.t 81) (.c (.int .i64 1073741824))))]) (.cond 82 (.seq (.ops [(none,q16_0),pI 5 2]) .ret) .skip)) (.seq (.ops [pM 83 10,pN 84 83]) (.cond 84 (.seq (.ops [(none,q16_0),pI 5 271]) .ret) .skip))))))) .skip))) (.seq (.seq (.ops [pM 85 0,pL 86 3,pQ 87 6 85 86,pF 88 0 87,pL 89 88,pE 90 89 1]) (.cond 90 (.seq (.ops [pM 91 0,pV 92 67 91,pM 13 92]) (.seq (.any true (.pure0 none (oM 93 13) (.pure0 none (oL 94 3) (.pure0 none (oM 95 13) (.pure0 none (oL 96 3) (.pure0 none (oM 97 7) (.pure0 none (oQ 98 6 93 94) (.pure0 none (oF 99 2 98) (.alt none (.e (.store 1 false (.t 99) (.c (.bool true)))) (.pure0 none (oQ 100 6 95 96) (.pure0 none (oF 101 3 100) (.alt none (.e (.store 1 false (.t 101) (.t 97))) .done .stop))) .stop))))))))) (.seq (.ops [pM 103 13,pV 104 68 103,(none,.v (.fn 105 (.func 70) [] [.t 3])),pW 106 69 104 105,pM 102 106,pX 107 0 102,pX 108 1 102,(none,.e (.alloc 14 [.int .i64 0,.int .i64 0,.int .i64 0])),pS 3 14 107,pM 15 108]) (.seq (.ops [pM 109 15]) (.cond 109 (.seq (.ops [(none,q16_0),pI 5 272]) .ret) .skip))))) .skip)) (.seq (.ops [pM 110 7,pM 4 110,pI 5 0]) .ret)))))))
theorem ok16:FnOk E 16 111 [.tmp 4,.tmp 5] mc16:=ofk func16
open Classical
set_option maxHeartbeats 16000000
theorem renL_accs {ρ:Nat->Nat} {xs:List Acc}:renL ρ (xs.map accA)=xs.map accA:=renL_map (fun x=>by simp [accA_eq,ren,renL,renL_ints]) xs
theorem Pred3_70 (n:Nat):Pred3 70 [] [.vp [.int .i64 n]] (fun a b c=>a=n\/b=n\/c=n) where
 calls:=fun a b c=>(c70 a b c n).mono fun r H ⟨h1,h2⟩=>⟨by rw [h1];congr,h2⟩
 first:=fun _ _ _ _=>rfl
 caps:=fun _ _ _ n=>by cases n <;> rfl
theorem lastTo_le {h:List Acc} (hc:checkS h=0):∀ {m:Nat},m<=h.length->lastTo h m<=1073741824
 | 0,_=>by simp [lastTo]
 | m+1,hm=>by
   have:=lastTo_le hc (m:=m) (by omega)
   obtain ⟨f1,f2,f3,f4,f5,f6,f7,f8,f9⟩:=check_formed hc m (by omega)
   simp only [lastTo]
   have:(at' h m).stamp<=1073741824:=by
    by_cases hw:(at' h m).writer=true
    . exact (f8 hw).2
    . have:=f9 (by simpa using hw);omega
   omega
theorem lastS_le {h:List Acc} (hc:checkS h=0):lastS h<=1073741824:=lastTo_le hc (Nat.le_refl _)
def LostW (h:List Acc) (n:Nat):Prop:=∃ k,k<h.length/\(at' h k).done=true/\Meet (at' h n).writes (at' h k).writes/\(at' h n).snap<(at' h k).stamp
def DangW (h:List Acc) (n:Nat):Prop:=∃ a b c,a<h.length/\b<h.length/\c<h.length/\Dang (withS h n (stampS h n)) a b c/\(a=n\/b=n\/c=n)
noncomputable def admitN (h:List Acc) (n:Nat):Int × Int :=
 if 1073741824<stampS h n then (0,2) else if LostW h n then (0,271) else if (at' h n).mode=1/\DangW h n then (0,272) else (stampS h n,0)
noncomputable def admitS (h:List Acc) (i:Int):Int × Int :=
 if checkS h≠0 then (0,checkS h) else if ¬ (0<=i/\i<h.length/\(at' h i.toNat).done=false) then (0,1) else admitN h i.toNat
def admitA (p:Int × Int):AV:=.tup [.int .i64 p.1,.int .i64 p.2]
theorem admitN_ok {h:List Acc} {n:Nat} (h1:¬ 1073741824<stampS h n) (h2:¬ LostW h n) (h3:¬ ((at' h n).mode=1/\DangW h n)):admitN h n=(stampS h n,0):=by
 rw [admitN,if_neg h1,if_neg h2,if_neg h3]
theorem admitN_dang {h:List Acc} {n:Nat} (h1:¬ 1073741824<stampS h n) (h2:¬ LostW h n) (h3:(at' h n).mode=1) (h4:DangW h n):admitN h n=(0,272):=by
 rw [admitN,if_neg h1,if_neg h2,if_pos ⟨h3,h4⟩]
def Lost1 (h:List Acc) (n k:Nat):Prop:=(at' h k).writer=true/\(at' h n).snap<(at' h k).stamp/\Meet (at' h n).writes (at' h k).writes
theorem lost_iff {h:List Acc} {n:Nat}:(∀ j,j<h.length->¬ Lost1 h n j)↔¬ LostW h n:=by
 constructor
 . rintro hh ⟨k,hk,hd,hm,hs⟩
   refine hh k hk ⟨?_,hs,hm⟩
   obtain ⟨x,_,hx⟩:=hm
   simp only [Acc.writer,hd,List.length_pos_of_mem hx,decide_true,Bool.and_self]
 . rintro hh j hj ⟨h1,h2,h3⟩
   exact hh ⟨j,hj,by simp only [Acc.writer,Bool.and_eq_true] at h1;exact h1.1,h3,h2⟩
theorem forall_lt_succ {p:Nat->Prop} {k:Nat}:(∀ j,j<k+1->p j)↔(∀ j,j<k->p j)/\p k :=
 ⟨fun h=>⟨fun j hj=>h j (by omega),h k (by omega)⟩,fun ⟨h1,h2⟩ j hj=>by
   by_cases e:j=k
   . subst e;exact h2
   . exact h1 j (by omega)⟩
theorem c16 (h:List Acc) (i:Int):ACalls E.P 16 [.view 6 (h.map accA),.int .i64 i] [] (fun r H=>r=admitA (admitS h i)/\H=[]):=by
 have hmax:=maxLen_eq
 refine ok16.acalls hE hm (by simp) fun N hN=>?_
 unfold mc16 q16_0 z0 pK pI pM pV pD pL pO pQ pR pS pF pG pB pP pA pN pE pW pX gF gT oM oI oL oR oF oP oN oG oQ oV oW
 have h18:=c15 h
 by_cases hck:checkS h=0
 . by_cases hi:0<=i/\i<h.length
   . obtain ⟨n,rfl⟩:=Int.eq_ofNat_of_zero_le hi.1
     have hn:n<h.length:=by omega
     have e1:∀ {m N d k},IdxR E.P m N (h.map accA) (n:Int) d k=rK E.P m N k d (.vp (accC (at' h n))):=IdxR_at hn
     cases hd:(at' h n).done with
     | true =>
       have hs:admitS h n=(0,1):=by simp only [admitS,Int.toNat_natCast];rw [if_neg (by simp [hck]),if_pos (fun hh=>by rw [hd] at hh;cases hh.2.2)]
       repeat' (first|(with_reducible first|(apply St.o;constructor)<;>intro _|refine ai ?_|(apply Sq.o;constructor))|((with_reducible apply Sc.o true;constructor);simp only [lP,seval,e1,accC,hd,pa_accs];refine ⟨_,h18,?_⟩;rintro _ _ ⟨rfl,rfl⟩;simp only [lA,lP,seval,e1,accC,hd,pa_accs])|((with_reducible refine keep0_i ?_);simp only [lP,seval])|simp (disch:=omega) only [lE,seval,e1,accC,hd,pa_accs])
       all_goals try (exfalso;omega)
       all_goals try (exfalso;omega)
       all_goals simp [hs,admitA]
     | false =>
       have hs:admitS h n=admitN h n:=by simp only [admitS,Int.toNat_natCast];rw [if_neg (by simp [hck]),if_neg (fun hh=>hh ⟨by omega,by omega,hd⟩)]
       rw [hs]
       have hfm:(at' h n).Formed:=check_formed hck n hn
       have hne:h≠[]:=by rintro rfl;simp at hn
       have hlen:=checkS_len hck
       have h69:=c67 h hne hlen
       have hll:=lastS_le hck
       by_cases hw:0<(at' h n).writes.length
       . have hst:stampS h n=lastS h+1:=by simp only [stampS,if_pos hw]
         have h44:=c63 (at' h n).writes
         repeat' (first|(with_reducible first|(apply St.o;constructor)<;>intro _|refine ai ?_|(apply Sq.o;constructor))|((with_reducible apply Sc.o true;constructor);simp only [lP,seval,e1,accC,hd,pa_accs,renL_trues,novL_trues];(first|(refine ⟨_,h18,?_⟩;rintro _ _ ⟨rfl,rfl⟩)|(refine ⟨_,h44,?_⟩;rintro _ _ ⟨rfl,ws,wb,wc,rfl,hws⟩));simp only [lA,lP,seval,e1,accC,hd,pa_accs,renL_trues,novL_trues])|simp (disch:=omega) only [lE,seval,e1,accC,hd,pa_accs,renL_trues,novL_trues])
         all_goals try (exfalso;omega)
         all_goals try (exfalso;omega)
         refine loop_i (fun k:Nat=>k<=h.length) (fun k=>⟨[(0,.view 6 (h.map accA)),(3,.op 0 0),(7,.int .i64 (lastTo h k)),(8,.op 1 0),(9,.mp 2),(10,.bool (decide (∀ j,j<k->¬ Lost1 h n j))),(47,.view 6 (h.map accA)),(48,.int .i64 h.length),(49,.int .i64 k)],
          [.box [.int .i64 n],.box (accC (at' h n)),.map (ws.map (AV.int .i64)) (ws.map fun _=>AV.bool true) wb wc]⟩) (fun k=>h.length - k) 0 (by omega) (ent [0,1,2] false (by simp only [lP,seval,pa_accs,pa_trues,lastTo]<;>(try simp)) (by simp only [lP,seval,pa_trues,accC,hd])) ?_
         intro k hk
         by_cases hkn:k<h.length
         . have e2:∀ {m N d c},IdxR E.P m N (h.map accA) (k:Int) d c=rK E.P m N c d (.vp (accC (at' h k))):=IdxR_at hkn
           have h45:=c64 (at' h k)
           have h47:∀ l,ACalls E.P 66 [setA ws,.view 1 (l.map (AV.int .i64))] [] (fun r H=>r=.bool (decide (Meet (at' h n).writes l))/\H=[]):=fun l=>(c66 ws l).mono fun r H ⟨h1,h2⟩=>⟨by rw [h1];congr 1;simp only [Meet,hws,and_comm],h2⟩
           have hml:=lastTo_le hck (m:=k) hk
           simp only [accA_eq,setA] at h45 h47
           have hL:(∀ j,j<k+1->¬ Lost1 h n j)↔(∀ j,j<k->¬ Lost1 h n j)/\¬ Lost1 h n k:=forall_lt_succ
           have hl1:Lost1 h n k↔((at' h k).writer=true/\(at' h n).snap<(at' h k).stamp/\Meet (at' h n).writes (at' h k).writes):=Iff.rfl
           repeat' (first|(with_reducible first|(apply St.o;constructor)<;>intro _|refine ai ?_|(apply Sq.o;constructor))|((with_reducible apply Sc.o true;constructor);simp only [lP,seval,e2,accC,vw_trues,hd];(first|refine ⟨_,h45,?_⟩|refine ⟨_,h47 _,?_⟩);rintro _ _ ⟨rfl,rfl⟩;simp only [lA,lP,seval,e2,accC,vw_trues,hd])|simp (disch:=omega) only [lE,seval,e2,accC,vw_trues,hd])
           all_goals try (exfalso;omega)
           all_goals try (exfalso;omega)
           all_goals clear e1 e2 h45 h47 h18 h69 h44
           all_goals refine back_i (k+1) (by omega) (by omega) (ent [0,1,2] false (by simp only [lP,seval,pa_accs,pa_trues,lastTo,max3,hL,hl1]<;>(try simp only [true_and,and_true]) <;> (clear hL hl1;refine ⟨congrArg AV.bool (Bool.eq_iff_iff.2 ?_),by simp⟩;simp only [decide_eq_true_eq,Bool.not_eq_true',decide_eq_false_iff_not,Bool.false_eq_true,true_iff,false_iff];generalize (∀ j,j<k->¬ Lost1 h n j)=W at *;generalize Meet (at' h n).writes (at' h k).writes=M at *;clear hws hfm hs;first | grind | (simp_all;done))) (by simp only [lP,seval,pa_trues,accC,hd]))
         . have e:k=h.length:=by omega
           subst e
           have hW:(∀ j,j<h.length->¬ Lost1 h n j)↔¬ LostW h n:=lost_iff
           have hwr:IntKind.i64.wrap (lastTo h h.length+1)=lastS h+1:=by
            have:=lastTo_ge (h:=h) (m:=h.length)
            rw [wrap_i64 (by omega) (by simp only [lastS] at hll;omega)];rfl
           repeat' (first|(with_reducible first|(apply St.o;constructor)<;>intro _|refine ai ?_|(apply Sq.o;constructor))|((with_reducible apply Sc.o false;constructor);simp only [lP,seval,e1,accC,hd,pa_accs,hW,hwr];refine ⟨_,h69,?_⟩;rintro _ _ ⟨rfl,rfl⟩;simp only [lA,lP,seval,e1,accC,hd,pa_accs,hW,hwr])|simp (disch:=omega) only [lE,seval,e1,accC,hd,pa_accs,hW,hwr])
           all_goals try (exfalso;omega)
           all_goals try (exfalso;omega)
           . rename_i hbig
             refine keep0_i ?_
             simp only [lP,seval]
             rw [admitN,if_pos (by omega)];simp [admitA]
           . rename_i hbig hlo
             refine keep0_i ?_
             simp only [lP,seval]
             rw [admitN,if_neg (by omega),if_pos (Classical.not_not.1 hlo)];simp [admitA]
           all_goals
            have hsl:¬ 1073741824<stampS h n:=by omega
            have hlost:¬ LostW h n:=by assumption
            have hcheck:checkS (withS h n (lastS h+1))=0:=by
             have:=check_with hck hn hd (by omega) fun k hk hdk hmt=>Classical.byContradiction fun hgt=>hlost ⟨k,hk,hdk,hmt,by omega⟩
             rwa [hst] at this
           all_goals try (exfalso;omega)
           . refine any_i [3] ?_
             have g1:=accs_get hn
             have g2:((doneS h n).map accA)[n]?=_:=accs_get (by rw [doneS_len];exact hn)
             have ep1:∀ {m N d c},epR E.P m N (some (.arr 43 6 (h.map accA))) (n:Int) h.length 3 6 d c=rK E.P m N c d (.ep 3 6 n 0):=epR_ne (by simp) (by omega) (by omega)
             have ep2:∀ {m N d c},epR E.P m N (some (.arr 43 6 ((doneS h n).map accA))) (n:Int) h.length 3 6 d c=rK E.P m N c d (.ep 3 6 n 0):=epR_ne (by simp [doneS_len]) (by omega) (by omega)
             repeat' (first|(with_reducible apply St.o;constructor) <;> intro _|(with_reducible first|refine ai ?_|(apply Sp.o;constructor)|refine mkl_own ?_|refine ap_own ?_|refine base0_i ?_|refine any00_i ?_)|simp (disch:=omega) only [lE,seval,renL_accs,ep1,ep2,g1,g2,st_done hn,st_with hn])
             have hw':h.length=((withS h n (lastS h+1)).map accA).length:=by simp [withS_len]
             have hv:∀ {H l m},vwS none (some (.arr 43 6 ((withS h n (lastS h+1)).map accA))) H l (m+1) 6 h.length=.view 6 ((withS h n (lastS h+1)).map accA):=by
              intro H l m
              rw [vwS_arr hw',vw_accs]
             refine frz_i (fr':=[(0,.view 6 (h.map accA)),(3,.op 0 0),(7,.int .i64 (lastS h+1)),(13,.view 6 ((withS h n (lastS h+1)).map accA))]) (H':=[.box [.int .i64 n]]) (ent [0] true (by simp only [lP,seval,hv]<;>(try simp)<;>(try omega)) (by simp only [lP,seval,hv]<;>(try simp)<;>(try omega))) ?_
             have hcw:checkS (withS h n (lastS h+1))=0:=hcheck
             have k1:=c68 (withS h n (lastS h+1))
             have k2:=c69 (withS h n (lastS h+1)) (by rw [withS_len];exact hlen) 70 [] [.vp [.int .i64 n]] _ (Pred3_70 n)
             simp only [hcw,if_true,graphA] at k1
             repeat' (first|(with_reducible first|(apply St.o;constructor)<;>intro _|refine ai ?_|(apply Sq.o;constructor))|((with_reducible apply Sc.o false;constructor);simp only [lP,seval];refine ⟨_,k1,?_⟩;rintro _ _ ⟨rfl,rfl⟩;simp only [lA,lP,seval])|simp (disch:=omega) only [lE,seval])
             refine callN_i [] true (by simp) (by simp) ?_
             simp only [lP,seval]
             simp only [graphA] at k2
             refine ⟨_,k2,?_⟩
             rintro _ _ ⟨⟨t,ht,rfl⟩,rfl⟩
             rcases t with _ | ⟨a,b,c⟩
             . simp only [tripA,lP,seval,lA,seval]
               repeat' (first|(with_reducible first|(apply St.o;constructor)<;>intro _|refine ai ?_|(apply Sq.o;constructor))|simp (disch:=omega) only [lE,seval,ti121])
               have hnd:¬ DangW h n:=by
                rintro ⟨a,b,c,ha,hb,hc,hd,he⟩
                exact ht a b c (by rwa [withS_len]) (by rwa [withS_len]) (by rwa [withS_len]) ⟨by rw [hst] at hd;exact hd,he⟩
               rw [admitN_ok hsl hlost fun hh=>hnd hh.2]
               refine keep0_i ?_
               simp [admitA,hst,lP,seval]
             . simp only [tripA,lP,seval,lA,seval]
               repeat' (first|(with_reducible first|(apply St.o;constructor)<;>intro _|refine ai ?_|(apply Sq.o;constructor))|simp (disch:=omega) only [lE,seval,ti121])
               obtain ⟨t1,t2,t3,t4,_⟩:=ht
               rw [withS_len] at t1 t2 t3
               rw [admitN_dang hsl hlost (by assumption) ⟨a,b,c,t1,t2,t3,by rw [hst];exact t4.1,t4.2⟩]
               refine keep0_i ?_
               simp [admitA,lP,seval]
           . rw [admitN_ok hsl hlost fun hh=>absurd hh.1 (by assumption)]
             refine keep0_i ?_
             simp [admitA,hst,lP,seval]
       . have hst:stampS h n=0:=by simp only [stampS,if_neg hw]
         have hsl:¬ 1073741824<stampS h n:=by omega
         have hlost:¬ LostW h n:=fun ⟨k,_,_,⟨x,hx,_⟩,_⟩=>absurd (List.length_pos_of_mem hx) hw
         have hcheck:checkS (withS h n 0)=0:=by
          have:=check_with hck hn hd (by rw [hst];decide) fun k hk hdk ⟨x,hx,_⟩=>absurd (List.length_pos_of_mem hx) hw
          rwa [hst] at this
         repeat' (first|(with_reducible first|(apply St.o;constructor)<;>intro _|refine ai ?_|(apply Sq.o;constructor))|((with_reducible apply Sc.o true;constructor);simp only [lP,seval,e1,accC,hd,pa_accs];refine ⟨_,h18,?_⟩;rintro _ _ ⟨rfl,rfl⟩;simp only [lA,lP,seval,e1,accC,hd,pa_accs])|((with_reducible apply Sc.o false;constructor);simp only [lP,seval,e1,accC,hd,pa_accs];refine ⟨_,h69,?_⟩;rintro _ _ ⟨rfl,rfl⟩;simp only [lA,lP,seval,e1,accC,hd,pa_accs])|simp (disch:=omega) only [lE,seval,e1,accC,hd,pa_accs])
         all_goals try (exfalso;omega)
         all_goals try (exfalso;omega)
         . refine any_i [2] ?_
           have g1:=accs_get hn
           have g2:((doneS h n).map accA)[n]?=_:=accs_get (by rw [doneS_len];exact hn)
           have ep1:∀ {m N d c},epR E.P m N (some (.arr 43 6 (h.map accA))) (n:Int) h.length 2 6 d c=rK E.P m N c d (.ep 2 6 n 0):=epR_ne (by simp) (by omega) (by omega)
           have ep2:∀ {m N d c},epR E.P m N (some (.arr 43 6 ((doneS h n).map accA))) (n:Int) h.length 2 6 d c=rK E.P m N c d (.ep 2 6 n 0):=epR_ne (by simp [doneS_len]) (by omega) (by omega)
           repeat' (first|(with_reducible apply St.o;constructor) <;> intro _|(with_reducible first|refine ai ?_|(apply Sp.o;constructor)|refine mkl_own ?_|refine ap_own ?_|refine base0_i ?_|refine any00_i ?_)|simp (disch:=omega) only [lE,seval,renL_accs,ep1,ep2,g1,g2,st_done hn,st_with hn])
           have hw':h.length=((withS h n 0).map accA).length:=by simp [withS_len]
           have hv:∀ {H l m},vwS none (some (.arr 43 6 ((withS h n 0).map accA))) H l (m+1) 6 h.length=.view 6 ((withS h n 0).map accA):=by
            intro H l m
            rw [vwS_arr hw',vw_accs]
           refine frz_i (fr':=[(0,.view 6 (h.map accA)),(3,.op 0 0),(7,.int .i64 0),(13,.view 6 ((withS h n 0).map accA))]) (H':=[.box [.int .i64 n]]) (ent [0] true (by simp only [lP,seval,hv]<;>(try simp)<;>(try omega)) (by simp only [lP,seval,hv]<;>(try simp)<;>(try omega))) ?_
           have hcw:checkS (withS h n 0)=0:=hcheck
           have k1:=c68 (withS h n 0)
           have k2:=c69 (withS h n 0) (by rw [withS_len];exact hlen) 70 [] [.vp [.int .i64 n]] _ (Pred3_70 n)
           simp only [hcw,if_true,graphA] at k1
           repeat' (first|(with_reducible first|(apply St.o;constructor)<;>intro _|refine ai ?_|(apply Sq.o;constructor))|((with_reducible apply Sc.o false;constructor);simp only [lP,seval];refine ⟨_,k1,?_⟩;rintro _ _ ⟨rfl,rfl⟩;simp only [lA,lP,seval])|simp (disch:=omega) only [lE,seval])
           refine callN_i [] true (by simp) (by simp) ?_
           simp only [lP,seval]
           simp only [graphA] at k2
           refine ⟨_,k2,?_⟩
           rintro _ _ ⟨⟨t,ht,rfl⟩,rfl⟩
           rcases t with _ | ⟨a,b,c⟩
           . simp only [tripA,lP,seval,lA,seval]
             repeat' (first|(with_reducible first|(apply St.o;constructor)<;>intro _|refine ai ?_|(apply Sq.o;constructor))|simp (disch:=omega) only [lE,seval,ti121])
             have hnd:¬ DangW h n:=by
              rintro ⟨a,b,c,ha,hb,hc,hd,he⟩
              exact ht a b c (by rwa [withS_len]) (by rwa [withS_len]) (by rwa [withS_len]) ⟨by rw [hst] at hd;exact hd,he⟩
             rw [admitN_ok hsl hlost fun hh=>hnd hh.2]
             refine keep0_i ?_
             simp [admitA,hst,lP,seval]
           . simp only [tripA,lP,seval,lA,seval]
             repeat' (first|(with_reducible first|(apply St.o;constructor)<;>intro _|refine ai ?_|(apply Sq.o;constructor))|simp (disch:=omega) only [lE,seval,ti121])
             obtain ⟨t1,t2,t3,t4,_⟩:=ht
             rw [withS_len] at t1 t2 t3
             rw [admitN_dang hsl hlost (by assumption) ⟨a,b,c,t1,t2,t3,by rw [hst];exact t4.1,t4.2⟩]
             refine keep0_i ?_
             simp [admitA,lP,seval]
         . rw [admitN_ok hsl hlost fun hh=>absurd hh.1 (by assumption)]
           refine keep0_i ?_
           simp [admitA,hst,lP,seval]
   . have hs:admitS h i=(0,1):=by simp only [admitS];rw [if_neg (by simp [hck]),if_pos (by omega)]
     repeat' (first|(with_reducible first|(apply St.o;constructor)<;>intro _|refine ai ?_|(apply Sq.o;constructor))|((with_reducible apply Sc.o true;constructor);simp only [lP,seval,pa_accs];refine ⟨_,h18,?_⟩;rintro _ _ ⟨rfl,rfl⟩;simp only [lA,lP,seval,pa_accs])|((with_reducible refine keep0_i ?_);simp only [lP,seval])|simp (disch:=omega) only [lE,seval,pa_accs])
     all_goals try (exfalso;omega)
     all_goals try (exfalso;omega)
     all_goals simp [hs,admitA]
 . have hs:admitS h i=(0,checkS h):=by simp [admitS,hck]
   repeat' (first|(with_reducible first|(apply St.o;constructor)<;>intro _|refine ai ?_|(apply Sq.o;constructor))|((with_reducible apply Sc.o true;constructor);simp only [lP,seval,pa_accs];refine ⟨_,h18,?_⟩;rintro _ _ ⟨rfl,rfl⟩;simp only [lA,lP,seval,pa_accs])|((with_reducible refine keep0_i ?_);simp only [lP,seval])|simp (disch:=omega) only [lE,seval,pa_accs])
   all_goals try (exfalso;omega)
   all_goals try (exfalso;omega)
   all_goals simp [hs,admitA]
theorem meet_any {a b:List Int}:(a.any fun x=>b.contains x)=true↔Meet a b:=by
 simp [Meet]
instance (a b:List Int):Decidable (Meet a b):=decidable_of_iff _ meet_any
theorem asc_iff {l:List Int}:(∀ j,j<l.length - 1->l.getD j 0<l.getD (j+1) 0)↔Asc l :=
 ⟨fun h j hj=>h j (by omega),fun h j hj=>h j (by omega)⟩
instance (l:List Int):Decidable (Asc l):=decidable_of_iff _ asc_iff
instance (x:Acc):Decidable x.Formed:=by unfold Acc.Formed;infer_instance
instance (x y:Acc):Decidable (Clash1 x y):=by unfold Clash1;infer_instance
instance (x y:Acc):Decidable (AntiE x y):=by unfold AntiE;infer_instance
instance (x y:Acc):Decidable (PlainE x y):=by unfold PlainE;infer_instance
instance (h:List Acc) (i j:Nat):Decidable (Anti h i j):=by unfold Anti;infer_instance
instance (h:List Acc) (i j:Nat):Decidable (Edge h i j):=by unfold Edge;infer_instance
instance (h:List Acc) (a b c:Nat):Decidable (Dang h a b c):=by unfold Dang;infer_instance
theorem check_of {h:List Acc} (h1:h.length<=100) (h2:∀ i,i<h.length->((at' h i).reads.length<=64/\(at' h i).writes.length<=64)/\(at' h i).Formed)
 (h3:∀ i,i<h.length->∀ j,j<i->¬ ((at' h j).stamp=(at' h i).stamp/\0<(at' h i).stamp)/\¬ Clash1 (at' h i) (at' h j)):checkS h=0:=by
 rw [check_zero]
 refine ⟨?_,?_,?_⟩
 . rintro (hb | ⟨i,hi,hb⟩)
   . omega
   . have:=(h2 i hi).1;omega
 . rintro (⟨i,hi,hb⟩ | ⟨i,j,hij,hj,hb⟩)
   . exact hb (h2 i hi).2
   . exact (h3 j hj i hij).1 hb
 . rintro ⟨i,j,hji,hi,hc⟩
   exact (h3 i hi j hji).2 hc
theorem safe_iff {h:List Acc} {s:Int}:SafeS h s↔checkS h=0/\(0<=s/\s<=1073741824)/\(∀ i,i<h.length->¬ ((at' h i).done=false/\(at' h i).mode≠2/\(at' h i).snap<s)) /\
 ∀ i,i<h.length->∀ j,j<h.length->¬ (Anti h i j/\s<(at' h i).stamp/\(at' h j).stamp<=s):=by
 constructor
 . rintro ⟨h1,h2,h3,h4,h5⟩
   exact ⟨h1,⟨h2,h3⟩,h4,fun i hi j hj hb=>h5 ⟨(i,j),mem_pairsTo.2 ⟨hi,hj,hb.1⟩,hb.2⟩⟩
 . rintro ⟨h1,⟨h2,h3⟩,h4,h5⟩
   refine ⟨h1,h2,h3,h4,?_⟩
   rintro ⟨⟨i,j⟩,hp,hs⟩
   obtain ⟨a,b,c⟩:=mem_pairsTo.1 hp
   exact h5 i a j b ⟨c,hs⟩
open Classical
structure OnceO (h:List Acc) (order:List Int) (ol:List Nat):Prop where
 eq:order=natL ol
 nodup:ol.Nodup
 mem:∀ i,i ∈ ol↔(i<h.length/\(at' h i).done=true)
open Classical
def FwdO (h:List Acc) (ol:List Nat):Prop:=∀ a b,Edge h a b->∃ i j,i<j/\j<ol.length/\ol.getD i 0=a/\ol.getD j 0=b
end Go.Proofs.Try
