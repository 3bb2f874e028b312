/-
 A part of the proof.
-/
import Derived.Test.YtfhoeghdioofmaaGreatKii
import Derived.Test.YtfhoeghdioofmaaGreatKdd
set_option linter.unusedSimpArgs false
set_option linter.unusedVariables false
namespace Go.Proofs.Try
open Go.Proofs.Tryz
open Go.Al
set_option maxRecDepth 100000
abbrev q16_0:MI:=oI 4 0
def mc16:MC:=(sO [pK 3 1,(none,q16_0),pI 5 0] (.seq (sO [pM 16 0,pV 17 15 16,pM 6 17] (sO [pM 18 6,pD 19 18 0] (.cond 19 (sO [pM 20 6,(none,q16_0),pM 5 20] .ret) .skip))) (.seq (sO [pL 21 3,(none,.v (.bin 22 .lss false (.t 21) (.c (.int .i64 0)))),pM 23 22,gF 23 (oL 24 3),gF 23 (oM 25 0),gF 23 (oG 26 25),(some (23,false),.v (.bin 27 .geq false (.t 24) (.t 26))),pO 28 23 27,pM 29 28,gF 29 (oM 30 0),gF 29 (oL 31 3),gF 29 (oQ 32 6 30 31),gF 29 (oF 33 2 32),gF 29 (oL 34 33),pO 35 29 34] (.cond 35 (sO [(none,q16_0),pI 5 1] .ret) .skip)) (sO [pI 7 0] (.seq (sO [pM 36 0,pL 37 3,pQ 38 6 36 37,pR 39 6 38,(none,.e (.alloc 8 z0)),pS 6 8 39] (sO [pF 40 5 8,pL 41 40,pG 42 41,(none,.v (.bin 43 .gtr false (.t 42) (.c (.int .i64 0))))] (.cond 43 (sO [pF 44 5 8,pL 45 44,pV 46 63 45,pM 9 46] (sO [(none,.v (.mov 10 (.c (.bool true))))] (.seq (sO [pM 47 0,pG 48 47,pI 49 0] (.block 0 (.loop (sO [pB 50 49 48] (.seq (.cond 50 .skip (.exit 0)) (.seq (.block 1 (sO [pQ 51 6 47 49,pR 52 6 51,(none,.e (.alloc 12 z0)),pS 6 12 52] (sO [pM 53 7,pF 54 3 12,pL 55 54,pF 56 1 12,pL 57 56,(none,.v (.max 58 [.t 53,.t 55,.t 57])),pM 7 58] (.ops [pM 59 10,pM 60 59,gT 60 (oR 61 6 12),gT 60 (oV 62 64 61),gT 60 (oM 63 62),gT 63 (oF 64 3 12),gT 63 (oL 65 64),gT 63 (oF 66 1 8),gT 63 (oL 67 66),(some (63,true),.v (.bin 68 .gtr false (.t 65) (.t 67))),gT 60 (oP 69 63 68),gT 60 (oM 70 69),gT 70 (oM 71 9),gT 70 (oF 72 5 12),gT 70 (oL 73 72),gT 70 (oW 74 66 71 73),gT 60 (oP 75 70 74),gT 60 (oN 76 75),pP 77 60 76,pM 10 77])))) (.ops [pA 78 49 1,pM 49 78]))))))) (sO [pM 79 7,pA 80 79 1,pM 7 80] (.seq (sO [pM 81 7,(none,.v (.bin 82 .gtr false (.t 81) (.c (.int .i64 1073741824))))] (.cond 82 (sO [(none,q16_0),pI 5 2] .ret) .skip)) (sO [pM 83 10,pN 84 83] (.cond 84 (sO [(none,q16_0),pI 5 271] .ret) .skip))))))) .skip))) (.seq (sO [pM 85 0,pL 86 3,pQ 87 6 85 86,pF 88 0 87,pL 89 88,pE 90 89 1] (.cond 90 (sO [pM 91 0,pV 92 67 91,pM 13 92] (.seq (.any true (yO (oM 93 13) (yO (oL 94 3) (yO (oM 95 13) (yO (oL 96 3) (yO (oM 97 7) (yO (oQ 98 6 93 94) (yO (oF 99 2 98) (yA (.e (.store 1 false (.t 99) (.c (.bool true)))) (yO (oQ 100 6 95 96) (yO (oF 101 3 100) (yA (.e (.store 1 false (.t 101) (.t 97))) .done .stop))) .stop))))))))) (sO [pM 103 13,pV 104 68 103,(none,.v (.fn 105 (.func 70) [] [.t 3])),pW 106 69 104 105,pM 102 106,pX 107 0 102,pX 108 1 102,(none,.e (.alloc 14 [.int .i64 0,.int .i64 0,.int .i64 0])),pS 3 14 107,pM 15 108] (sO [pM 109 15] (.cond 109 (sO [(none,q16_0),pI 5 272] .ret) .skip))))) .skip)) (sO [pM 110 7,pM 4 110,pI 5 0] .ret)))))))
theorem ok16:FnOk E 16 111 [.tmp 4,.tmp 5] mc16:=ofk func16
open Classical
set_option maxHeartbeats 16000000
theorem renL_accs {ρ:Nat->Nat} {xs:List Acc}:renL ρ (xs.map accA)=xs.map accA:=renL_map (fun x=>by simp [accA_eq,ren,renL,renL_ints]) xs
theorem Pred3_70 (n:Nat):Pred3 70 [] [.vp [.int .i64 n]] (fun a b c=>a=n\/b=n\/c=n) where
 calls:=fun a b c=>(c70 a b c n).mono fun r H ⟨h1,h2⟩=>⟨by rw [h1];congr,h2⟩
 first:=fun _ _ _ _=>rfl
 caps:=fun _ _ _ n=>by cases n <;> rfl
theorem lastTo_le {h:List Acc} (hc:checkS h=0):∀ {m:Nat},m<=h.length->lastTo h m<=1073741824
 | 0,_=>by simp [lastTo]
 | m+1,hm=>by
   have:=lastTo_le hc (m:=m) (by omega);obtain ⟨f1,f2,f3,f4,f5,f6,f7,f8,f9⟩:=check_formed hc m (by omega);simp only [lastTo]
   have:(at' h m).stamp<=1073741824:=by
    by_cases hw:(at' h m).writer=true
    . exact (f8 hw).2
    . have:=f9 (by simpa using hw);omega
   omega
theorem lastS_le {h:List Acc} (hc:checkS h=0):lastS h<=1073741824:=lastTo_le hc (Nat.le_refl _)
def LostW (h:List Acc) (n:Nat):Prop:=∃ k,k<h.length/\(at' h k).done=true/\Meet (at' h n).writes (at' h k).writes/\(at' h n).snap<(at' h k).stamp
def DangW (h:List Acc) (n:Nat):Prop:=∃ a b c,a<h.length/\b<h.length/\c<h.length/\Dang (withS h n (stampS h n)) a b c/\(a=n\/b=n\/c=n)
noncomputable def admitN (h:List Acc) (n:Nat):Int × Int :=
 if 1073741824<stampS h n then (0,2) else if LostW h n then (0,271) else if (at' h n).mode=1/\DangW h n then (0,272) else (stampS h n,0)
noncomputable def admitS (h:List Acc) (i:Int):Int × Int :=
 if checkS h≠0 then (0,checkS h) else if ¬ (0<=i/\i<h.length/\(at' h i.toNat).done=false) then (0,1) else admitN h i.toNat
def admitA (p:Int × Int):AV:=.tup [.int .i64 p.1,.int .i64 p.2]
theorem admitN_ok {h:List Acc} {n:Nat} (h1:¬ 1073741824<stampS h n) (h2:¬ LostW h n) (h3:¬ ((at' h n).mode=1/\DangW h n)):admitN h n=(stampS h n,0):=by
 rw [admitN,if_neg h1,if_neg h2,if_neg h3]
theorem admitN_dang {h:List Acc} {n:Nat} (h1:¬ 1073741824<stampS h n) (h2:¬ LostW h n) (h3:(at' h n).mode=1) (h4:DangW h n):admitN h n=(0,272):=by
 rw [admitN,if_neg h1,if_neg h2,if_pos ⟨h3,h4⟩]
def Lost1 (h:List Acc) (n k:Nat):Prop:=(at' h k).writer=true/\(at' h n).snap<(at' h k).stamp/\Meet (at' h n).writes (at' h k).writes
theorem lost_iff {h:List Acc} {n:Nat}:(∀ j,j<h.length->¬ Lost1 h n j)↔¬ LostW h n:=by
 constructor
 . rintro hh ⟨k,hk,hd,hm,hs⟩;refine hh k hk ⟨?_,hs,hm⟩;obtain ⟨x,_,hx⟩:=hm;simp only [Acc.writer,hd,List.length_pos_of_mem hx,decide_true,Bool.and_self]
 . rintro hh j hj ⟨h1,h2,h3⟩;exact hh ⟨j,hj,by simp only [Acc.writer,Bool.and_eq_true] at h1;exact h1.1,h3,h2⟩
theorem forall_lt_succ {p:Nat->Prop} {k:Nat}:(∀ j,j<k+1->p j)↔(∀ j,j<k->p j)/\p k :=
 ⟨fun h=>⟨fun j hj=>h j (by omega),h k (by omega)⟩,fun ⟨h1,h2⟩ j hj=>by
   by_cases e:j=k
   . subst e;exact h2
   . exact h1 j (by omega)⟩
theorem c16 (h:List Acc) (i:Int):ACalls E.P 16 [.view 6 (h.map accA),.int .i64 i] [] (fun r H=>r=admitA (admitS h i)/\H=[]):=by
 have hmax:=maxLen_eq;refine zk ok16 fun N hN=>?_;unfold mc16 q16_0 z0 pK pI pM pV pD pL pO pQ pR pS pF pG pB pP pA pN pE pW pX gF gT oM oI oL oR oF oP oN oG oQ oV oW sO yO yA;have h18:=c15 h;by_cases hck:checkS h=0
 . by_cases hi:0<=i/\i<h.length
   . obtain ⟨n,rfl⟩:=Int.eq_ofNat_of_zero_le hi.1;have hn:n<h.length:=(by omega);have e1:∀ {m N d k},IdxR E.P m N (h.map accA) (n:Int) d k=rK E.P m N k d (.vp (accC (at' h n))):=IdxR_at hn
     cases hd:(at' h n).done with
     | true =>
       have hs:admitS h n=(0,1):=by simp only [admitS,Int.toNat_natCast];rw [if_neg (by simp [hck]),if_pos (fun hh=>by rw [hd] at hh;cases hh.2.2)]
       repeat' (first|(with_reducible first|(apply zS;constructor)<;>intro _|refine ai ?_|(apply zQ;constructor))|((with_reducible apply zC;constructor);simp only [lP,seval,e1,accC,hd,pa_accs];refine ⟨_,h18,?_⟩;rintro _ _ ⟨rfl,rfl⟩;simp only [lA,lP,seval,e1,accC,hd,pa_accs])|((with_reducible refine keep0_i ?_);simp only [lP,seval])|simp (disch:=omega) only [lE,seval,e1,accC,hd,pa_accs])
       all_goals try omega
       all_goals try omega
       all_goals simp [hs,admitA]
     | false =>
       have hs:admitS h n=admitN h n:=(by simp only [admitS,Int.toNat_natCast];rw [if_neg (by simp [hck]),if_neg (fun hh=>hh ⟨by omega,by omega,hd⟩)]);rw [hs];have hfm:(at' h n).Formed:=check_formed hck n hn;have hne:h≠[]:=(by rintro rfl;simp at hn);have hlen:=checkS_len hck;have h69:=c67 h hne hlen;have hll:=lastS_le hck;by_cases hw:0<(at' h n).writes.length
       . have hst:stampS h n=lastS h+1:=(by simp only [stampS,if_pos hw]);have h44:=c63 (at' h n).writes;repeat' (first|(with_reducible first|(apply zS;constructor)<;>intro _|refine ai ?_|(apply zQ;constructor))|((with_reducible apply zC;constructor);simp only [lP,seval,e1,accC,hd,pa_accs,renL_trues,novL_trues];(first|(refine ⟨_,h18,?_⟩;rintro _ _ ⟨rfl,rfl⟩)|(refine ⟨_,h44,?_⟩;rintro _ _ ⟨rfl,ws,wb,wc,rfl,hws⟩));simp only [lA,lP,seval,e1,accC,hd,pa_accs,renL_trues,novL_trues])|simp (disch:=omega) only [lE,seval,e1,accC,hd,pa_accs,renL_trues,novL_trues])
         all_goals try omega
         all_goals try omega
         refine loop_i (fun k:Nat=>k<=h.length) (fun k=>⟨[(0,.view 6 (h.map accA)),(3,.op 0 0),(7,.int .i64 (lastTo h k)),(8,.op 1 0),(9,.mp 2),(10,.bool (decide (∀ j,j<k->¬ Lost1 h n j))),(47,.view 6 (h.map accA)),(48,.int .i64 h.length),(49,.int .i64 k)],
          [.box [.int .i64 n],.box (accC (at' h n)),.map (ws.map (AV.int .i64)) (ws.map fun _=>AV.bool true) wb wc]⟩) (fun k=>h.length - k) 0 (by omega) (ent [0,1,2] false (by simp only [lP,seval,pa_accs,pa_trues,lastTo]<;>(try simp)) (by simp only [lP,seval,pa_trues,accC,hd])) ?_
         intro k hk;by_cases hkn:k<h.length
         . have e2:∀ {m N d c},IdxR E.P m N (h.map accA) (k:Int) d c=rK E.P m N c d (.vp (accC (at' h k))):=IdxR_at hkn;have h45:=c64 (at' h k);have h47:∀ l,ACalls E.P 66 [setA ws,.view 1 (l.map (AV.int .i64))] [] (fun r H=>r=.bool (decide (Meet (at' h n).writes l))/\H=[]):=fun l=>(c66 ws l).mono fun r H ⟨h1,h2⟩=>⟨by rw [h1];congr 1;simp only [Meet,hws,and_comm],h2⟩;have hml:=lastTo_le hck (m:=k) hk;simp only [accA_eq,setA] at h45 h47;have hL:(∀ j,j<k+1->¬ Lost1 h n j)↔(∀ j,j<k->¬ Lost1 h n j)/\¬ Lost1 h n k:=forall_lt_succ;have hl1:Lost1 h n k↔((at' h k).writer=true/\(at' h n).snap<(at' h k).stamp/\Meet (at' h n).writes (at' h k).writes):=Iff.rfl;repeat' (first|(with_reducible first|(apply zS;constructor)<;>intro _|refine ai ?_|(apply zQ;constructor))|((with_reducible apply zC;constructor);simp only [lP,seval,e2,accC,vw_trues,hd];(first|refine ⟨_,h45,?_⟩|refine ⟨_,h47 _,?_⟩);rintro _ _ ⟨rfl,rfl⟩;simp only [lA,lP,seval,e2,accC,vw_trues,hd])|simp (disch:=omega) only [lE,seval,e2,accC,vw_trues,hd])
           all_goals try omega
           all_goals try omega
           all_goals clear e1 e2 h45 h47 h18 h69 h44
           all_goals refine back_i (k+1) (by omega) (by omega) (ent [0,1,2] false (by simp only [lP,seval,pa_accs,pa_trues,lastTo,max3,hL,hl1]<;>(try simp only [true_and,and_true]) <;> (clear hL hl1;refine ⟨congrArg AV.bool (Bool.eq_iff_iff.2 ?_),by simp⟩;simp only [decide_eq_true_eq,Bool.not_eq_true',decide_eq_false_iff_not,Bool.false_eq_true,true_iff,false_iff];generalize (∀ j,j<k->¬ Lost1 h n j)=W at *;generalize Meet (at' h n).writes (at' h k).writes=M at *;clear hws hfm hs;first | grind | (simp_all;done))) (by simp only [lP,seval,pa_trues,accC,hd]))
         . have e:k=h.length:=(by omega);subst e;have hW:(∀ j,j<h.length->¬ Lost1 h n j)↔¬ LostW h n:=lost_iff
           have hwr:IntKind.i64.wrap (lastTo h h.length+1)=lastS h+1:=by
            have:=lastTo_ge (h:=h) (m:=h.length);rw [wrap_i64 (by omega) (by simp only [lastS] at hll;omega)];rfl
           repeat' (first|(with_reducible first|(apply zS;constructor)<;>intro _|refine ai ?_|(apply zQ;constructor))|((with_reducible apply zF;constructor);simp only [lP,seval,e1,accC,hd,pa_accs,hW,hwr];refine ⟨_,h69,?_⟩;rintro _ _ ⟨rfl,rfl⟩;simp only [lA,lP,seval,e1,accC,hd,pa_accs,hW,hwr])|simp (disch:=omega) only [lE,seval,e1,accC,hd,pa_accs,hW,hwr])
           all_goals try omega
           all_goals try omega
           . rename_i hbig;refine keep0_i ?_;simp only [lP,seval];rw [admitN,if_pos (by omega)];simp [admitA]
           . rename_i hbig hlo;refine keep0_i ?_;simp only [lP,seval];rw [admitN,if_neg (by omega),if_pos (Classical.not_not.1 hlo)];simp [admitA]
           all_goals
            have hsl:¬ 1073741824<stampS h n:=(by omega);have hlost:¬ LostW h n:=by assumption
            have hcheck:checkS (withS h n (lastS h+1))=0:=by
             have:=check_with hck hn hd (by omega) fun k hk hdk hmt=>Classical.byContradiction fun hgt=>hlost ⟨k,hk,hdk,hmt,by omega⟩
             rwa [hst] at this
           all_goals try omega
           . refine any_i [3] ?_;have g1:=accs_get hn;have g2:((doneS h n).map accA)[n]?=_:=accs_get (by rw [doneS_len];exact hn);have ep1:∀ {m N d c},epR E.P m N (some (.arr 43 6 (h.map accA))) (n:Int) h.length 3 6 d c=rK E.P m N c d (.ep 3 6 n 0):=epR_ne (by simp) (by omega) (by omega);have ep2:∀ {m N d c},epR E.P m N (some (.arr 43 6 ((doneS h n).map accA))) (n:Int) h.length 3 6 d c=rK E.P m N c d (.ep 3 6 n 0):=epR_ne (by simp [doneS_len]) (by omega) (by omega);repeat' (first|(with_reducible apply zS;constructor) <;> intro _|(with_reducible first|refine ai ?_|(apply zP;constructor)|refine mkl_own ?_|refine ap_own ?_|refine base0_i ?_|refine any00_i ?_)|simp (disch:=omega) only [lE,seval,renL_accs,ep1,ep2,g1,g2,st_done hn,st_with hn])
             have hw':h.length=((withS h n (lastS h+1)).map accA).length:=by simp [withS_len]
             have hv:∀ {H l m},vwS none (some (.arr 43 6 ((withS h n (lastS h+1)).map accA))) H l (m+1) 6 h.length=.view 6 ((withS h n (lastS h+1)).map accA):=by
              intro H l m;rw [vwS_arr hw',vw_accs]
             refine frz_i (fr':=[(0,.view 6 (h.map accA)),(3,.op 0 0),(7,.int .i64 (lastS h+1)),(13,.view 6 ((withS h n (lastS h+1)).map accA))]) (H':=[.box [.int .i64 n]]) (ent [0] true (by simp only [lP,seval,hv]<;>(try simp)<;>(try omega)) (by simp only [lP,seval,hv]<;>(try simp)<;>(try omega))) ?_;have hcw:checkS (withS h n (lastS h+1))=0:=hcheck;have k1:=c68 (withS h n (lastS h+1));have k2:=c69 (withS h n (lastS h+1)) (by rw [withS_len];exact hlen) 70 [] [.vp [.int .i64 n]] _ (Pred3_70 n);simp only [hcw,if_true,graphA] at k1;repeat' (first|(with_reducible first|(apply zS;constructor)<;>intro _|refine ai ?_|(apply zQ;constructor))|((with_reducible apply zF;constructor);simp only [lP,seval];refine ⟨_,k1,?_⟩;rintro _ _ ⟨rfl,rfl⟩;simp only [lA,lP,seval])|simp (disch:=omega) only [lE,seval])
             refine callN_i [] true (by simp) (by simp) ?_;simp only [lP,seval];simp only [graphA] at k2;refine ⟨_,k2,?_⟩;rintro _ _ ⟨⟨t,ht,rfl⟩,rfl⟩;rcases t with _ | ⟨a,b,c⟩
             . simp only [tripA,lP,seval,lA,seval];repeat' (first|(with_reducible first|(apply zS;constructor)<;>intro _|refine ai ?_|(apply zQ;constructor))|simp (disch:=omega) only [lE,seval,ti121])
               have hnd:¬ DangW h n:=by
                rintro ⟨a,b,c,ha,hb,hc,hd,he⟩;exact ht a b c (by rwa [withS_len]) (by rwa [withS_len]) (by rwa [withS_len]) ⟨by rw [hst] at hd;exact hd,he⟩
               rw [admitN_ok hsl hlost fun hh=>hnd hh.2];refine keep0_i ?_;simp [admitA,hst,lP,seval]
             . simp only [tripA,lP,seval,lA,seval];repeat' (first|(with_reducible first|(apply zS;constructor)<;>intro _|refine ai ?_|(apply zQ;constructor))|simp (disch:=omega) only [lE,seval,ti121])
               obtain ⟨t1,t2,t3,t4,_⟩:=ht;rw [withS_len] at t1 t2 t3;rw [admitN_dang hsl hlost (by assumption) ⟨a,b,c,t1,t2,t3,by rw [hst];exact t4.1,t4.2⟩];refine keep0_i ?_;simp [admitA,lP,seval]
           . rw [admitN_ok hsl hlost fun hh=>absurd hh.1 (by assumption)];refine keep0_i ?_;simp [admitA,hst,lP,seval]
       . have hst:stampS h n=0:=(by simp only [stampS,if_neg hw]);have hsl:¬ 1073741824<stampS h n:=(by omega);have hlost:¬ LostW h n:=fun ⟨k,_,_,⟨x,hx,_⟩,_⟩=>absurd (List.length_pos_of_mem hx) hw
         have hcheck:checkS (withS h n 0)=0:=by
          have:=check_with hck hn hd (by rw [hst];decide) fun k hk hdk ⟨x,hx,_⟩=>absurd (List.length_pos_of_mem hx) hw
          rwa [hst] at this
         repeat' (first|(with_reducible first|(apply zS;constructor)<;>intro _|refine ai ?_|(apply zQ;constructor))|((with_reducible apply zC;constructor);simp only [lP,seval,e1,accC,hd,pa_accs];refine ⟨_,h18,?_⟩;rintro _ _ ⟨rfl,rfl⟩;simp only [lA,lP,seval,e1,accC,hd,pa_accs])|((with_reducible apply zF;constructor);simp only [lP,seval,e1,accC,hd,pa_accs];refine ⟨_,h69,?_⟩;rintro _ _ ⟨rfl,rfl⟩;simp only [lA,lP,seval,e1,accC,hd,pa_accs])|simp (disch:=omega) only [lE,seval,e1,accC,hd,pa_accs])
         all_goals try omega
         all_goals try omega
         . refine any_i [2] ?_;have g1:=accs_get hn;have g2:((doneS h n).map accA)[n]?=_:=accs_get (by rw [doneS_len];exact hn);have ep1:∀ {m N d c},epR E.P m N (some (.arr 43 6 (h.map accA))) (n:Int) h.length 2 6 d c=rK E.P m N c d (.ep 2 6 n 0):=epR_ne (by simp) (by omega) (by omega);have ep2:∀ {m N d c},epR E.P m N (some (.arr 43 6 ((doneS h n).map accA))) (n:Int) h.length 2 6 d c=rK E.P m N c d (.ep 2 6 n 0):=epR_ne (by simp [doneS_len]) (by omega) (by omega);repeat' (first|(with_reducible apply zS;constructor) <;> intro _|(with_reducible first|refine ai ?_|(apply zP;constructor)|refine mkl_own ?_|refine ap_own ?_|refine base0_i ?_|refine any00_i ?_)|simp (disch:=omega) only [lE,seval,renL_accs,ep1,ep2,g1,g2,st_done hn,st_with hn])
           have hw':h.length=((withS h n 0).map accA).length:=by simp [withS_len]
           have hv:∀ {H l m},vwS none (some (.arr 43 6 ((withS h n 0).map accA))) H l (m+1) 6 h.length=.view 6 ((withS h n 0).map accA):=by
            intro H l m;rw [vwS_arr hw',vw_accs]
           refine frz_i (fr':=[(0,.view 6 (h.map accA)),(3,.op 0 0),(7,.int .i64 0),(13,.view 6 ((withS h n 0).map accA))]) (H':=[.box [.int .i64 n]]) (ent [0] true (by simp only [lP,seval,hv]<;>(try simp)<;>(try omega)) (by simp only [lP,seval,hv]<;>(try simp)<;>(try omega))) ?_;have hcw:checkS (withS h n 0)=0:=hcheck;have k1:=c68 (withS h n 0);have k2:=c69 (withS h n 0) (by rw [withS_len];exact hlen) 70 [] [.vp [.int .i64 n]] _ (Pred3_70 n);simp only [hcw,if_true,graphA] at k1;repeat' (first|(with_reducible first|(apply zS;constructor)<;>intro _|refine ai ?_|(apply zQ;constructor))|((with_reducible apply zF;constructor);simp only [lP,seval];refine ⟨_,k1,?_⟩;rintro _ _ ⟨rfl,rfl⟩;simp only [lA,lP,seval])|simp (disch:=omega) only [lE,seval])
           refine callN_i [] true (by simp) (by simp) ?_;simp only [lP,seval];simp only [graphA] at k2;refine ⟨_,k2,?_⟩;rintro _ _ ⟨⟨t,ht,rfl⟩,rfl⟩;rcases t with _ | ⟨a,b,c⟩
           . simp only [tripA,lP,seval,lA,seval];repeat' (first|(with_reducible first|(apply zS;constructor)<;>intro _|refine ai ?_|(apply zQ;constructor))|simp (disch:=omega) only [lE,seval,ti121])
             have hnd:¬ DangW h n:=by
              rintro ⟨a,b,c,ha,hb,hc,hd,he⟩;exact ht a b c (by rwa [withS_len]) (by rwa [withS_len]) (by rwa [withS_len]) ⟨by rw [hst] at hd;exact hd,he⟩
             rw [admitN_ok hsl hlost fun hh=>hnd hh.2];refine keep0_i ?_;simp [admitA,hst,lP,seval]
           . simp only [tripA,lP,seval,lA,seval];repeat' (first|(with_reducible first|(apply zS;constructor)<;>intro _|refine ai ?_|(apply zQ;constructor))|simp (disch:=omega) only [lE,seval,ti121])
             obtain ⟨t1,t2,t3,t4,_⟩:=ht;rw [withS_len] at t1 t2 t3;rw [admitN_dang hsl hlost (by assumption) ⟨a,b,c,t1,t2,t3,by rw [hst];exact t4.1,t4.2⟩];refine keep0_i ?_;simp [admitA,lP,seval]
         . rw [admitN_ok hsl hlost fun hh=>absurd hh.1 (by assumption)];refine keep0_i ?_;simp [admitA,hst,lP,seval]
   . have hs:admitS h i=(0,1):=(by simp only [admitS];rw [if_neg (by simp [hck]),if_pos (by omega)]);repeat' (first|(with_reducible first|(apply zS;constructor)<;>intro _|refine ai ?_|(apply zQ;constructor))|((with_reducible apply zC;constructor);simp only [lP,seval,pa_accs];refine ⟨_,h18,?_⟩;rintro _ _ ⟨rfl,rfl⟩;simp only [lA,lP,seval,pa_accs])|((with_reducible refine keep0_i ?_);simp only [lP,seval])|simp (disch:=omega) only [lE,seval,pa_accs])
     all_goals try omega
     all_goals try omega
     all_goals simp [hs,admitA]
 . have hs:admitS h i=(0,checkS h):=by simp [admitS,hck]
   repeat' (first|(with_reducible first|(apply zS;constructor)<;>intro _|refine ai ?_|(apply zQ;constructor))|((with_reducible apply zC;constructor);simp only [lP,seval,pa_accs];refine ⟨_,h18,?_⟩;rintro _ _ ⟨rfl,rfl⟩;simp only [lA,lP,seval,pa_accs])|((with_reducible refine keep0_i ?_);simp only [lP,seval])|simp (disch:=omega) only [lE,seval,pa_accs])
   all_goals try omega
   all_goals try omega
   all_goals simp [hs,admitA]
theorem meet_any {a b:List Int}:(a.any fun x=>b.contains x)=true↔Meet a b:=by
 simp [Meet]
instance (a b:List Int):Decidable (Meet a b):=decidable_of_iff _ meet_any
theorem asc_iff {l:List Int}:(∀ j,j<l.length - 1->l.getD j 0<l.getD (j+1) 0)↔Asc l :=
 ⟨fun h j hj=>h j (by omega),fun h j hj=>h j (by omega)⟩
instance (l:List Int):Decidable (Asc l):=decidable_of_iff _ asc_iff
instance (x:Acc):Decidable x.Formed:=by unfold Acc.Formed;infer_instance
instance (x y:Acc):Decidable (Clash1 x y):=by unfold Clash1;infer_instance
instance (x y:Acc):Decidable (AntiE x y):=by unfold AntiE;infer_instance
instance (x y:Acc):Decidable (PlainE x y):=by unfold PlainE;infer_instance
instance (h:List Acc) (i j:Nat):Decidable (Anti h i j):=by unfold Anti;infer_instance
instance (h:List Acc) (i j:Nat):Decidable (Edge h i j):=by unfold Edge;infer_instance
instance (h:List Acc) (a b c:Nat):Decidable (Dang h a b c):=by unfold Dang;infer_instance
theorem check_of {h:List Acc} (h1:h.length<=100) (h2:∀ i,i<h.length->((at' h i).reads.length<=64/\(at' h i).writes.length<=64)/\(at' h i).Formed)
 (h3:∀ i,i<h.length->∀ j,j<i->¬ ((at' h j).stamp=(at' h i).stamp/\0<(at' h i).stamp)/\¬ Clash1 (at' h i) (at' h j)):checkS h=0:=by
 rw [check_zero];refine ⟨?_,?_,?_⟩
 . rintro (hb | ⟨i,hi,hb⟩)
   . omega
   . have:=(h2 i hi).1;omega
 . rintro (⟨i,hi,hb⟩ | ⟨i,j,hij,hj,hb⟩)
   . exact hb (h2 i hi).2
   . exact (h3 j hj i hij).1 hb
 . rintro ⟨i,j,hji,hi,hc⟩;exact (h3 i hi j hji).2 hc
abbrev q119_0:MI:=oI 4 0
def mc119:MC:=(sO [(none,q119_0),pI 5 0] (sO [pM 15 0,pV 16 91 15,pM 6 16] (.seq (sO [pM 17 6,pD 18 17 0] (.cond 18 (sO [pM 19 6,(none,q119_0),pM 5 19] .ret) .skip)) (.seq (sO [pM 20 1,(none,.v (.bin 21 .lss false (.t 20) (.c (.int .i64 0)))),pM 22 21,gF 22 (oM 23 1),gF 22 (oM 24 0),gF 22 (oG 25 24),(some (22,false),.v (.bin 26 .geq false (.t 23) (.t 25))),pO 27 22 26,pM 28 27,gF 28 (oM 29 0),gF 28 (oM 30 1),gF 28 (oQ 31 6 29 30),gF 28 (oF 32 2 31),gF 28 (oL 33 32),pO 34 28 33] (.cond 34 (sO [(none,q119_0),pI 5 1] .ret) .skip)) (sO [pI 7 0] (.seq (sO [pM 35 0,pM 36 1,pQ 37 6 35 36,pF 38 5 37,pL 39 38,pG 40 39,(none,.v (.bin 41 .gtr false (.t 40) (.c (.int .i64 0))))] (.cond 41 (.ops [pM 42 0,pV 43 137 42,pA 44 43 1,pM 7 44]) .skip)) (.seq (sO [pM 45 7,(none,.v (.bin 46 .gtr false (.t 45) (.c (.int .i64 1073741824))))] (.cond 46 (sO [(none,q119_0),pI 5 2] .ret) .skip)) (.seq (sO [pI 8 0] (.block 0 (.loop (.seq (sO [pM 47 8,pM 48 0,pG 49 48,pB 50 47 49] (.cond 50 .skip (.exit 0))) (.seq (.block 1 (.seq (.any false (yO (oM 53 0) (yO (oM 54 8) (yO (oQ 55 6 53 54) (yO (oF 56 2 55) (yO (oL 57 56) (yO (oM 58 57) (.pure0 (some (58,true)) (oM 59 0) (.pure0 (some (58,true)) (oM 60 1) (.pure0 (some (58,true)) (oQ 61 6 59 60) (.pure0 (some (58,true)) (oF 62 5 61) (.pure0 (some (58,true)) (oL 63 62) (.pure0 (some (58,true)) (oM 64 0) (.pure0 (some (58,true)) (oM 65 8) (.pure0 (some (58,true)) (oQ 66 6 64 65) (.pure0 (some (58,true)) (oF 67 5 66) (.pure0 (some (58,true)) (oL 68 67) (.alt (some (58,true)) (oW 69 124 63 68) (.base (yO (oP 70 58 69) (yO (oM 9 70) .done))) .stop)))))))))))))))))) (.seq (.any false (yO (oM 71 9) (yO (oM 72 71) (.pure0 (some (72,true)) (oM 73 0) (.pure0 (some (72,true)) (oM 74 8) (.pure0 (some (72,true)) (oQ 75 6 73 74) (.pure0 (some (72,true)) (oF 76 3 75) (.pure0 (some (72,true)) (oL 77 76) (.pure0 (some (72,true)) (oM 78 0) (.pure0 (some (72,true)) (oM 79 1) (.pure0 (some (72,true)) (oQ 80 6 78 79) (.pure0 (some (72,true)) (oF 81 1 80) (.pure0 (some (72,true)) (oL 82 81) (.pure0 (some (72,true)) (.v (.bin 83 .gtr false (.t 77) (.t 82))) (yO (oP 84 72 83) .done))))))))))))))) (.cond 84 (sO [(none,q119_0),pI 5 271] .ret) .skip)))) (.ops [pM 51 8,pA 52 51 1,pM 8 52])))))) (.seq (sO [pM 85 0,pM 86 1,pQ 87 6 85 86,pF 88 0 87,pL 89 88,pE 90 89 1] (.cond 90 (sO [pM 91 0,pM 92 1,pM 93 7,(none,.e (.call (some 94) 138 [.t 91,.t 92,.t 93])),pM 10 94] (sO [pI 11 0] (.block 2 (.loop (.seq (sO [pM 95 11,pM 96 0,pG 97 96,pB 98 95 97] (.cond 98 .skip (.exit 2))) (.seq (.block 3 (sO [pI 12 0] (.block 4 (.loop (.seq (sO [pM 101 12,pM 102 0,pG 103 102,pB 104 101 103] (.cond 104 .skip (.exit 4))) (.seq (.block 5 (sO [pI 13 0] (.block 6 (.loop (.seq (sO [pM 107 13,pM 108 0,pG 109 108,pB 110 107 109] (.cond 110 .skip (.exit 6))) (.seq (.block 7 (.seq (sO [pM 113 11,pM 114 1,(none,.v (.bin 115 .neq false (.t 113) (.t 114))),pM 116 115,gT 116 (oM 117 12),gT 116 (oM 118 1),(some (116,true),.v (.bin 119 .neq false (.t 117) (.t 118))),pP 120 116 119,pM 121 120,gT 121 (oM 122 13),gT 121 (oM 123 1),(some (121,true),.v (.bin 124 .neq false (.t 122) (.t 123))),pP 125 121 124] (.cond 125 (.exit 7) .skip)) (sO [pM 126 10,pM 127 11,pM 128 12,pM 129 13,(none,.e (.call (some 130) 139 [.t 126,.t 127,.t 128,.t 129])),pM 14 130] (sO [pM 131 14] (.cond 131 (sO [(none,q119_0),pI 5 272] .ret) .skip))))) (.ops [pM 111 13,pA 112 111 1,pM 13 112]))))))) (.ops [pM 105 12,pA 106 105 1,pM 12 106]))))))) (.ops [pM 99 11,pA 100 99 1,pM 11 100]))))))) .skip)) (sO [pM 132 7,pM 4 132,pI 5 0] .ret))))))))))
theorem ok119:FnOk E 119 133 [.tmp 4,.tmp 5] mc119:=ofk func119
open Classical
theorem c119 (h:List Acc) (i:Int):ACalls E.P 119 [.view 6 (h.map accA),.int .i64 i] [] (fun r H=>r=admitA (admitS h i)/\H=[]):=by
 have hmax:=maxLen_eq;refine zk ok119 fun N hN=>?_;unfold mc119 q119_0 pI pM pV pD pO pQ pF pL pG pA pB pE pP gF gT oM oI oL oF oP oG oQ oW sO yO;have h19:=c91 h;by_cases hck:checkS h=0
 . by_cases hi:0<=i/\i<h.length
   . obtain ⟨n,rfl⟩:=Int.eq_ofNat_of_zero_le hi.1;have hn:n<h.length:=(by omega);have e1:∀ {m N d k},IdxR E.P m N (h.map accA) (n:Int) d k=rK E.P m N k d (.vp (accC (at' h n))):=IdxR_at hn
     cases hd:(at' h n).done with
     | true =>
       have hs:admitS h n=(0,1):=by simp only [admitS,Int.toNat_natCast];rw [if_neg (by simp [hck]),if_pos (fun hh=>by rw [hd] at hh;cases hh.2.2)]
       repeat' (first|(with_reducible first|(apply zS;constructor)<;>intro _|refine ai ?_|(apply zQ;constructor))|((with_reducible apply zC;constructor);simp only [lP,seval,e1,accC,hd,pa_accs];refine ⟨_,h19,?_⟩;rintro _ _ ⟨rfl,rfl⟩;simp only [lA,lP,seval,e1,accC,hd,pa_accs])|((with_reducible refine keep0_i ?_);simp only [lP,seval])|simp (disch:=omega) only [lE,seval,e1,accC,hd,pa_accs])
       all_goals try omega
       all_goals try omega
       all_goals simp [hs,admitA]
     | false =>
       have hs:admitS h n=admitN h n:=(by simp only [admitS,Int.toNat_natCast];rw [if_neg (by simp [hck]),if_neg (fun hh=>hh ⟨by omega,by omega,hd⟩)]);rw [hs];have hlen:=checkS_len hck;have hll:=lastS_le hck;have hlg:=lastS_nn (h:=h);have h71:=c137 h;have hwr:IntKind.i64.wrap (lastS h+1)=lastS h+1:=wrap_i64 (by omega) (by omega);have hst:stampS h n=if 0<(at' h n).writes.length then lastS h+1 else 0:=rfl;repeat' (first|(with_reducible first|(apply zS;constructor)<;>intro _|refine ai ?_|(apply zQ;constructor))|((with_reducible apply zC;constructor);simp only [lP,seval,e1,accC,hd,pa_accs,hwr];(first|refine ⟨_,h19,?_⟩|refine ⟨_,h71,?_⟩);rintro _ _ ⟨rfl,rfl⟩;simp only [lA,lP,seval,e1,accC,hd,pa_accs,hwr])|((with_reducible refine keep0_i ?_);simp only [lP,seval])|simp (disch:=omega) only [lE,seval,e1,accC,hd,pa_accs,hwr])
       all_goals try omega
       all_goals try omega
       . rename_i hw hbig;rw [if_pos (by omega)] at hst;rw [admitN,if_pos (by omega)];simp [admitA]
       all_goals
        have hsl:¬ 1073741824<stampS h n:=by
         rw [hst];split <;> omega
        have hst':∃ v,v=stampS h n:=⟨_,rfl⟩
        first
         | rw [if_pos (by omega)] at hst
         | rw [if_neg (by omega)] at hst
        refine loop_i (fun k:Nat=>k<=h.length/\∀ j,j<k->¬ ((at' h j).done=true/\Meet (at' h n).writes (at' h j).writes/\(at' h n).snap<(at' h j).stamp)) (fun k=>⟨[(0,.view 6 (h.map accA)),(1,.int .i64 n),(7,.int .i64 (stampS h n)),(8,.int .i64 k)],[]⟩) (fun k=>h.length - k) 0 ⟨by omega,by omega⟩ (ent [] false (by simp only [lP,seval,pa_accs,hst]<;>(try simp)<;>(try omega)) (by simp only [lP,seval,pa_accs,hst]<;>(try simp)<;>(try omega))) ?_;clear hst;rintro k ⟨hk,hno⟩;by_cases hkn:k<h.length
        . have e2:∀ {m N d c},IdxR E.P m N (h.map accA) (k:Int) d c=rK E.P m N c d (.vp (accC (at' h k))):=IdxR_at hkn;have k1:=c124 (at' h n).writes (at' h k).writes;repeat' (first|(with_reducible apply zS;constructor) <;> intro _|(with_reducible first|refine ai ?_|(apply zP;constructor)|refine mkl_own ?_|refine ap_own ?_|refine base0_i ?_|refine any00_i ?_|refine frz0_i ?_|refine any_i [] ?_)|((with_reducible apply zC;constructor);simp only [lP,seval,e1,e2,accC,pa_accs];refine ⟨_,k1,?_⟩;rintro _ _ ⟨rfl,rfl⟩;simp only [lA,lP,seval,e1,e2,accC,pa_accs])|((with_reducible refine keep0_i ?_);simp only [lP,seval])|simp (disch:=omega) only [lE,seval,e1,e2,accC,pa_accs])
          all_goals try omega
          all_goals try omega
          all_goals clear e1 e2 k1
          all_goals try simp only [decide_eq_true_eq,decide_eq_false_iff_not] at *
          all_goals first
           | (have hl:LostW h n:=⟨k,hkn,by assumption,by first | assumption | exact of_decide_eq_true (by assumption),by assumption⟩
              rw [admitN,if_neg hsl,if_pos hl];simp [admitA]
              done)
           | (refine back_i (k+1) ⟨by omega,fun j hj=>?_⟩ (by omega) (ent [] false (by simp only [lP,seval,pa_accs]<;>(try simp)<;>(try omega)) (by simp only [lP,seval,pa_accs]<;>(try simp)<;>(try omega)))
              by_cases e:j=k
              . subst e;simp_all
              . exact hno j (by omega))
        . have e:k=h.length:=(by omega);subst e;have hlost:¬ LostW h n:=fun ⟨k,h1,h2⟩=>hno k h1 h2;have h72:=c138v h n hn hlen (stampS h n);repeat' (first|(with_reducible first|(apply zS;constructor)<;>intro _|refine ai ?_|(apply zQ;constructor))|((with_reducible apply zF;constructor);simp only [lP,seval,e1,accC,pa_accs];refine ⟨_,h72,?_⟩;rintro _ _ ⟨rfl,rfl⟩;simp only [lA,lP,seval,e1,accC,pa_accs])|((with_reducible refine keep0_i ?_);simp only [lP,seval])|simp (disch:=omega) only [lE,seval,e1,accC,pa_accs])
          all_goals try omega
          all_goals try omega
          . rename_i hmode;clear h71 h19 h72 e1
            let D:=fun a b c=>Dang (withS h n (stampS h n)) a b c/\(a=n\/b=n\/c=n)
            have hyes:∀ a b c,a<h.length->b<h.length->c<h.length->D a b c->admitN h n=(0,272):=fun a b c ha hb hc hD=>admitN_dang hsl hlost hmode ⟨a,b,c,ha,hb,hc,hD.1,hD.2⟩;have hfin:NoneB D h.length h.length 0 0->admitN h n=(stampS h n,0):=fun hh=>admitN_ok hsl hlost fun ⟨_,a,b,c,ha,hb,hc,h1,h2⟩=>hh.all a b c ha hb hc ⟨h1,h2⟩;have hD:∀ a b c,D a b c↔Dang (withS h n (stampS h n)) a b c/\(a=n\/b=n\/c=n):=fun _ _ _=>Iff.rfl;generalize hh':withS h n (stampS h n)=h' at *;have hl':h'.length=h.length:=(by rw [<- hh',withS_len]);generalize stampS h n=st at *;clear hh'
            clear_value D
            refine loop_i (fun a:Nat=>a<=h.length/\NoneB D h.length a 0 0) (fun a=>⟨[(0,.view 6 (h.map accA)),(1,.int .i64 n),(7,.int .i64 st),(10,.view 6 (h'.map accA)),(11,.int .i64 a)],[]⟩) (fun a=>h.length - a) 0 ⟨by omega,.zero⟩ (ent [] false (by simp only [lP,seval,pa_accs]<;>(try simp)<;>(try omega)) (by simp only [lP,seval,pa_accs]<;>(try simp)<;>(try omega))) ?_;rintro a ⟨ha,hna⟩;by_cases han:a<h.length
            . repeat' (first|(with_reducible first|(apply zS;constructor)<;>intro _|refine ai ?_|(apply zQ;constructor))|((with_reducible refine keep0_i ?_);simp only [lP,seval])|simp (disch:=omega) only [lE,seval,pa_accs])
              all_goals try omega
              refine loop_i (fun b:Nat=>b<=h.length/\NoneB D h.length a b 0) (fun b=>⟨[(0,.view 6 (h.map accA)),(1,.int .i64 n),(7,.int .i64 st),(10,.view 6 (h'.map accA)),(11,.int .i64 a),(12,.int .i64 b)],[]⟩) (fun b=>h.length - b) 0 ⟨by omega,hna⟩ (ent [] false (by simp only [lP,seval,pa_accs]<;>(try simp)<;>(try omega)) (by simp only [lP,seval,pa_accs]<;>(try simp)<;>(try omega))) ?_;rintro b ⟨hb,hnb⟩;by_cases hbn:b<h.length
              . repeat' (first|(with_reducible first|(apply zS;constructor)<;>intro _|refine ai ?_|(apply zQ;constructor))|((with_reducible refine keep0_i ?_);simp only [lP,seval])|simp (disch:=omega) only [lE,seval,pa_accs])
                all_goals try omega
                refine loop_i (fun c:Nat=>c<=h.length/\NoneB D h.length a b c) (fun c=>⟨[(0,.view 6 (h.map accA)),(1,.int .i64 n),(7,.int .i64 st),(10,.view 6 (h'.map accA)),(11,.int .i64 a),(12,.int .i64 b),(13,.int .i64 c)],[]⟩) (fun c=>h.length - c) 0 ⟨by omega,hnb⟩ (ent [] false (by simp only [lP,seval,pa_accs]<;>(try simp)<;>(try omega)) (by simp only [lP,seval,pa_accs]<;>(try simp)<;>(try omega))) ?_;rintro c ⟨hc,hnc⟩;by_cases hcn:c<h.length
                . have k1:=c139 h' a b c (by omega) (by omega) (by omega);repeat' (first|(with_reducible first|(apply zS;constructor)<;>intro _|refine ai ?_|(apply zQ;constructor))|((with_reducible apply zC;constructor);simp only [lP,seval,pa_accs];refine ⟨_,k1,?_⟩;rintro _ _ ⟨rfl,rfl⟩;simp only [lA,lP,seval,pa_accs])|((with_reducible refine keep0_i ?_);simp only [lP,seval])|simp (disch:=omega) only [lE,seval,pa_accs])
                  all_goals try omega
                  all_goals try omega
                  all_goals clear k1
                  all_goals try simp only [decide_eq_true_eq,decide_eq_false_iff_not] at *
                  all_goals first
                   | (rw [hyes a b c han hbn hcn ((hD a b c).2 ⟨by assumption,by omega⟩)]
                      simp [admitA]
                      done)
                   | exact back_i (c+1) ⟨by omega,hnc.next fun hh=>by first | exact absurd ((hD a b c).1 hh).1 (by assumption) | (have:=((hD a b c).1 hh).2;omega)⟩ (by omega) (ent [] false (by simp only [lP,seval,pa_accs]<;>(try simp)<;>(try omega)) (by simp only [lP,seval,pa_accs]<;>(try simp)<;>(try omega)))
                . have:c=h.length:=(by omega);subst this;repeat' (first|(with_reducible first|(apply zS;constructor)<;>intro _|refine ai ?_|(apply zQ;constructor))|((with_reducible refine keep0_i ?_);simp only [lP,seval])|simp (disch:=omega) only [lE,seval,pa_accs])
                  all_goals try omega
                  all_goals try omega
                  exact back_i (b+1) ⟨by omega,hnc.row⟩ (by omega) (ent [] false (by simp only [lP,seval,pa_accs]<;>(try simp)<;>(try omega)) (by simp only [lP,seval,pa_accs]<;>(try simp)<;>(try omega)))
              . have:b=h.length:=(by omega);subst this;repeat' (first|(with_reducible first|(apply zS;constructor)<;>intro _|refine ai ?_|(apply zQ;constructor))|((with_reducible refine keep0_i ?_);simp only [lP,seval])|simp (disch:=omega) only [lE,seval,pa_accs])
                all_goals try omega
                all_goals try omega
                exact back_i (a+1) ⟨by omega,hnb.plane⟩ (by omega) (ent [] false (by simp only [lP,seval,pa_accs]<;>(try simp)<;>(try omega)) (by simp only [lP,seval,pa_accs]<;>(try simp)<;>(try omega)))
            . have:a=h.length:=(by omega);subst this;repeat' (first|(with_reducible first|(apply zS;constructor)<;>intro _|refine ai ?_|(apply zQ;constructor))|((with_reducible refine keep0_i ?_);simp only [lP,seval])|simp (disch:=omega) only [lE,seval,pa_accs])
              all_goals try omega
              all_goals try omega
              rw [hfin hna];simp [admitA]
          . rw [admitN_ok hsl hlost fun hh=>absurd hh.1 (by assumption)];simp [admitA]
   . have hs:admitS h i=(0,1):=(by simp only [admitS];rw [if_neg (by simp [hck]),if_pos (by omega)]);repeat' (first|(with_reducible first|(apply zS;constructor)<;>intro _|refine ai ?_|(apply zQ;constructor))|((with_reducible apply zC;constructor);simp only [lP,seval,pa_accs];refine ⟨_,h19,?_⟩;rintro _ _ ⟨rfl,rfl⟩;simp only [lA,lP,seval,pa_accs])|((with_reducible refine keep0_i ?_);simp only [lP,seval])|simp (disch:=omega) only [lE,seval,pa_accs])
     all_goals try omega
     all_goals try omega
     all_goals simp [hs,admitA]
 . have hs:admitS h i=(0,checkS h):=by simp [admitS,hck]
   repeat' (first|(with_reducible first|(apply zS;constructor)<;>intro _|refine ai ?_|(apply zQ;constructor))|((with_reducible apply zC;constructor);simp only [lP,seval,pa_accs];refine ⟨_,h19,?_⟩;rintro _ _ ⟨rfl,rfl⟩;simp only [lA,lP,seval,pa_accs])|((with_reducible refine keep0_i ?_);simp only [lP,seval])|simp (disch:=omega) only [lE,seval,pa_accs])
   all_goals try omega
   all_goals try omega
   all_goals simp [hs,admitA]
end Go.Proofs.Try
