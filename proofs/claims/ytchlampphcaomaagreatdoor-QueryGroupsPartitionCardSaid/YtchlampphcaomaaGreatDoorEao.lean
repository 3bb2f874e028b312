/-
 A part of the proof: see the text of the law.
-/
import Derived.Test.YtchlampphcaomaaGreatDoorEal
set_option linter.unusedSimpArgs false
set_option linter.unusedVariables false
namespace Go.Proofs.Try
open Go.Proofs.Tryz
open Go.Al
set_option maxRecDepth 20000
set_option maxHeartbeats 8000000
variable {g:FuncId} {caps:List (List AV)} {G:List VL→Prop} {cf:List VL→List VL→Int}
theorem mem_lt {L R:List TR} (h:∀ x ∈ L,∀ y ∈ R,x.2<y.2) {A B:List TR} (ha:∀ x ∈ A,x ∈ L) (hb:∀ x ∈ B,x ∈ R):∀ x ∈ A,∀ y ∈ B,x.2<y.2:=fun x hx y hy=>h x (ha x hx) y (hb y hy)
theorem tags_take {L R:List TR} {s t:Nat} (h:Tags (L++R)):Tags (L.take s++R.take t)∧Tags (L.drop s++R.drop t):=by
 have h1:Tags ((L.take s++R.take t)++(L.drop s++R.drop t)):=h.perm (cut_perm L R s t)
 exact ⟨h1.left,h1.right⟩
theorem c153_big (hc:Cmp g caps G cf) (hS:Swo cf) (k:Nat)
 (ih:∀ (L R:List TR),L.length+R.length<k→0<L.length→0<R.length→All G L→All G R→Up cf L→Up cf R→Tags (L++R)→(∀ x ∈ L,∀ y ∈ R,x.2<y.2)→∀ (X Y:List TR) (n:Nat) (a m b:Int),n=X.length+(L.length+(R.length+Y.length))→n≤1000000000→a=X.length→m=(X.length+L.length:Nat)→b=(X.length+L.length+R.length:Nat) →
   ACalls E.P 153 [.slc 0 1 n,.int .i64 a,.int .i64 m,.int .i64 b,.fn (.func g) [] (caps.map AV.vp)] [.arr 69 1 ((X++(L++(R++Y))).map tav)] (fun r H=>r=.tup []∧H=[.arr 69 1 ((X++(srt cf (L++R)++Y)).map tav)]))
 (L R:List TR) (hk:L.length+R.length=k) (hL0:1<L.length) (hR0:1<R.length) (hL:All G L) (hR:All G R) (hLu:Up cf L) (hRu:Up cf R) (hT:Tags (L++R)) (htg:∀ x ∈ L,∀ y ∈ R,x.2<y.2) (X Y:List TR) (n:Nat) (hN:n=X.length+(L.length+(R.length+Y.length))) (hn:n≤1000000000) :
   ACalls E.P 153 [.slc 0 1 n,.int .i64 X.length,.int .i64 (X.length+L.length:Nat),.int .i64 (X.length+L.length+R.length:Nat),.fn (.func g) [] (caps.map AV.vp)] [.arr 69 1 ((X++(L++(R++Y))).map tav)] (fun r H=>r=.tup []∧H=[.arr 69 1 ((X++(srt cf (L++R)++Y)).map tav)]):=by
 have hmax:=maxLen_eq
 refine ok153.acalls hE hm (by simp) fun N hN2=>?_
 unfold mc153 q153_1 q153_0 pM pE pB pA pI pP gT oM oL oA oB oN oQ
 have w1:decide (IntKind.i64.wrap (((X.length+L.length:Nat):Int) - X.length)=1)=false:=by rw [wrap_i64 (by omega) (by omega)];simp only [decide_eq_false_iff_not];omega
 have w2:decide (IntKind.i64.wrap (((X.length+L.length+R.length:Nat):Int) - (X.length+L.length:Nat))=1)=false:=by rw [wrap_i64 (by omega) (by omega)];simp only [decide_eq_false_iff_not];omega
 have hh:=half_eq X.length (X.length+L.length+R.length) (by omega)
 obtain ⟨hf,hhf⟩:∃ hf,hf=(L.length+R.length) / 2:=⟨_,rfl⟩
 have hm:(X.length+(X.length+L.length+R.length)) / 2=X.length+hf:=by omega
 rw [hm] at hh
 have w3:IntKind.i64.wrap ((X.length:Int)+(X.length+L.length+R.length:Nat))=(X.length:Int)+(X.length+L.length+R.length:Nat):=wrap_i64 (by omega) (by omega)
 simp only [lA,seval,w1,w2,w3,hh]
 obtain ⟨lo,hlo⟩:∃ lo,lo=hf - R.length:=⟨_,rfl⟩
 obtain ⟨hi,hhi⟩:∃ hi,hi=min L.length hf:=⟨_,rfl⟩
 repeat' (first|(with_reducible first|(apply St.o;constructor)<;>intro _|refine And.intro (by omega) ?_|(apply Sq.o;constructor))|simp (disch:=omega) only [lE,seval,hh])
 all_goals
  rename_i hcase
  have hlohi:lo≤hi:=by omega
  refine loop_i (fun p:Nat × Nat=>p.1≤p.2∧lo≤p.1∧p.2≤hi∧(∀ u (h1:u<L.length) (h2:hf - 1 - u<R.length),lo≤u→u<p.1→¬ ltT cf R[hf - 1 - u] L[u])∧(∀ u (h1:u<L.length) (h2:hf - 1 - u<R.length),p.2≤u→u<hi→ltT cf R[hf - 1 - u] L[u])) (fun p=>⟨[(0,.slc 0 1 n),(1,.int .i64 X.length),(2,.int .i64 (X.length+L.length:Nat)),(3,.int .i64 (X.length+L.length+R.length:Nat)),(4,.fn (.func g) [] (caps.map AV.vp)),(18,.int .i64 (X.length+hf:Nat)),(19,.int .i64 (X.length+hf+(X.length+L.length):Nat)),(20,.int .i64 (X.length+p.1:Nat)),(21,.int .i64 (X.length+p.2:Nat)),(22,.int .i64 (X.length+hf+(X.length+L.length) - 1:Nat))],[.arr 69 1 ((X++(L++(R++Y))).map tav)]⟩) (fun p=>p.2 - p.1) (lo,hi) ⟨hlohi,Nat.le_refl _,Nat.le_refl _,fun u _ _ h h'=>by simp only at h';omega,fun u _ _ h h'=>by simp only at h;omega⟩ (ent [0] false (by simp only [lP,seval,pa_tav,pa_vps]<;>(try simp)<;>(try omega)) (by simp only [lP,seval,pa_tav,pa_vps]<;>(try simp)<;>(try omega))) ?_
  rintro ⟨p,q⟩ ⟨h1,h2,h3,h4,h5⟩
  simp only at h1 h2 h3 h4 h5 ⊢
  by_cases hpq:p<q
  · have hlt:(((X.length+p:Nat):Int)<((X.length+q:Nat):Int))=True:=by simp only [eq_iff_iff,iff_true];omega
    have hh2:=half_eq (X.length+p) (X.length+q) (by omega)
    have hm2:(X.length+p+(X.length+q)) / 2=X.length+(p+q) / 2:=by omega
    rw [hm2] at hh2
    have hq1:p≤(p+q) / 2:=by omega
    have hq2:(p+q) / 2<q:=by omega
    obtain ⟨c,hcd⟩:∃ c,c=(p+q) / 2:=⟨_,rfl⟩
    rw [← hcd] at hq1 hq2 hh2
    have hcL:c<L.length:=by omega
    have hcR:hf - 1 - c<R.length:=by omega
    have g1:(X++(L++(R++Y)))[X.length+c]?=some L[c]:=by
     rw [List.getElem?_append_right (by omega),show X.length+c - X.length=c by omega,List.getElem?_append_left hcL,List.getElem?_eq_getElem hcL]
    have g2:(X++(L++(R++Y)))[X.length+L.length+(hf - 1 - c)]?=some R[hf - 1 - c]:=by
     rw [List.getElem?_append_right (by omega),show X.length+L.length+(hf - 1 - c) - X.length=L.length+(hf - 1 - c) by omega,List.getElem?_append_right (by omega),show L.length+(hf - 1 - c) - L.length=hf - 1 - c by omega,List.getElem?_append_left hcR,List.getElem?_eq_getElem hcR]
    have hcc:=hc R[hf - 1 - c].1 L[c].1 (hR _ (List.getElem_mem _)) (hL _ (List.getElem_mem _))
    have hltc:ltT cf R[hf - 1 - c] L[c]↔cf R[hf - 1 - c].1 L[c].1<0:=lt_cf (by have:=htg _ (List.getElem_mem hcL) _ (List.getElem_mem hcR);omega)
    have hup2:∀ u (h1:u<L.length) (h2:hf - 1 - u<R.length),u≤c→leT cf L[u] L[c]=true∧leT cf R[hf - 1 - c] R[hf - 1 - u]=true:=fun u h1 h2 h=>⟨up_get hS hLu h hcL,up_get hS hRu (by omega) h2⟩
    have hup3:∀ u (h1:u<L.length) (h2:hf - 1 - u<R.length),c≤u→leT cf L[c] L[u]=true∧leT cf R[hf - 1 - u] R[hf - 1 - c]=true:=fun u h1 h2 h=>⟨up_get hS hLu h h1,up_get hS hRu (by omega) hcR⟩
    generalize hz:L[c]=x at *
    generalize hz2:R[hf - 1 - c]=y at *
    have hnl:n=(X++(L++(R++Y))).length:=by simp;omega
    generalize hI:X++(L++(R++Y))=I at *
    have x1:(I.map tav)[X.length+c]?=some (rowV x.1):=by rw [List.getElem?_map,g1];rfl
    have x2:(I.map tav)[X.length+L.length+(hf - 1 - c)]?=some (rowV y.1):=by rw [List.getElem?_map,g2];rfl
    have n2:(((X.length+hf+(X.length+L.length) - 1:Nat):Int) - (X.length+c:Nat)).toNat=X.length+L.length+(hf - 1 - c):=by omega
    repeat' (first|(with_reducible first|(apply St.o;constructor)<;>intro _|refine And.intro (by omega) ?_|(apply Sq.o;constructor))|((with_reducible apply Sc.o true;constructor);simp only [lP,seval,hlt,hh2,decide_true,epR_map,Int.toNat_natCast,n2,x1,x2,pa_vps,List.map_cons];refine ⟨_,hcc,?_⟩;rintro _ _ ⟨rfl,rfl⟩;simp only [lA,lP,seval,hlt,hh2,decide_true,epR_map,Int.toNat_natCast,n2,x1,x2,pa_vps,List.map_cons])|with_reducible refine any_i [] ?_|simp (disch:=omega) only [lE,seval,hlt,hh2,decide_true,epR_map,Int.toNat_natCast,n2,x1,x2,pa_vps,List.map_cons])
    · rename_i hcf
      have hcf:¬ cf y.1 x.1<0:=by simpa using hcf
      refine back_i (c+1,q) ⟨by simp only;omega,by simp only;omega,h3,fun u h6 h7 h8 h9 hlt=>?_,h5⟩ (by simp only;omega) (ent [0] false (by simp only [lP,seval,pa_tav,pa_vps]<;>(try simp)<;>(try omega)) (by simp only [lP,seval,pa_tav,pa_vps]<;>(try simp)<;>(try omega)))
      have h10:=hup2 u h6 h7 (by simp only at h9;omega)
      refine hcf (hltc.1 (ltT_of_le hS h10.2 ?_))
      rcases ltT_ntr hS (y:=x) hlt with h11 | h11
      · exact h11
      · exact absurd h11 (leT_iff.1 h10.1)
    · rename_i hcf
      have hcf:cf y.1 x.1<0:=by simpa using hcf
      refine back_i (p,c) ⟨hq1,h2,by simp only;omega,h4,fun u h6 h7 h8 h9=>?_⟩ (by simp only;omega) (ent [0] false (by simp only [lP,seval,pa_tav,pa_vps]<;>(try simp)<;>(try omega)) (by simp only [lP,seval,pa_tav,pa_vps]<;>(try simp)<;>(try omega)))
      have h10:=hup3 u h6 h7 h8
      have h12:ltT cf R[hf - 1 - u] x:=ltT_of_le hS h10.2 (hltc.2 hcf)
      rcases ltT_ntr hS (y:=L[u]) h12 with h11 | h11
      · exact h11
      · exact absurd h11 (leT_iff.1 h10.1)
  · obtain rfl:p=q:=by omega
    have hlt:(((X.length+p:Nat):Int)<((X.length+p:Nat):Int))=False:=by simp
    obtain ⟨t,ht⟩:∃ t,t=hf - p:=⟨_,rfl⟩
    have hpL:p≤L.length:=by omega
    have htR:t≤R.length:=by omega
    have we:((X.length+hf+(X.length+L.length):Nat):Int) - (X.length+p:Nat)=(X.length+L.length+t:Nat):=by omega
    have hcut:=cut_ok hS hLu hRu hpL htR (fun hp0 ht0=>by
     have e1:L.getD (p - 1) R[t]=L[p - 1]:=by rw [List.getD_eq_getElem?_getD,List.getElem?_eq_getElem (by omega),Option.getD_some]
     have e2:hf - 1 - (p - 1)=t:=by omega
     have:=h4 (p - 1) (by omega) (by omega) (by omega) (by omega)
     simp only [e2] at this
     rw [e1]
     exact leT_iff.2 this) (fun hp0 ht0=>by
     have e1:R.getD (t - 1) L[p]=R[t - 1]:=by rw [List.getD_eq_getElem?_getD,List.getElem?_eq_getElem (by omega),Option.getD_some]
     have e2:hf - 1 - p=t - 1:=by omega
     have:=h5 p ht0 (by omega) (Nat.le_refl _) (by omega)
     simp only [e2] at this
     rw [e1]
     exact leT_of_lt hS this)
    have hmg:=merge_cut hS hLu hRu hT hcut
    obtain ⟨hTa,hTb⟩:=tags_take (s:=p) (t:=t) hT
    have hAl:(L.take p).length=p:=by rw [List.length_take];omega
    have hBl:(R.take t).length=t:=by rw [List.length_take];omega
    have hCl:(L.drop p).length=L.length - p:=List.length_drop
    have hDl:(R.drop t).length=R.length - t:=List.length_drop
    have hAC:L.take p++L.drop p=L:=List.take_append_drop _ _
    have hBD:R.take t++R.drop t=R:=List.take_append_drop _ _
    have hAu:=hLu.take p
    have hCu:=hLu.drop p
    have hBu:=hRu.take t
    have hDu:=hRu.drop t
    have mA:∀ x ∈ L.take p,x ∈ L:=fun x=>List.mem_of_mem_take
    have mC:∀ x ∈ L.drop p,x ∈ L:=fun x=>List.mem_of_mem_drop
    have mB:∀ x ∈ R.take t,x ∈ R:=fun x=>List.mem_of_mem_take
    have mD:∀ x ∈ R.drop t,x ∈ R:=fun x=>List.mem_of_mem_drop
    generalize hA:L.take p=A at *
    generalize hC:L.drop p=C at *
    generalize hB:R.take t=B at *
    generalize hD:R.drop t=D at *
    have hD0:X++(L++(R++Y))=X++(A++(C++(B++(D++Y)))):=by
     rw [← hAC,← hBD];simp only [List.append_assoc]
    have hSl:(srt cf (A++B)).length=hf:=by rw [srt_length,List.length_append];omega
    have f1:((((X.length+p:Nat):Int)<(X.length+L.length:Nat))=True∧(((X.length+L.length:Nat):Int)<(X.length+L.length+t:Nat))=True ∧
     ACalls E.P 170 [.slc 0 1 n,.int .i64 (X.length+p:Nat),.int .i64 (X.length+L.length:Nat),.int .i64 (X.length+L.length+t:Nat),.fn (.func g) [] (caps.map AV.vp)] [.arr 69 1 ((X++(A++(C++(B++(D++Y))))).map tav)] (fun r H=>r=.tup []∧H=[.arr 69 1 ((X++(A++(B++(C++(D++Y))))).map tav)])) ∨
     (∃ c:Prop,c=True∧(((X.length+p:Nat):Int)<(X.length+L.length:Nat))=c∧(((X.length+L.length:Nat):Int)<(X.length+L.length+t:Nat))=False∧X++(A++(C++(B++(D++Y))))=X++(A++(B++(C++(D++Y))))) ∨
     (∃ c:Prop,c=False∧(((X.length+p:Nat):Int)<(X.length+L.length:Nat))=c∧True∧X++(A++(C++(B++(D++Y))))=X++(A++(B++(C++(D++Y))))):=by
     by_cases u1:p<L.length
     · by_cases u2:0<t
       · refine .inl ⟨by simp only [eq_iff_iff,iff_true];omega,by simp only [eq_iff_iff,iff_true];omega,?_⟩
         have:=c170 g caps (X++A) C B (D++Y) (by omega) (by omega) n (by simp only [List.length_append];omega) hn (X.length+p:Nat) (X.length+L.length:Nat) (X.length+L.length+t:Nat) (by simp only [List.length_append];omega) (by simp only [List.length_append];omega) (by simp only [List.length_append];omega)
         simpa only [List.append_assoc] using this
       · refine .inr (.inl ⟨_,rfl,by simp only [eq_iff_iff,iff_true];omega,by simp only [eq_iff_iff,iff_false];omega,?_⟩)
         rw [List.eq_nil_of_length_eq_zero (show B.length=0 by omega),List.nil_append,List.nil_append]
     · refine .inr (.inr ⟨_,rfl,by simp only [eq_iff_iff,iff_false];omega,trivial,?_⟩)
       rw [List.eq_nil_of_length_eq_zero (show C.length=0 by omega),List.nil_append,List.nil_append]
    have f2:(((X.length:Int)<(X.length+p:Nat))=True∧(((X.length+p:Nat):Int)<(X.length+hf:Nat))=True ∧
     ACalls E.P 153 [.slc 0 1 n,.int .i64 X.length,.int .i64 (X.length+p:Nat),.int .i64 (X.length+hf:Nat),.fn (.func g) [] (caps.map AV.vp)] [.arr 69 1 ((X++(A++(B++(C++(D++Y))))).map tav)] (fun r H=>r=.tup []∧H=[.arr 69 1 ((X++(srt cf (A++B)++(C++(D++Y)))).map tav)])) ∨
     (∃ c:Prop,c=True∧((X.length:Int)<(X.length+p:Nat))=c∧(((X.length+p:Nat):Int)<(X.length+hf:Nat))=False∧X++(A++(B++(C++(D++Y))))=X++(srt cf (A++B)++(C++(D++Y)))) ∨
     (∃ c:Prop,c=False∧((X.length:Int)<(X.length+p:Nat))=c∧True∧X++(A++(B++(C++(D++Y))))=X++(srt cf (A++B)++(C++(D++Y)))):=by
     by_cases u1:0<p
     · by_cases u2:p<hf
       · refine .inl ⟨by simp only [eq_iff_iff,iff_true];omega,by simp only [eq_iff_iff,iff_true];omega,?_⟩
         exact ih A B (by omega) (by omega) (by omega) (fun x hx=>hL x (mA x hx)) (fun x hx=>hR x (mB x hx)) hAu hBu hTa (mem_lt htg mA mB) X (C++(D++Y)) n _ _ _ (by simp only [List.length_append];omega) hn rfl (by omega) (by omega)
       · refine .inr (.inl ⟨_,rfl,by simp only [eq_iff_iff,iff_true];omega,by simp only [eq_iff_iff,iff_false];omega,?_⟩)
         obtain rfl:=List.eq_nil_of_length_eq_zero (show B.length=0 by omega)
         rw [List.append_nil,srt_self hS (by rw [List.append_nil] at hTa;exact hTa) hAu,List.nil_append]
     · refine .inr (.inr ⟨_,rfl,by simp only [eq_iff_iff,iff_false];omega,trivial,?_⟩)
       obtain rfl:=List.eq_nil_of_length_eq_zero (show A.length=0 by omega)
       rw [List.nil_append,List.nil_append,srt_self (l:=B) hS hTa hBu]
    have f3:((((X.length+hf:Nat):Int)<(X.length+L.length+t:Nat))=True∧(((X.length+L.length+t:Nat):Int)<(X.length+L.length+R.length:Nat))=True ∧
     ACalls E.P 153 [.slc 0 1 n,.int .i64 (X.length+hf:Nat),.int .i64 (X.length+L.length+t:Nat),.int .i64 (X.length+L.length+R.length:Nat),.fn (.func g) [] (caps.map AV.vp)] [.arr 69 1 ((X++(srt cf (A++B)++(C++(D++Y)))).map tav)] (fun r H=>r=.tup []∧H=[.arr 69 1 ((X++(srt cf (L++R)++Y)).map tav)])) ∨
     (∃ c:Prop,c=True∧(((X.length+hf:Nat):Int)<(X.length+L.length+t:Nat))=c∧(((X.length+L.length+t:Nat):Int)<(X.length+L.length+R.length:Nat))=False∧X++(srt cf (A++B)++(C++(D++Y)))=X++(srt cf (L++R)++Y)) ∨
     (∃ c:Prop,c=False∧(((X.length+hf:Nat):Int)<(X.length+L.length+t:Nat))=c∧True∧X++(srt cf (A++B)++(C++(D++Y)))=X++(srt cf (L++R)++Y)):=by
     rw [← hmg]
     by_cases u1:p<L.length
     · by_cases u2:t<R.length
       · refine .inl ⟨by simp only [eq_iff_iff,iff_true];omega,by simp only [eq_iff_iff,iff_true];omega,?_⟩
         have:=ih C D (by omega) (by omega) (by omega) (fun x hx=>hL x (mC x hx)) (fun x hx=>hR x (mD x hx)) hCu hDu hTb (mem_lt htg mC mD) (X++srt cf (A++B)) Y n (X.length+hf:Nat) (X.length+L.length+t:Nat) (X.length+L.length+R.length:Nat) (by simp only [List.length_append];omega) hn (by simp only [List.length_append];omega) (by simp only [List.length_append];omega) (by simp only [List.length_append];omega)
         simpa only [List.append_assoc] using this
       · refine .inr (.inl ⟨_,rfl,by simp only [eq_iff_iff,iff_true];omega,by simp only [eq_iff_iff,iff_false];omega,?_⟩)
         obtain rfl:=List.eq_nil_of_length_eq_zero (show D.length=0 by omega)
         rw [List.append_nil,srt_self hS (by rw [List.append_nil] at hTb;exact hTb) hCu,List.nil_append,List.append_assoc]
     · refine .inr (.inr ⟨_,rfl,by simp only [eq_iff_iff,iff_false];omega,trivial,?_⟩)
       obtain rfl:=List.eq_nil_of_length_eq_zero (show C.length=0 by omega)
       rw [List.nil_append,List.nil_append,srt_self (l:=D) hS hTb hDu,List.append_assoc]
    rw [hD0]
    rcases f1 with ⟨d1,d2,k1⟩ | ⟨_,rfl,d1,d2,e1⟩ | ⟨_,rfl,d1,d2,e1⟩ <;> rcases f2 with ⟨d3,d4,k2⟩ | ⟨_,rfl,d3,d4,e2⟩ | ⟨_,rfl,d3,d4,e2⟩ <;> rcases f3 with ⟨d5,d6,k3⟩ | ⟨_,rfl,d5,d6,e3⟩ | ⟨_,rfl,d5,d6,e3⟩
    all_goals
     repeat' (first|(with_reducible first|(apply St.o;constructor)<;>intro _|refine And.intro (by omega) ?_|(apply Sq.o;constructor))|simp (disch:=omega) only [lE,seval,hlt,we,d1,d2,d3,d4,d5,d6,decide_false,decide_true])
     first
      | rw [e1]
      | refine callN_i [0] false (by simp) (by simp) ?_
        simp only [lP,seval,pa_tav,pa_vps]
        refine ⟨_,k1,?_⟩
        rintro _ _ ⟨rfl,rfl⟩
        simp only [lA,lP,seval,renL_tav,we,d3,d4,d5,d6,decide_false,decide_true]
     repeat' (first|(with_reducible first|(apply St.o;constructor)<;>intro _|refine And.intro (by omega) ?_|(apply Sq.o;constructor))|simp (disch:=omega) only [lE,seval,hlt,we,d1,d2,d3,d4,d5,d6,decide_false,decide_true])
     first
      | rw [e2]
      | refine callN_i [0] false (by simp) (by simp) ?_
        simp only [lP,seval,pa_tav,pa_vps]
        refine ⟨_,k2,?_⟩
        rintro _ _ ⟨rfl,rfl⟩
        simp only [lA,lP,seval,renL_tav,we,d3,d4,d5,d6,decide_false,decide_true]
     repeat' (first|(with_reducible first|(apply St.o;constructor)<;>intro _|refine And.intro (by omega) ?_|(apply Sq.o;constructor))|simp (disch:=omega) only [lE,seval,hlt,we,d1,d2,d3,d4,d5,d6,decide_false,decide_true])
     first
      | rw [e3]
      | refine callN_i [0] false (by simp) (by simp) ?_
        simp only [lP,seval,pa_tav,pa_vps]
        refine ⟨_,k3,?_⟩
        rintro _ _ ⟨rfl,rfl⟩
        simp only [lA,lP,seval,renL_tav,we,d3,d4,d5,d6,decide_false,decide_true]
     repeat' (first|(with_reducible first|(apply St.o;constructor)<;>intro _|refine And.intro (by omega) ?_|(apply Sq.o;constructor))|simp (disch:=omega) only [lE,seval,hlt,we,d1,d2,d3,d4,d5,d6,decide_false,decide_true])
     exact keep_i [0] false (by simp) (by simp) rfl ⟨by simp only [lP,seval],by simp only [lP,seval,pa_tav]⟩
set_option maxRecDepth 100000
def mc104:MC:=(.ops [pM 4 0,pM 5 0,pG 6 5,pM 7 1,(none,.e (.call (some 8) 127 [.t 4,.t 6,.t 7]))])
theorem ok104:FnOk E 104 9 [] mc104:=ofk func104
def mc127:MC:=(.seq (.ops [pI 6 20]) (.seq (.ops [pM 10 6,pI 7 0,pM 8 10]) (.seq (.block 0 (.loop (.seq (.seq (.ops [pM 11 8,pM 12 1,(none,.v (.bin 13 .leq false (.t 11) (.t 12)))]) (.cond 13 .skip (.exit 0))) (.block 1 (.seq (.ops [pM 14 0,pM 15 7,pM 16 8,pM 17 2,(none,.e (.call (some 18) 134 [.t 14,.t 15,.t 16,.t 17]))]) (.seq (.ops [pM 19 8,pM 7 19]) (.ops [pM 20 8,pM 21 6,(none,.v (.bin 22 .add false (.t 20) (.t 21))),pM 8 22]))))))) (.seq (.ops [pM 23 0,pM 24 7,pM 25 1,pM 26 2,(none,.e (.call (some 27) 134 [.t 23,.t 24,.t 25,.t 26]))]) (.block 2 (.loop (.seq (.seq (.ops [pM 28 6,pM 29 1,pB 30 28 29]) (.cond 30 .skip (.exit 2))) (.block 3 (.seq (.ops [pM 31 6,(none,.v (.bin 32 .mul false (.c (.int .i64 2)) (.t 31))),pI 7 0,pM 8 32]) (.seq (.block 4 (.loop (.seq (.seq (.ops [pM 33 8,pM 34 1,(none,.v (.bin 35 .leq false (.t 33) (.t 34)))]) (.cond 35 .skip (.exit 4))) (.block 5 (.seq (.ops [pM 36 0,pM 37 7,pM 38 7,pM 39 6,(none,.v (.bin 40 .add false (.t 38) (.t 39))),pM 41 8,pM 42 2,(none,.e (.call (some 43) 153 [.t 36,.t 37,.t 40,.t 41,.t 42]))]) (.seq (.ops [pM 44 8,pM 7 44]) (.ops [pM 45 8,pM 46 6,(none,.v (.bin 47 .mul false (.c (.int .i64 2)) (.t 46))),(none,.v (.bin 48 .add false (.t 45) (.t 47))),pM 8 48]))))))) (.seq (.seq (.ops [pM 49 7,pM 50 6,(none,.v (.bin 51 .add false (.t 49) (.t 50))),pM 9 51]) (.seq (.ops [pM 52 9,pM 53 1,pB 54 52 53]) (.cond 54 (.ops [pM 55 0,pM 56 7,pM 57 9,pM 58 1,pM 59 2,(none,.e (.call (some 60) 153 [.t 55,.t 56,.t 57,.t 58,.t 59]))]) .skip))) (.ops [pM 61 6,(none,.v (.bin 62 .mul false (.t 61) (.c (.int .i64 2)))),pM 6 62]))))))))))))
theorem ok127:FnOk E 127 63 [] mc127:=ofk func127
set_option maxRecDepth 20000
variable {g:FuncId} {caps:List (List AV)} {G:List VL→Prop} {cf:List VL→List VL→Int}
theorem c153 (hc:Cmp g caps G cf) (hS:Swo cf):∀ (k:Nat) (L R:List TR),L.length+R.length<k→0<L.length→0<R.length→All G L→All G R→Up cf L→Up cf R→Tags (L++R)→(∀ x ∈ L,∀ y ∈ R,x.2<y.2)→∀ (X Y:List TR) (n:Nat) (a m b:Int),n=X.length+(L.length+(R.length+Y.length))→n≤1000000000→a=X.length→m=(X.length+L.length:Nat)→b=(X.length+L.length+R.length:Nat) →
 ACalls E.P 153 [.slc 0 1 n,.int .i64 a,.int .i64 m,.int .i64 b,.fn (.func g) [] (caps.map AV.vp)] [.arr 69 1 ((X++(L++(R++Y))).map tav)] (fun r H=>r=.tup []∧H=[.arr 69 1 ((X++(srt cf (L++R)++Y)).map tav)])
 | 0,_,_,h=>by omega
 | k+1,L,R,h=>by
   intro hL0 hR0 hL hR hLu hRu hT htg X Y n a m b hN hn ha hm2 hb
   subst ha hm2 hb
   by_cases hL1:L.length=1
   · match L,hL1 with
     | [x],_=>exact c153a hc hS X R Y x (hL x (by simp)) hR hRu hT (fun y hy=>htg x (by simp) y hy) hR0 n (by simpa using hN) hn
   · by_cases hR1:R.length=1
     · match R,hR1 with
       | [x],_=>exact c153b hc hS X L Y x (hR x (by simp)) hL hLu hT (fun y hy=>htg y hy x (by simp)) (by omega) n (by simpa using hN) hn
     · exact c153_big hc hS (L.length+R.length) (fun L' R' h'=>c153 hc hS k L' R' (by omega)) L R rfl (by omega) (by omega) hL hR hLu hRu hT htg X Y n hN hn
abbrev Asc (l:List TR):Prop:=l.Pairwise fun x y=>x.2<y.2
theorem Asc.tags {l:List TR} (h:Asc l):Tags l:=by
 unfold Tags
 rw [List.Nodup,List.pairwise_map]
 exact h.imp fun h=>by omega
theorem c153m (hc:Cmp g caps G cf) (hS:Swo cf) (a b X Y:List TR) (ha0:0<a.length) (hb0:0<b.length) (hG:All G (a++b)) (hp:Asc (a++b)) (n:Nat) (u v w:Int) (hN:n=X.length+(a.length+(b.length+Y.length))) (hn:n≤1000000000) (hu:u=X.length) (hv:v=(X.length+a.length:Nat)) (hw:w=(X.length+a.length+b.length:Nat)) :
 ACalls E.P 153 [.slc 0 1 n,.int .i64 u,.int .i64 v,.int .i64 w,.fn (.func g) [] (caps.map AV.vp)] [.arr 69 1 ((X++(srt cf a++(srt cf b++Y))).map tav)] (fun r H=>r=.tup []∧H=[.arr 69 1 ((X++(srt cf (a++b)++Y)).map tav)]):=by
 have hpp:(srt cf a++srt cf b).Perm (a++b):=(srt_perm a).append (srt_perm b)
 have:=c153 hc hS _ (srt cf a) (srt cf b) (Nat.lt_succ_self _) (by rw [srt_length];omega) (by rw [srt_length];omega) (fun x hx=>hG x (List.mem_append_left _ (srt_mem.1 hx))) (fun x hx=>hG x (List.mem_append_right _ (srt_mem.1 hx))) (srt_up hS _) (srt_up hS _) (hp.tags.perm hpp) (fun x hx y hy=>(List.pairwise_append.1 hp).2.2 x (srt_mem.1 hx) y (srt_mem.1 hy)) X Y n u v w (by rw [srt_length,srt_length];exact hN) hn hu (by rw [srt_length];exact hv) (by rw [srt_length,srt_length];exact hw)
 rwa [srt_congr hS hp.tags hpp] at this
theorem take_add {α:Type} (l:List α) (p k:Nat):l.take p++(l.drop p).take k=l.take (p+k):=by rw [List.take_add]
theorem c127 (hc:Cmp g caps G cf) (hS:Swo cf) (D:List TR) (hG:All G D) (hp:Asc D) (n:Nat) (hN:n=D.length) (hn:n≤1000000000) (a:Int) (ha:a=n) :
 ACalls E.P 127 [.slc 0 1 n,.int .i64 a,.fn (.func g) [] (caps.map AV.vp)] [.arr 69 1 (D.map tav)] (fun r H=>r=.tup []∧H=[.arr 69 1 ((srt cf D).map tav)]):=by
 have hmax:=maxLen_eq
 subst ha
 refine ok127.acalls hE hm (by simp) fun N hN2=>?_
 unfold mc127 pI pM pB
 simp only [lA,seval]
 repeat' (first|(with_reducible first|(apply St.o;constructor)<;>intro _|refine And.intro (by omega) ?_|(apply Sq.o;constructor))|simp (disch:=omega) only [lE,seval])
 refine loop_i (fun p:Nat × List TR=>p.1≤n∧Fb cf 20 (D.take p.1) p.2) (fun p=>⟨[(0,.slc 0 1 n),(1,.int .i64 n),(2,.fn (.func g) [] (caps.map AV.vp)),(6,.int .i64 20),(7,.int .i64 p.1),(8,.int .i64 (p.1+20:Nat))],[.arr 69 1 ((p.2++D.drop p.1).map tav)]⟩) (fun p=>n - p.1) (0,[]) ⟨Nat.zero_le _,by simpa using Fb.nil⟩ (ent [0] false (by simp only [lP,seval,pa_tav,pa_vps,List.drop_zero,List.nil_append]<;>(try simp)<;>(try omega)) (by simp only [lP,seval,pa_tav,pa_vps,List.drop_zero,List.nil_append]<;>(try simp)<;>(try omega))) ?_
 rintro ⟨p,m⟩ ⟨h1,h2⟩
 simp only at h1 h2 ⊢
 have hml:m.length=p:=by rw [h2.length,List.length_take];omega
 have hGd:All G (D.drop p):=fun x hx=>hG x (List.mem_of_mem_drop hx)
 have hpd:Asc (D.drop p):=hp.drop
 have hdl:(D.drop p).length=n - p:=by rw [List.length_drop,hN]
 by_cases hpn:p+20≤n
 · have hle:(((p+20:Nat):Int)≤(n:Int))=True:=by simp only [eq_iff_iff,iff_true];omega
   have hdd:D.drop p=(D.drop p).take 20++D.drop (p+20):=by rw [← List.drop_drop,List.take_append_drop]
   have htk:=take_add D p 20
   have hFb:=h2.snoc (a:=(D.drop p).take 20) (by rw [List.length_take,hdl];omega)
   rw [htk] at hFb
   have k1:=c134 hc hS m ((D.drop p).take 20) (D.drop (p+20)) (fun x hx=>hGd x (List.mem_of_mem_take hx)) (hpd.sublist (List.take_sublist _ _)) n (by rw [List.length_take,List.length_drop,List.length_drop];omega) hn p (p+20:Nat) (by omega) (by rw [List.length_take,hdl];omega)
   rw [← hdd] at k1
   repeat' (first|(with_reducible first|(apply St.o;constructor)<;>intro _|refine And.intro (by omega) ?_|(apply Sq.o;constructor))|simp (disch:=omega) only [lE,seval,hle,decide_true])
   refine callN_i [0] false (by simp) (by simp) ?_
   simp only [lP,seval,pa_tav,pa_vps]
   refine ⟨_,k1,?_⟩
   rintro _ _ ⟨rfl,rfl⟩
   simp only [lA,lP,seval,renL_tav]
   repeat' (first|(with_reducible first|(apply St.o;constructor)<;>intro _|refine And.intro (by omega) ?_|(apply Sq.o;constructor))|simp (disch:=omega) only [lE,seval])
   refine back_i (p+20,m++srt cf ((D.drop p).take 20)) ⟨hpn,hFb⟩ (by simp only;omega) ?_
   simp only [List.append_assoc]
   exact (ent [0] false (by simp only [lP,seval,pa_tav,pa_vps]<;>(try simp)<;>(try omega)) (by simp only [lP,seval,pa_tav,pa_vps]<;>(try simp)<;>(try omega)))
 · have hle:(((p+20:Nat):Int)≤(n:Int))=False:=by simp only [eq_iff_iff,iff_false];omega
   have k1:=c134 hc hS m (D.drop p) [] hGd hpd n (by rw [hdl,List.length_nil];omega) hn p n (by omega) (by rw [hdl];omega)
   have hBl:=h2.join (.last (l:=D.drop p) (by omega))
   rw [List.take_append_drop] at hBl
   rw [List.append_nil,List.append_nil] at k1
   repeat' (first|(with_reducible first|(apply St.o;constructor)<;>intro _|refine And.intro (by omega) ?_|(apply Sq.o;constructor))|simp (disch:=omega) only [lE,seval,hle,decide_false])
   refine callN_i [0] false (by simp) (by simp) ?_
   simp only [lP,seval,pa_tav,pa_vps]
   refine ⟨_,k1,?_⟩
   rintro _ _ ⟨rfl,rfl⟩
   simp only [lA,lP,seval,renL_tav]
   repeat' (first|(with_reducible first|(apply St.o;constructor)<;>intro _|refine And.intro (by omega) ?_|(apply Sq.o;constructor))|simp (disch:=omega) only [lE,seval])
   clear k1 hle hGd hpd hdl
   obtain ⟨M,hM⟩:∃ M,M=m++srt cf (D.drop p):=⟨_,rfl⟩
   rw [← hM] at hBl ⊢
   refine loop_i (fun p:Nat × List TR=>20≤p.1∧Bl cf p.1 D p.2) (fun p=>⟨[(0,.slc 0 1 n),(1,.int .i64 n),(2,.fn (.func g) [] (caps.map AV.vp)),(6,.int .i64 p.1)],[.arr 69 1 (p.2.map tav)]⟩) (fun p=>n - p.1) (20,M) ⟨Nat.le_refl _,hBl⟩ (ent [0] false (by simp only [lP,seval,pa_tav,pa_vps]<;>(try simp)<;>(try omega)) (by simp only [lP,seval,pa_tav,pa_vps]<;>(try simp)<;>(try omega))) ?_
   clear h1 h2 hml hBl hpn hM M m p
   rintro ⟨k,M⟩ ⟨hk,hBl⟩
   simp only at hk hBl ⊢
   by_cases hkn:k<n
   · have hlt:((k:Int)<(n:Int))=True:=by simp only [eq_iff_iff,iff_true];omega
     repeat' (first|(with_reducible first|(apply St.o;constructor)<;>intro _|refine And.intro (by omega) ?_|(apply Sq.o;constructor))|simp (disch:=omega) only [lE,seval,hlt,decide_true])
     refine loop_i (fun s:Nat × List TR × List TR=>s.1≤n∧Fb cf (2 * k) (D.take s.1) s.2.1∧Bl cf k (D.drop s.1) s.2.2) (fun s=>⟨[(0,.slc 0 1 n),(1,.int .i64 n),(2,.fn (.func g) [] (caps.map AV.vp)),(6,.int .i64 k),(7,.int .i64 s.1),(8,.int .i64 (s.1+2 * k:Nat))],[.arr 69 1 ((s.2.1++s.2.2).map tav)]⟩) (fun s=>n - s.1) (0,[],M) ⟨Nat.zero_le _,by simpa using Fb.nil,by simpa using hBl⟩ (ent [0] false (by simp only [lP,seval,pa_tav,pa_vps,List.nil_append]<;>(try simp)<;>(try omega)) (by simp only [lP,seval,pa_tav,pa_vps,List.nil_append]<;>(try simp)<;>(try omega))) ?_
     rintro ⟨p,m,r⟩ ⟨h1,h2,h3⟩
     simp only at h1 h2 h3 ⊢
     have hml:m.length=p:=by rw [h2.length,List.length_take];omega
     have hGd:All G (D.drop p):=fun x hx=>hG x (List.mem_of_mem_drop hx)
     have hpd:Asc (D.drop p):=hp.drop
     have hdl:(D.drop p).length=n - p:=by rw [List.length_drop,hN]
     by_cases hpn:p+2 * k≤n
     · have hle:(((p+2 * k:Nat):Int)≤(n:Int))=True:=by simp only [eq_iff_iff,iff_true];omega
       obtain ⟨r1,e1,h4⟩:=h3.split (by omega)
       obtain ⟨r2,e2,h5⟩:=h4.split (by rw [List.length_drop];omega)
       subst e1 e2
       have htk:(D.drop p).take k++((D.drop p).drop k).take k=(D.drop p).take (2 * k):=by rw [take_add,Nat.two_mul]
       have l1:((D.drop p).take k).length=k:=by rw [List.length_take];omega
       have l2:(((D.drop p).drop k).take k).length=k:=by rw [List.length_take,List.length_drop];omega
       have l3:r2.length=n - p - 2 * k:=by rw [h5.length,List.length_drop,List.length_drop];omega
       have k1:=c153m hc hS ((D.drop p).take k) (((D.drop p).drop k).take k) m r2 (by omega) (by omega) (by rw [htk];exact fun x hx=>hGd x (List.mem_of_mem_take hx)) (by rw [htk];exact hpd.sublist (List.take_sublist _ _)) n p (p+k:Nat) (p+2 * k:Nat) (by omega) hn (by omega) (by omega) (by omega)
       rw [htk] at k1
       have hFb:=h2.snoc (a:=(D.drop p).take (2 * k)) (by rw [List.length_take,hdl];omega)
       rw [take_add] at hFb
       rw [List.drop_drop,List.drop_drop,show p+(k+k)=p+2 * k by omega] at h5
       generalize hI:srt cf ((D.drop p).take k)++(srt cf (((D.drop p).drop k).take k)++r2)=I at *
       have wk:((p:Int)+(k:Int))=(p+k:Nat):=by omega
       repeat' (first|(with_reducible first|(apply St.o;constructor)<;>intro _|refine And.intro (by omega) ?_|(apply Sq.o;constructor))|simp (disch:=omega) only [lE,seval,hle,wk,decide_true])
       refine callN_i [0] false (by simp) (by simp) ?_
       simp only [lP,seval,pa_tav,pa_vps]
       refine ⟨_,k1,?_⟩
       rintro _ _ ⟨rfl,rfl⟩
       simp only [lA,lP,seval,renL_tav]
       repeat' (first|(with_reducible first|(apply St.o;constructor)<;>intro _|refine And.intro (by omega) ?_|(apply Sq.o;constructor))|simp (disch:=omega) only [lE,seval])
       refine back_i (p+2 * k,m++srt cf ((D.drop p).take (2 * k)),r2) ⟨hpn,hFb,h5⟩ (by simp only;omega) ?_
       simp only [List.append_assoc]
       exact (ent [0] false (by simp only [lP,seval,pa_tav,pa_vps]<;>(try simp)<;>(try omega)) (by simp only [lP,seval,pa_tav,pa_vps]<;>(try simp)<;>(try omega)))
     · have hle:(((p+2 * k:Nat):Int)≤(n:Int))=False:=by simp only [eq_iff_iff,iff_false];omega
       have hBl2:=h2.join (.last (l:=D.drop p) (by omega))
       rw [List.take_append_drop] at hBl2
       by_cases hpk:p+k<n
       · have hlt2:((p:Int)+(k:Int)<(n:Int))=True:=by simp only [eq_iff_iff,iff_true];omega
         obtain ⟨r1,e1,h4⟩:=h3.split (by omega)
         have e2:=h4.done (by omega) (by rw [List.length_drop];omega)
         subst e1 e2
         have htk:(D.drop p).take k++(D.drop p).drop k=D.drop p:=List.take_append_drop _ _
         have l1:((D.drop p).take k).length=k:=by rw [List.length_take];omega
         have l2:((D.drop p).drop k).length=n - p - k:=by rw [List.length_drop];omega
         have k1:=c153m hc hS ((D.drop p).take k) ((D.drop p).drop k) m [] (by omega) (by omega) (by rw [htk];exact hGd) (by rw [htk];exact hpd) n p ((p:Int)+k) n (by rw [List.length_nil];omega) hn (by omega) (by omega) (by omega)
         rw [htk,List.append_nil,List.append_nil] at k1
         repeat' (first|(with_reducible first|(apply St.o;constructor)<;>intro _|refine And.intro (by omega) ?_|(apply Sq.o;constructor))|simp (disch:=omega) only [lE,seval,hle,hlt2,decide_true,decide_false])
         refine callN_i [0] false (by simp) (by simp) ?_
         simp only [lP,seval,pa_tav,pa_vps]
         refine ⟨_,k1,?_⟩
         rintro _ _ ⟨rfl,rfl⟩
         simp only [lA,lP,seval,renL_tav]
         repeat' (first|(with_reducible first|(apply St.o;constructor)<;>intro _|refine And.intro (by omega) ?_|(apply Sq.o;constructor))|simp (disch:=omega) only [lE,seval])
         refine back_i (2 * k,m++srt cf (D.drop p)) ⟨by simp only;omega,hBl2⟩ (by simp only;omega) (ent [0] false (by simp only [lP,seval,pa_tav,pa_vps]<;>(try simp)<;>(try omega)) (by simp only [lP,seval,pa_tav,pa_vps]<;>(try simp)<;>(try omega)))
       · have hlt2:((p:Int)+(k:Int)<(n:Int))=False:=by simp only [eq_iff_iff,iff_false];omega
         have e2:=h3.done (by omega) (by omega)
         subst e2
         repeat' (first|(with_reducible first|(apply St.o;constructor)<;>intro _|refine And.intro (by omega) ?_|(apply Sq.o;constructor))|simp (disch:=omega) only [lE,seval,hle,hlt2,decide_true,decide_false])
         refine back_i (2 * k,m++srt cf (D.drop p)) ⟨by simp only;omega,hBl2⟩ (by simp only;omega) (ent [0] false (by simp only [lP,seval,pa_tav,pa_vps]<;>(try simp)<;>(try omega)) (by simp only [lP,seval,pa_tav,pa_vps]<;>(try simp)<;>(try omega)))
   · have hlt:((k:Int)<(n:Int))=False:=by simp only [eq_iff_iff,iff_false];omega
     obtain rfl:=hBl.done (by omega) (by omega)
     repeat' (first|(with_reducible first|(apply St.o;constructor)<;>intro _|refine And.intro (by omega) ?_|(apply Sq.o;constructor))|simp (disch:=omega) only [lE,seval,hlt,decide_false])
     exact keep_i [0] false (by simp) (by simp) rfl ⟨by simp only [lP,seval],by simp only [lP,seval,pa_tav]⟩
theorem c104 (hc:Cmp g caps G cf) (hS:Swo cf) (l:List (List VL)) (hG:∀ x ∈ l,G x) (n:Nat) (hN:n=l.length) (hn:n≤1000000000) :
 ACalls E.P 104 [.slc 0 1 n,.fn (.func g) [] (caps.map AV.vp)] [.arr 69 1 (l.map rowV)] (fun r H=>r=.tup []∧H=[.arr 69 1 ((stab cf l).map rowV)]):=by
 have hmax:=maxLen_eq
 have e0:(tagged l).map tav=l.map rowV:=by
  rw [show (tav:TR→AV)=rowV ∘ Prod.fst from rfl,← List.map_map,tagged_fst]
 have e1:(srt cf (tagged l)).map tav=(stab cf l).map rowV:=by
  rw [show (tav:TR→AV)=rowV ∘ Prod.fst from rfl,← List.map_map];rfl
 have hl:(tagged l).length=l.length:=by rw [← List.length_map Prod.fst,tagged_fst]
 have k1:=c127 hc hS (tagged l) (fun x hx=>hG x.1 (by have:=List.mem_map_of_mem (f:=Prod.fst) hx;rwa [tagged_fst] at this)) (tagged_pair l) n (by omega) hn n rfl
 rw [← e0,← e1]
 refine ok104.acalls hE hm (by simp) fun N hN2=>?_
 unfold mc104 pM pG
 simp only [lA,seval]
 repeat' (first|(with_reducible first|(apply St.o;constructor)<;>intro _|refine And.intro (by omega) ?_|(apply Sq.o;constructor))|simp (disch:=omega) only [lE,seval])
 refine callN_i [0] false (by simp) (by simp) ?_
 simp only [lP,seval,pa_tav,pa_vps]
 refine ⟨_,k1,?_⟩
 rintro _ _ ⟨rfl,rfl⟩
 simp only [lA,lP,seval,renL_tav]
 repeat' (first|(with_reducible first|(apply St.o;constructor)<;>intro _|refine And.intro (by omega) ?_|(apply Sq.o;constructor))|simp (disch:=omega) only [lE,seval])
 exact keep_i [0] false (by simp) (by simp) rfl ⟨by simp only [lP,seval],by simp only [lP,seval,pa_tav]⟩
set_option maxRecDepth 100000
def mc62:MC:=(.seq (.ops [pI 4 0]) (.seq (.ops [pM 5 0,pM 6 1,(none,.e (.call (some 7) 94 [.t 5,.t 6,.c (.fn (.func 95) [] [])])),pM 4 7]) .ret))
theorem ok62:FnOk E 62 8 [.tmp 4] mc62:=ofk func62
def mc94:MC:=(.seq (.ops [pI 6 0]) (.seq (.seq (.ops [pM 11 0,pG 12 11,pI 13 0]) (.block 0 (.loop (.seq (.ops [pB 14 13 12]) (.seq (.cond 14 .skip (.exit 0)) (.seq (.block 1 (.seq (.ops [pM 15 13,pQ 16 3 11 13,pR 17 3 16,(none,.e (.alloc 8 z2)),pM 7 15,pS 3 8 17]) (.seq (.seq (.ops [pM 18 7,pM 19 1,pG 20 19,(none,.v (.bin 21 .geq false (.t 18) (.t 20)))]) (.cond 21 (.seq (.ops [pI 6 1]) .ret) .skip)) (.seq (.ops [pM 22 1,pM 23 7,pQ 24 3 22 23,pR 25 3 24,(none,.e (.alloc 9 z2)),pS 3 9 25]) (.seq (.ops [pM 26 2,pR 27 3 8,pR 28 3 9,(none,.e (.callv (some 29) (.t 26) [.t 27,.t 28])),pM 10 29]) (.seq (.ops [pM 30 10,pD 31 30 0]) (.cond 31 (.seq (.ops [pM 32 10,pM 6 32]) .ret) .skip))))))) (.ops [pA 33 13 1,pM 13 33]))))))) (.seq (.seq (.ops [pM 34 0,pG 35 34,pM 36 1,pG 37 36,pB 38 35 37]) (.cond 38 (.seq (.ops [(none,.v (.mov 6 (.c (.int .i64 (-1)))))]) .ret) .skip)) (.seq (.ops [pI 6 0]) .ret))))
theorem ok94:FnOk E 94 39 [.tmp 6] mc94:=ofk func94
def mc124:MC:=(.seq (.ops [pY 3]) (.seq (.ops [(none,.e (.mkl 7 25 3 0 (.agg z2) [])),pM 4 7]) (.seq (.seq (.ops [pF 8 10 1,pL 9 8,pG 10 9,pI 11 0]) (.block 0 (.loop (.seq (.ops [pB 12 11 10]) (.seq (.cond 12 .skip (.exit 0)) (.seq (.block 1 (.seq (.ops [pQ 13 1 9 11,pL 14 13,pM 6 14]) (.ops [pM 15 4,pM 16 0,pM 17 6,pQ 18 3 16 17,pR 19 3 18,(none,.e (.mkl 20 25 3 1 (.agg z2) [(0,.t 19)])),(none,.e (.app 21 25 3 32 (.t 15) (.t 20))),pM 4 21]))) (.ops [pA 22 11 1,pM 11 22]))))))) (.seq (.ops [pM 23 4,pM 3 23]) .ret))))
theorem ok124:FnOk E 124 24 [.tmp 3] mc124:=ofk func124
def mc125:MC:=(.seq (.ops [pI 5 0]) (.seq (.any false (.pure0 none (oL 6 2) (.pure0 none (oM 7 0) (.pure0 none (oL 9 2) (.pure0 none (oM 10 1) (.alt none (.e (.callv (some 8) (.t 6) [.t 7])) (.base (.alt none (.e (.callv (some 11) (.t 9) [.t 10])) (.base (.alt none (oW 12 62 8 11) (.base (.pure0 none (oM 5 12) .done)) .stop)) .stop)) .stop)))))) .ret))
theorem ok125:FnOk E 125 13 [.tmp 5] mc125:=ofk func125
def mc128:MC:=(.seq (.ops [pI 5 0]) (.seq (.seq (.ops [pL 9 2,pG 10 9,pI 11 0]) (.block 0 (.loop (.seq (.ops [pB 12 11 10]) (.seq (.cond 12 .skip (.exit 0)) (.seq (.block 1 (.seq (.ops [pQ 13 2 9 11,pR 14 2 13,(none,.e (.alloc 7 [.int .i64 0,.bool false])),pS 2 7 14]) (.seq (.any false (.pure0 none (oM 15 0) (.pure0 none (oF 16 0 7) (.pure0 none (oL 17 16) (.pure0 none (oQ 18 3 15 17) (.pure0 none (oR 19 3 18) (.pure0 none (oM 20 1) (.pure0 none (oF 21 0 7) (.pure0 none (oL 22 21) (.pure0 none (oQ 23 3 20 22) (.pure0 none (oR 24 3 23) (.alt none (oW 25 95 19 24) (.base (.pure0 none (oM 8 25) .done)) .stop)))))))))))) (.seq (.seq (.ops [pF 26 1 7,pL 27 26]) (.cond 27 (.ops [pM 28 8,(none,.v (.neg 29 (.t 28))),pM 8 29]) .skip)) (.seq (.ops [pM 30 8,pD 31 30 0]) (.cond 31 (.seq (.ops [pM 32 8,pM 5 32]) .ret) .skip)))))) (.ops [pA 33 11 1,pM 11 33]))))))) (.seq (.ops [pI 5 0]) .ret)))
theorem ok128:FnOk E 128 34 [.tmp 5] mc128:=ofk func128
set_option maxRecDepth 20000
theorem orI_rg:∀ {l:List Int},(∀ x ∈ l,-1≤x∧x≤1)→-1≤orI l∧orI l≤1
 | [],_=>by simp [orI]
 | x::l,h=>by
   unfold orI
   by_cases hx:x=0
   · rw [if_pos hx];exact orI_rg fun y hy=>h y (List.mem_cons_of_mem _ hy)
   · rw [if_neg hx];exact h x (List.mem_cons_self ..)
theorem sgn_rg (a b:Int) : -1≤sgn a b∧sgn a b≤1:=by
 unfold sgn;repeat' split
 all_goals omega
theorem cmpB_rg:∀ (a b:List UInt8),-1≤Lib.compareBytes a b∧Lib.compareBytes a b≤1
 | [],[]=>by simp [Lib.compareBytes]
 | [],_::_=>by simp [Lib.compareBytes]
 | _::_,[]=>by simp [Lib.compareBytes]
 | x::xs,y::ys=>by
   have:=cmpB_rg xs ys
   unfold Lib.compareBytes
   repeat' split
   all_goals omega
theorem VL.cmp_rg (a b:VL) : -1≤a.cmp b∧a.cmp b≤1:=by
 unfold VL.cmp
 refine orI_rg fun x hx=>?_
 simp only [List.mem_cons,List.not_mem_nil,or_false] at hx
 rcases hx with rfl | rfl | rfl
 · exact sgn_rg _ _
 · exact sgn_rg _ _
 · exact cmpB_rg _ _
def lexC:List VL→List VL→Int
 | [],[]=>0
 | [],_::_=>-1
 | _::_,[]=>1
 | a::l,b::m=>if a.cmp b=0 then lexC l m else a.cmp b
theorem lexC_step {l m:List VL} {i:Nat} (hl:i<l.length) (hm:i<m.length):lexC (l.drop i) (m.drop i)=if (l.getD i default).cmp (m.getD i default)=0 then lexC (l.drop (i+1)) (m.drop (i+1)) else (l.getD i default).cmp (m.getD i default):=by
 rw [List.drop_eq_getElem_cons hl,List.drop_eq_getElem_cons hm,lexC]
 simp [List.getD_eq_getElem?_getD,hl,hm]
theorem lexC_end {l m:List VL} {i:Nat} (hl:i<l.length) (hm:m.length≤i):lexC (l.drop i) (m.drop i)=1:=by
 rw [List.drop_eq_getElem_cons hl,List.drop_eq_nil_of_le hm,lexC]
theorem lexC_nil {l m:List VL} (h:l.length≤m.length):lexC (l.drop l.length) (m.drop l.length)=if l.length<m.length then -1 else 0:=by
 rw [List.drop_length]
 split
 · rename_i h2
   rw [List.drop_eq_getElem_cons h2,lexC]
 · rw [List.drop_eq_nil_of_le (by omega),lexC]
theorem c94 (l m:List VL):ACalls E.P 94 [rowV l,rowV m,.fn (.func 95) [] []] [] (fun r H=>r=.int .i64 (lexC l m)∧H=[]):=by
 have hmax:=maxLen_eq
 refine ok94.acalls hE hm (by simp) fun N hN=>?_
 unfold mc94 z2 pI pM pG pB pQ pR pS pD pA
 simp only [lA,seval]
 refine LenR_i fun hll=>?_
 rw [List.length_map,hmax] at hll
 simp only [lA,seval,List.length_map]
 refine loop_i (fun i:Nat=>i≤l.length∧i≤m.length∧lexC l m=lexC (l.drop i) (m.drop i)) (fun i=>⟨[(0,rowV l),(1,rowV m),(2,.fn (.func 95) [] []),(11,rowV l),(12,.int .i64 l.length),(13,.int .i64 i)],[]⟩) (fun i=>l.length - i) 0 ⟨by omega,by omega,by simp⟩ (ent [] false (by simp only [lP,seval,List.length_map]<;>(try simp)<;>(try omega)) (by simp only [lP,seval,List.length_map]<;>(try simp)<;>(try omega))) ?_
 rintro i ⟨hi,him,hc⟩
 by_cases hil:i<l.length
 · have hlt:((i:Int)<(l.length:Int)):=by omega
   by_cases himl:i<m.length
   · have hr:=c95 (l.getD i default) (m.getD i default)
     have hs:=lexC_step hil himl
     have hge:((m.length:Int)≤i)=False:=by simp only [eq_iff_iff,iff_false];omega
     generalize hx:l.getD i default=x at *
     generalize hy:m.getD i default=y at *
     simp only [VL.av] at hr
     repeat' (first|(with_reducible first|(apply St.o;constructor)<;>intro _|refine And.intro (by omega) ?_|(apply Sq.o;constructor))|((with_reducible apply Sc.o true;constructor);simp only [lP,seval,IdxR_vls,hx,hy,Int.toNat_natCast,List.length_map,hlt,hge,decide_true,decide_false,VL.cs];refine ⟨_,hr,?_⟩;rintro _ _ ⟨rfl,rfl⟩;simp only [lA,lP,seval,IdxR_vls,hx,hy,Int.toNat_natCast,List.length_map,hlt,hge,decide_true,decide_false,VL.cs])|with_reducible refine any_i [] ?_|simp (disch:=omega) only [lE,seval,IdxR_vls,hx,hy,Int.toNat_natCast,List.length_map,hlt,hge,decide_true,decide_false,VL.cs])
     · rename_i h
       have h:¬ x.cmp y=0:=by simpa using h
       rw [if_neg h] at hs
       rw [hc,hs]
       exact keep_i [] false (by simp) (by simp) rfl ⟨by simp only [lP,seval],rfl⟩
     · rename_i h
       have h:x.cmp y=0:=by simpa using h
       rw [if_pos h] at hs
       exact back_i (i+1) ⟨by omega,by omega,hc.trans hs⟩ (by omega) (ent [] false)
   · have hge:((m.length:Int)≤i)=True:=by simp only [eq_iff_iff,iff_true];omega
     have he:=hc.trans (lexC_end hil (by omega))
     repeat' (first|(with_reducible first|(apply St.o;constructor)<;>intro _|refine And.intro (by omega) ?_|(apply Sq.o;constructor))|with_reducible refine any_i [] ?_|simp (disch:=omega) only [lE,seval,IdxR_vls,Int.toNat_natCast,List.length_map,hlt,hge,decide_true,decide_false])
     rw [he]
     exact keep_i [] false (by simp) (by simp) rfl ⟨by simp only [lP,seval],rfl⟩
 · obtain rfl:i=l.length:=by omega
   have he:=hc.trans (lexC_nil him)
   repeat' (first|(with_reducible first|(apply St.o;constructor)<;>intro _|refine And.intro (by omega) ?_|(apply Sq.o;constructor))|simp (disch:=omega) only [lE,seval,List.length_map,Int.lt_irrefl,decide_false])
   · rename_i h
     rw [if_pos (by omega)] at he
     rw [he]
     exact keep_i [] false (by simp) (by simp) rfl ⟨by simp only [lP,seval],rfl⟩
   · rename_i h
     rw [if_neg (by omega)] at he
     rw [he]
     exact keep_i [] false (by simp) (by simp) rfl ⟨by simp only [lP,seval],rfl⟩
theorem c62 (l m:List VL):ACalls E.P 62 [rowV l,rowV m] [] (fun r H=>r=.int .i64 (lexC l m)∧H=[]):=by
 refine ok62.acalls hE hm (by simp) fun N hN=>?_
 unfold mc62 pI pM
 simp only [lA,seval]
 repeat' (first|(with_reducible first|(apply St.o;constructor)<;>intro _|refine And.intro (by omega) ?_|(apply Sq.o;constructor))|((with_reducible apply Sc.o true;constructor);simp only [lP,seval];refine ⟨_,c94 l m,?_⟩;rintro _ _ ⟨rfl,rfl⟩;simp only [lA,lP,seval])|((with_reducible refine keep0_i ?_);simp only [lP,seval])|simp (disch:=omega) only [lE,seval])
def ordC:List OD→List VL→List VL→Int
 | [],_,_=>0
 | o::l,x,y =>
   let c:=(x.getD o.col.toNat default).cmp (y.getD o.col.toNat default)
   let c:=if o.down=true then -c else c
   if c=0 then ordC l x y else c
theorem ordC_step {l:List OD} {i:Nat} (hl:i<l.length) (x y:List VL) {c:Int} (hc:c=(if (l.getD i default).down=true then -((x.getD (l.getD i default).col.toNat default).cmp (y.getD (l.getD i default).col.toNat default)) else (x.getD (l.getD i default).col.toNat default).cmp (y.getD (l.getD i default).col.toNat default))) :
 ordC (l.drop i) x y=if c=0 then ordC (l.drop (i+1)) x y else c:=by
 subst hc
 rw [List.drop_eq_getElem_cons hl,ordC]
 simp [List.getD_eq_getElem?_getD,hl]
abbrev Fits (ord:List OD) (r:List VL):Prop:=∀ o ∈ ord,0≤o.col∧o.col<r.length
theorem c128 (ord:List OD) (x y:List VL) (hx:Fits ord x) (hy:Fits ord y):ACalls E.P 128 [rowV x,rowV y,.vp [.view 2 (ord.map OD.av)]] [] (fun r H=>r=.int .i64 (ordC ord x y)∧H=[]):=by
 have hmax:=maxLen_eq
 refine ok128.acalls hE hm (by simp) fun N hN=>?_
 unfold mc128 pI pL pG pB pQ pR pS pF pM pD pA oM oL oR oF oQ oW
 simp only [lA,seval]
 refine LenR_i fun hll=>?_
 rw [List.length_map,hmax] at hll
 simp only [lA,seval,List.length_map]
 refine loop_i (fun i:Nat=>i≤ord.length∧ordC ord x y=ordC (ord.drop i) x y) (fun i=>⟨[(0,rowV x),(1,rowV y),(9,.view 2 (ord.map OD.av)),(10,.int .i64 ord.length),(11,.int .i64 i)],[]⟩) (fun i=>ord.length - i) 0 ⟨by omega,by simp⟩ (ent [] false (by simp only [lP,seval,List.length_map]<;>(try simp)<;>(try omega)) (by simp only [lP,seval,List.length_map]<;>(try simp)<;>(try omega))) ?_
 rintro i ⟨hi,hc⟩
 by_cases hil:i<ord.length
 · have hlt:((i:Int)<(ord.length:Int)):=by omega
   have hm1:ord.getD i default ∈ ord:=by simp [List.getD_eq_getElem?_getD,hil]
   obtain ⟨hx0,hx1⟩:=hx _ hm1
   obtain ⟨hy0,hy1⟩:=hy _ hm1
   have hs:=fun c=>ordC_step (c:=c) hil x y
   generalize ho:ord.getD i default=o at *
   have hr:=c95 (x.getD o.col.toNat default) (y.getD o.col.toNat default)
   have hrg:=(x.getD o.col.toNat default).cmp_rg (y.getD o.col.toNat default)
   generalize hx:x.getD o.col.toNat default=u at *
   generalize hy:y.getD o.col.toNat default=v at *
   simp only [VL.av] at hr
   repeat' (first|(with_reducible first|(apply St.o;constructor)<;>intro _|refine And.intro (by omega) ?_|(apply Sq.o;constructor))|((with_reducible apply Sc.o true;constructor);simp only [lP,seval,IdxR_ods,IdxR_vls,ho,hx,hy,Int.toNat_natCast,List.length_map,hlt,decide_true,decide_false,VL.cs];refine ⟨_,hr,?_⟩;rintro _ _ ⟨rfl,rfl⟩;simp only [lA,lP,seval,IdxR_ods,IdxR_vls,ho,hx,hy,Int.toNat_natCast,List.length_map,hlt,decide_true,decide_false,VL.cs])|with_reducible refine any_i [] ?_|simp (disch:=omega) only [lE,seval,IdxR_ods,IdxR_vls,ho,hx,hy,Int.toNat_natCast,List.length_map,hlt,decide_true,decide_false,VL.cs])
   · rename_i hd h
     have hs:=hs (-(u.cmp v)) (by rw [if_pos hd])
     rw [if_neg (by omega)] at hs
     rw [hc,hs]
     exact keep_i [] false (by simp) (by simp) rfl ⟨by simp only [lP,seval,Int.zero_sub],rfl⟩
   · rename_i hd h
     have hs:=hs (-(u.cmp v)) (by rw [if_pos hd])
     rw [if_pos (by omega)] at hs
     exact back_i (i+1) ⟨by omega,hc.trans hs⟩ (by omega) (ent [] false)
   · rename_i hd h
     have hs:=hs (u.cmp v) (by simp [hd])
     rw [if_neg (by omega)] at hs
     rw [hc,hs]
     exact keep_i [] false (by simp) (by simp) rfl ⟨by simp only [lP,seval,Int.zero_sub],rfl⟩
   · rename_i hd h
     have hs:=hs (u.cmp v) (by simp [hd])
     rw [if_pos (by omega)] at hs
     exact back_i (i+1) ⟨by omega,hc.trans hs⟩ (by omega) (ent [] false)
 · obtain rfl:i=ord.length:=by omega
   have he:=hc.trans (by rw [List.drop_length,ordC])
   repeat' (first|(with_reducible first|(apply St.o;constructor)<;>intro _|refine And.intro (by omega) ?_|(apply Sq.o;constructor))|simp (disch:=omega) only [lE,seval,List.length_map,Int.lt_irrefl,decide_false])
   rw [he]
   exact keep_i [] false (by simp) (by simp) rfl ⟨by simp only [lP,seval],rfl⟩
def keyC (g:List Int) (r:List VL):List VL:=g.map fun c=>r.getD c.toNat default
abbrev FitsG (g:List Int) (r:List VL):Prop:=∀ c ∈ g,0≤c∧c<r.length
theorem c124 (q:QY) (r:List VL) (hf:FitsG q.grp r) (hg:q.grp.length≤1000000000):ACalls E.P 124 [rowV r,.vp q.cs] [] (fun o H=>o=rowV (keyC q.grp r)∧H=[]):=by
 have hmax:=maxLen_eq
 refine ok124.acalls hE hm (by simp) fun N hN=>?_
 unfold mc124 z2 pY pM pF pL pG pI pB pQ pR pA
 simp only [lA,seval,QY.cs]
 repeat' (first|(with_reducible first|(apply St.o;constructor)<;>intro _|refine And.intro (by omega) ?_|(apply Sq.o;constructor))|simp (disch:=omega) only [lE,seval])
 refine loop_i (fun i:Nat=>i≤q.grp.length) (fun i=>⟨[(0,rowV r),(4,.slc 0 3 i),(9,.view 1 (q.grp.map (AV.int .i64))),(10,.int .i64 q.grp.length),(11,.int .i64 i)],[.arr 25 3 (((keyC q.grp r).take i).map VL.av)]⟩) (fun i=>q.grp.length - i) 0 (by omega) (ent [0] false (by simp only [lP,seval,List.length_map]<;>(try simp)<;>(try omega)) (by simp only [lP,seval,List.length_map]<;>(try simp)<;>(try omega))) ?_
 intro i hi
 have hlen:((keyC q.grp r).take i).length=i:=by simp [keyC];omega
 by_cases hin:i<q.grp.length
 · have hlt:((i:Int)<(q.grp.length:Int)):=by omega
   obtain ⟨h1,h2⟩:=hf (q.grp.getD i 0) (by simp [List.getD_eq_getElem?_getD,hin])
   have ht:(keyC q.grp r).take (i+1)=(keyC q.grp r).take i++[r.getD (q.grp.getD i 0).toNat default]:=by
    rw [List.take_succ_eq_append_getElem (by simpa [keyC] using hin)]
    simp [keyC,List.getD_eq_getElem?_getD,hin]
   generalize hc:q.grp.getD i 0=c at *
   generalize hv:r.getD c.toNat default=v at *
   repeat' (first|(with_reducible first|(apply St.o;constructor)<;>intro _|refine And.intro (by omega) ?_|(apply Sq.o;constructor))|simp (disch:=omega) only [lE,seval,IdxR_ints,IdxR_vls,hc,hv,Int.toNat_natCast,List.length_map,hlt,decide_true,hlen])
   refine back_i (i+1) (show i+1≤q.grp.length by omega) (show q.grp.length - (i+1)<q.grp.length - i by omega) ?_
   rw [ht]
   exact (ent [2] false (by simp only [lP,seval,hlen,pa_vls,List.map_append,List.map_cons,List.map_nil,VL.av]<;>(try simp)<;>(try omega)) (by simp only [lP,seval,hlen,pa_vls,List.map_append,List.map_cons,List.map_nil,VL.av]<;>(try simp)<;>(try omega)))
 · obtain rfl:i=q.grp.length:=by omega
   have ht:(keyC q.grp r).take q.grp.length=keyC q.grp r:=List.take_of_length_le (by simp [keyC])
   rw [ht] at *
   repeat' (first|(with_reducible first|(apply St.o;constructor)<;>intro _|refine And.intro (by omega) ?_|(apply Sq.o;constructor))|simp (disch:=omega) only [lE,seval,List.length_map,Int.lt_irrefl,decide_false])
   have hl:q.grp.length=((keyC q.grp r).map VL.av).length:=by simp [keyC]
   rw [hl]
   exact keep_i [] true (by simp) (by simp) rfl ⟨by simp only [lP,seval,vw_vls,List.take_length],rfl⟩
theorem c125 (q:QY) (x y:List VL) (hx:FitsG q.grp x) (hy:FitsG q.grp y) (hg:q.grp.length≤1000000000):ACalls E.P 125 [rowV x,rowV y,.vp [.fn (.func 124) [] [.vp q.cs]]] [] (fun r H=>r=.int .i64 (lexC (keyC q.grp x) (keyC q.grp y))∧H=[]):=by
 refine ok125.acalls hE hm (by simp) fun N hN=>?_
 unfold mc125 pI oM oL oW
 simp only [lA,seval]
 have hcx:=c124 q x hx hg
 have hcy:=c124 q y hy hg
 have hc:=c62 (keyC q.grp x) (keyC q.grp y)
 repeat' (first|(with_reducible first|(apply St.o;constructor)<;>intro _|refine And.intro (by omega) ?_|(apply Sq.o;constructor))|((with_reducible apply Sc.o true;constructor);simp only [lP,seval,List.nil_append,List.cons_append];refine ⟨_,hc,?_⟩;rintro _ _ ⟨rfl,rfl⟩;simp only [lA,lP,seval,List.nil_append,List.cons_append])|((with_reducible apply Sc.o false;constructor);simp only [lP,seval,List.nil_append,List.cons_append];(first|refine ⟨_,hcx,?_⟩|refine ⟨_,hcy,?_⟩);rintro _ _ ⟨rfl,rfl⟩;simp only [lA,lP,seval,List.nil_append,List.cons_append])|with_reducible refine any_i [] ?_|simp (disch:=omega) only [lE,seval,List.nil_append,List.cons_append])
 exact keep_i [] false (by simp) (by simp) rfl ⟨by simp only [lP,seval],rfl⟩
end Go.Proofs.Try
