/-
 A part of the proof: see the text of the law.
-/
import Derived.Test.YtchlampphcaomaaGreatDoorEad
import Derived.Test.YtchlampphcaomaaGreatDoorPaa
set_option linter.unusedSimpArgs false
set_option linter.unusedVariables false
namespace Go.Proofs.Try
open Go.Proofs.Tryz
open Go.Al
set_option maxRecDepth 100000
def mc170:MC:=(.seq (.ops [pM 12 2,pM 13 1,(none,.v (.bin 14 .sub false (.t 12) (.t 13))),pM 10 14]) (.seq (.ops [pM 15 3,pM 16 2,(none,.v (.bin 17 .sub false (.t 15) (.t 16))),pM 11 17]) (.seq (.block 0 (.loop (.seq (.seq (.ops [pM 18 10,pM 19 11,(none,.v (.bin 20 .neq false (.t 18) (.t 19)))]) (.cond 20 .skip (.exit 0))) (.block 1 (.seq (.ops [pM 21 10,pM 22 11,(none,.v (.bin 23 .gtr false (.t 21) (.t 22)))]) (.cond 23 (.seq (.ops [pM 24 0,pM 25 2,pM 26 10,(none,.v (.bin 27 .sub false (.t 25) (.t 26))),pM 28 2,pM 29 11,pM 30 4,(none,.e (.call (some 31) 176 [.t 24,.t 27,.t 28,.t 29,.t 30]))]) (.ops [pM 32 10,pM 33 11,(none,.v (.bin 34 .sub false (.t 32) (.t 33))),pM 10 34])) (.seq (.ops [pM 35 0,pM 36 2,pM 37 10,(none,.v (.bin 38 .sub false (.t 36) (.t 37))),pM 39 2,pM 40 11,(none,.v (.bin 41 .add false (.t 39) (.t 40))),pM 42 10,(none,.v (.bin 43 .sub false (.t 41) (.t 42))),pM 44 10,pM 45 4,(none,.e (.call (some 46) 176 [.t 35,.t 38,.t 43,.t 44,.t 45]))]) (.ops [pM 47 11,pM 48 10,(none,.v (.bin 49 .sub false (.t 47) (.t 48))),pM 11 49])))))))) (.ops [pM 50 0,pM 51 2,pM 52 10,(none,.v (.bin 53 .sub false (.t 51) (.t 52))),pM 54 2,pM 55 10,pM 56 4,(none,.e (.call (some 57) 176 [.t 50,.t 53,.t 54,.t 55,.t 56]))]))))
theorem ok170:FnOk E 170 58 [] mc170:=ofk func170
abbrev q176_0:AT:=.pure0 none (oQ 36 1 16 19) (.alt none (.e (.store 1 false (.t 36) (.t 29))) (.pure0 none (oQ 37 1 20 23) (.alt none (.e (.store 1 false (.t 37) (.t 35))) .done .stop)) .stop)
def mc176:MC:=(.seq (.ops [pI 10 0]) (.block 0 (.loop (.seq (.seq (.ops [pM 11 10,pM 12 3,pB 13 11 12]) (.cond 13 .skip (.exit 0))) (.seq (.block 1 (.any true (.pure0 none (oM 16 0) (.pure0 none (oM 17 1) (.pure0 none (oM 18 10) (.pure0 none (.v (.bin 19 .add false (.t 17) (.t 18))) (.pure0 none (oM 20 0) (.pure0 none (oM 21 2) (.pure0 none (oM 22 10) (.pure0 none (.v (.bin 23 .add false (.t 21) (.t 22))) (.pure0 none (oM 24 0) (.pure0 none (oM 25 2) (.pure0 none (oM 26 10) (.pure0 none (.v (.bin 27 .add false (.t 25) (.t 26))) (.pure0 none (oQ 28 1 24 27) (.pure0 none (oM 30 0) (.pure0 none (oM 31 1) (.pure0 none (oM 32 10) (.pure0 none (.v (.bin 33 .add false (.t 31) (.t 32))) (.pure0 none (oQ 34 1 30 33) (.alt none (oL 29 28) (.alt none (oL 35 34) q176_0 .stop) (.alt none (oL 35 34) (.alt none (oL 29 28) q176_0 .stop) .stop)))))))))))))))))))))) (.ops [pM 14 10,pA 15 14 1,pM 10 15]))))))
theorem ok176:FnOk E 176 38 [] mc176:=ofk func176
set_option maxRecDepth 20000
set_option maxHeartbeats 8000000
abbrev TR:=List VL × Nat
abbrev tav (x:TR):AV:=rowV x.1
theorem pa_tav {H:List AObj} {l:List Nat} {bor:Bool} {n:Nat} {xs:List TR}:(xs.map tav).map (pa H l bor n)=xs.map tav:=map_same (fun _=>pa_view) xs
theorem renL_tav {ρ:Nat→Nat} {xs:List TR}:renL ρ (xs.map tav)=xs.map tav:=renL_map (fun _=>rfl) xs
theorem epR_map {P:Program} {m:Nat} {N:FN} {c:Kn} {α:Type} {f:α→AV} {E:TypeId} {sz0:Nat} {xs:List α} {n:Int} {q id sz d:Nat} (h:q=xs.length) (h0:0≤n) (h1:n<q):epR P m N (some (.arr E sz0 (xs.map f))) n q id sz d c=rK P m N c d (.ep id sz n.toNat 0) :=
 epR_ne (by simpa using h) h0 h1
theorem stE_tav {P:Program} {m:Nat} {N:FN} {fr:List (Nat × AV)} {H:List AObj} {q:Ke} {xs:List TR} {id sz' n:Nat} {E':TypeId} {v:TR} (hn:n<xs.length) :
 stE P m N (some (.arr E' sz' (xs.map tav))) 1 [rowV v.1] (rowV v.1) id 1 n 0 fr H q=(1=sz'∧rE P m N q fr (H.set id (.arr E' sz' ((xs.set n v).map tav)))):=by
 have:=stE_flat (P:=P) (m:=m) (N:=N) (fr:=fr) (H:=H) (q:=q) (f:=tav) (xs:=xs) (size:=1) (id:=id) (sz:=1) (sz':=sz') (n:=n) (off:=0) (E':=E') (cs:=[rowV v.1]) (x:=rowV v.1) (fun _=>trivial) hn
 rw [this,List.map_set]
 simp
section
variable {α:Type}
theorem get_mid {A B:List α} {x:α} {n:Nat} (h:n=A.length):(A++x::B)[n]?=some x:=by subst h;simp
theorem set_mid {A B:List α} {x y:α} {n:Nat} (h:n=A.length):(A++x::B).set n y=A++y::B:=by subst h;simp
theorem drop_one {U:List α} {i:Nat} (h:i<U.length):U.drop i=U[i]::U.drop (i+1):=List.drop_eq_getElem_cons h
theorem take_one {U:List α} {i:Nat} (h:i<U.length):U.take (i+1)=U.take i++[U[i]]:=List.take_succ_eq_append_getElem h
def swp (X U M V Y:List α) (i:Nat):List α:=X++(V.take i++(U.drop i++(M++(U.take i++(V.drop i++Y)))))
theorem swp_zero (X U M V Y:List α):swp X U M V Y 0=X++(U++(M++(V++Y))):=by simp [swp]
theorem swp_done {X U M V Y:List α} (h:U.length=V.length):swp X U M V Y U.length=X++(V++(M++(U++Y))):=by
 have e1:V.drop U.length=[]:=List.drop_eq_nil_of_le (by omega)
 have e2:V.take U.length=V:=List.take_of_length_le (by omega)
 simp [swp,e1,e2]
theorem swp_length {X U M V Y:List α} {i:Nat} (h:U.length=V.length) (hi:i≤U.length):(swp X U M V Y i).length=X.length+(U.length+(M.length+(V.length+Y.length))):=by simp [swp];omega
theorem swp_get1 {X U M V Y:List α} {i:Nat} (h:U.length=V.length) (hi:i<U.length):(swp X U M V Y i)[X.length+i]?=some U[i]:=by
 unfold swp
 rw [drop_one hi,← List.append_assoc,List.cons_append]
 exact get_mid (by simp;omega)
theorem swp_get2 {X U M V Y:List α} {i:Nat} (h:U.length=V.length) (hi:i<U.length):(swp X U M V Y i)[X.length+U.length+M.length+i]?=some (V[i]'(by omega)):=by
 unfold swp
 rw [drop_one (U:=V) (show i<V.length by omega),List.cons_append,← List.append_assoc,← List.append_assoc,← List.append_assoc,← List.append_assoc]
 exact get_mid (by simp;omega)
theorem swp_next {X U M V Y:List α} {i:Nat} (h:U.length=V.length) (hi:i<U.length):((swp X U M V Y i).set (X.length+i) (V[i]'(by omega))).set (X.length+U.length+M.length+i) U[i]=swp X U M V Y (i+1):=by
 have e1:(swp X U M V Y i).set (X.length+i) (V[i]'(by omega))=X++(V.take (i+1)++(U.drop (i+1)++(M++(U.take i++(V.drop i++Y))))):=by
  unfold swp
  rw [drop_one hi,← List.append_assoc,List.cons_append,set_mid (by simp;omega),take_one (U:=V) (show i<V.length by omega)]
  simp only [List.append_assoc,List.cons_append,List.nil_append]
 rw [e1]
 unfold swp
 rw [drop_one (U:=V) (show i<V.length by omega),List.cons_append,← List.append_assoc,← List.append_assoc,← List.append_assoc,← List.append_assoc,set_mid (by simp;omega),take_one hi]
 simp only [List.append_assoc,List.cons_append,List.nil_append]
end
theorem c176 (g:FuncId) (caps:List (List AV)) (X U M V Y:List TR) (hl:U.length=V.length) (hn:X.length+(U.length+(M.length+(V.length+Y.length)))≤1000000000) (n:Nat) (hN:n=X.length+(U.length+(M.length+(V.length+Y.length)))) (a b k:Int) (ha:a=X.length) (hb:b=(X.length+U.length+M.length:Nat)) (hk:k=U.length) :
 ACalls E.P 176 [.slc 0 1 n,.int .i64 a,.int .i64 b,.int .i64 k,.fn (.func g) [] (caps.map AV.vp)] [.arr 69 1 ((X++(U++(M++(V++Y)))).map tav)] (fun r H=>r=.tup []∧H=[.arr 69 1 ((X++(V++(M++(U++Y)))).map tav)]):=by
 have hmax:=maxLen_eq
 subst ha hb hk
 refine ok176.acalls hE hm (by simp) fun N hN=>?_
 unfold mc176 q176_0 pI pM pB pA oM oL oQ
 simp only [lA,seval]
 repeat' (first|(with_reducible first|(apply St.o;constructor)<;>intro _|refine And.intro (by omega) ?_|(apply Sq.o;constructor))|simp (disch:=omega) only [lE,seval])
 refine loop_i (fun i:Nat=>i≤U.length) (fun i=>⟨[(0,.slc 0 1 n),(1,.int .i64 X.length),(2,.int .i64 (X.length+U.length+M.length:Nat)),(3,.int .i64 U.length),(10,.int .i64 i)],[.arr 69 1 ((swp X U M V Y i).map tav)]⟩) (fun i=>U.length - i) 0 (by omega) (by rw [swp_zero];exact (ent [0] false (by simp only [lP,seval,pa_tav]<;>(try simp)<;>(try omega)) (by simp only [lP,seval,pa_tav]<;>(try simp)<;>(try omega)))) ?_
 intro i hi
 have hsl:=swp_length (X:=X) (M:=M) (Y:=Y) hl hi
 by_cases hin:i<U.length
 · have hlt:((i:Int)<(U.length:Int)):=by omega
   have g1:=swp_get1 (X:=X) (M:=M) (Y:=Y) hl hin
   have g2:=swp_get2 (X:=X) (M:=M) (Y:=Y) hl hin
   have hnx:=swp_next (X:=X) (M:=M) (Y:=Y) hl hin
   generalize hS:swp X U M V Y i=S at *
   have n1:((X.length:Int)+i).toNat=X.length+i:=by omega
   have n2:(((X.length+U.length+M.length:Nat):Int)+i).toNat=X.length+U.length+M.length+i:=by omega
   have x1:(S.map tav)[X.length+i]?=some (rowV U[i].1):=by rw [List.getElem?_map,g1];rfl
   have x2:(S.map tav)[X.length+U.length+M.length+i]?=some (rowV (V[i]'(by omega)).1):=by rw [List.getElem?_map,g2];rfl
   have l2:(S.set (X.length+i) (V[i]'(by omega))).length=S.length:=List.length_set
   repeat' (first|(with_reducible first|(apply St.o;constructor)<;>intro _|refine And.intro (by omega) ?_|(apply Sq.o;constructor))|with_reducible refine any_i [0] ?_|simp (disch:=omega) only [lE,seval,hlt,decide_true,epR_map,n1,n2,x1,x2,stE_tav])
   all_goals rw [hnx]
   all_goals exact back_i (i+1) (by omega) (by omega) (ent [0] false (by simp only [lP,seval,pa_tav]<;>(try simp)<;>(try omega)) (by simp only [lP,seval,pa_tav]<;>(try simp)<;>(try omega)))
 · obtain rfl:i=U.length:=by omega
   rw [swp_done hl]
   repeat' (first|(with_reducible first|(apply St.o;constructor)<;>intro _|refine And.intro (by omega) ?_|(apply Sq.o;constructor))|simp (disch:=omega) only [lE,seval,Int.lt_irrefl,decide_false])
   exact keep_i [0] false (by simp) (by simp) rfl ⟨by simp only [lP,seval],by simp only [lP,seval,pa_tav]⟩
theorem c170 (g:FuncId) (caps:List (List AV)) (X U V Y:List TR) (hU:0<U.length) (hV:0<V.length) (n:Nat) (hN:n=X.length+(U.length+(V.length+Y.length))) (hn:n≤1000000000) (a m b:Int) (ha:a=X.length) (hm2:m=(X.length+U.length:Nat)) (hb:b=(X.length+U.length+V.length:Nat)) :
 ACalls E.P 170 [.slc 0 1 n,.int .i64 a,.int .i64 m,.int .i64 b,.fn (.func g) [] (caps.map AV.vp)] [.arr 69 1 ((X++(U++(V++Y))).map tav)] (fun r H=>r=.tup []∧H=[.arr 69 1 ((X++(V++(U++Y))).map tav)]):=by
 have hmax:=maxLen_eq
 subst ha hm2 hb
 refine ok170.acalls hE hm (by simp) fun N hN2=>?_
 unfold mc170 pM
 simp only [lA,seval]
 repeat' (first|(with_reducible first|(apply St.o;constructor)<;>intro _|refine And.intro (by omega) ?_|(apply Sq.o;constructor))|simp (disch:=omega) only [lE,seval])
 refine loop_i (fun s:List TR × List TR × List TR × List TR=>0<s.2.1.length∧0<s.2.2.1.length∧s.1.length+s.2.1.length=X.length+U.length∧s.1.length+(s.2.1.length+(s.2.2.1.length+s.2.2.2.length))=n∧s.1++(s.2.2.1++(s.2.1++s.2.2.2))=X++(V++(U++Y)))
  (fun s=>⟨[(0,.slc 0 1 n),(2,.int .i64 (X.length+U.length:Nat)),(4,.fn (.func g) [] (caps.map AV.vp)),(10,.int .i64 s.2.1.length),(11,.int .i64 s.2.2.1.length)],[.arr 69 1 ((s.1++(s.2.1++(s.2.2.1++s.2.2.2))).map tav)]⟩) (fun s=>s.2.1.length+s.2.2.1.length) (X,U,V,Y) ⟨hU,hV,rfl,by simp only;omega,rfl⟩ (ent [0] false (by simp only [lP,seval,pa_tav,pa_vps]<;>(try simp)<;>(try omega)) (by simp only [lP,seval,pa_tav,pa_vps]<;>(try simp)<;>(try omega))) ?_
 rintro ⟨A,P,Q,B⟩ ⟨h1,h2,h3,h4,h5⟩
 simp only at h1 h2 h3 h4 h5 ⊢
 by_cases hpq:P.length=Q.length
 · have h176:=c176 g caps A P [] Q B hpq (by simp;omega) n (by simp;omega) ((X.length+U.length:Nat) - (P.length:Int)) (X.length+U.length:Nat) P.length (by omega) (by simp;omega) rfl
   simp only [List.nil_append] at h176
   rw [h5] at h176
   have hne:((P.length:Int)=Q.length)=True:=by simp [hpq]
   repeat' (first|(with_reducible first|(apply St.o;constructor)<;>intro _|refine And.intro (by omega) ?_|(apply Sq.o;constructor))|simp (disch:=omega) only [lE,seval,hne])
   refine callN_i [0] false (by simp) (by simp) ?_
   simp only [lP,seval,pa_tav,pa_vps]
   refine ⟨_,h176,?_⟩
   rintro _ _ ⟨rfl,rfl⟩
   simp only [lA,lP,seval,renL_tav]
   repeat' (first|(with_reducible first|(apply St.o;constructor)<;>intro _|refine And.intro (by omega) ?_|(apply Sq.o;constructor))|simp (disch:=omega) only [lE,seval])
   exact keep_i [0] false (by simp) (by simp) rfl ⟨by simp only [lP,seval],by simp only [lP,seval,pa_tav]⟩
 · have hne:((P.length:Int)=Q.length)=False:=by simp;omega
   by_cases hlt:Q.length<P.length
   · have hgt:((Q.length:Int)<P.length)=True:=by simp;omega
     have h176:=c176 g caps A (P.take Q.length) (P.drop Q.length) Q B (by simp;omega) (by simp;omega) n (by simp;omega) ((X.length+U.length:Nat) - (P.length:Int)) (X.length+U.length:Nat) Q.length (by omega) (by simp;omega) (by simp;omega)
     have e1:A++(P.take Q.length++(P.drop Q.length++(Q++B)))=A++(P++(Q++B)):=by rw [← List.append_assoc (P.take Q.length),List.take_append_drop]
     rw [e1] at h176
     repeat' (first|(with_reducible first|(apply St.o;constructor)<;>intro _|refine And.intro (by omega) ?_|(apply Sq.o;constructor))|simp (disch:=omega) only [lE,seval,hne,hgt])
     refine callN_i [0] false (by simp) (by simp) ?_
     simp only [lP,seval,pa_tav,pa_vps]
     refine ⟨_,h176,?_⟩
     rintro _ _ ⟨rfl,rfl⟩
     simp only [lA,lP,seval,renL_tav]
     repeat' (first|(with_reducible first|(apply St.o;constructor)<;>intro _|refine And.intro (by omega) ?_|(apply Sq.o;constructor))|simp (disch:=omega) only [lE,seval])
     refine back_i (A++Q,P.drop Q.length,P.take Q.length,B) ⟨by simp only [List.length_drop];omega,by simp only [List.length_take];omega,by simp only [List.length_append,List.length_drop];omega,by simp only [List.length_append,List.length_drop,List.length_take];omega,?_⟩ (by simp only [List.length_drop,List.length_take];omega) ?_
     · simp only
       rw [← h5,List.append_assoc,← List.append_assoc (P.take Q.length),List.take_append_drop]
     · have e2:((P.drop Q.length).length:Int)=P.length - Q.length:=by rw [List.length_drop];omega
       have e3:((P.take Q.length).length:Int)=Q.length:=by rw [List.length_take];omega
       simp only [e2,e3,List.append_assoc]
       exact (ent [0] false (by simp only [lP,seval,pa_tav,pa_vps]<;>(try simp)<;>(try omega)) (by simp only [lP,seval,pa_tav,pa_vps]<;>(try simp)<;>(try omega)))
   · have hgt:((Q.length:Int)<P.length)=False:=by simp;omega
     have h176:=c176 g caps A P (Q.take (Q.length - P.length)) (Q.drop (Q.length - P.length)) B (by simp;omega) (by simp;omega) n (by simp;omega) ((X.length+U.length:Nat) - (P.length:Int)) ((X.length+U.length:Nat)+(Q.length:Int) - P.length) P.length (by omega) (by simp;omega) rfl
     have e1:A++(P++(Q.take (Q.length - P.length)++(Q.drop (Q.length - P.length)++B)))=A++(P++(Q++B)):=by rw [← List.append_assoc (Q.take _),List.take_append_drop]
     rw [e1] at h176
     repeat' (first|(with_reducible first|(apply St.o;constructor)<;>intro _|refine And.intro (by omega) ?_|(apply Sq.o;constructor))|simp (disch:=omega) only [lE,seval,hne,hgt])
     refine callN_i [0] false (by simp) (by simp) ?_
     simp only [lP,seval,pa_tav,pa_vps]
     refine ⟨_,h176,?_⟩
     rintro _ _ ⟨rfl,rfl⟩
     simp only [lA,lP,seval,renL_tav]
     repeat' (first|(with_reducible first|(apply St.o;constructor)<;>intro _|refine And.intro (by omega) ?_|(apply Sq.o;constructor))|simp (disch:=omega) only [lE,seval])
     refine back_i (A,Q.drop (Q.length - P.length),Q.take (Q.length - P.length),P++B) ⟨by simp only [List.length_drop];omega,by simp only [List.length_take];omega,by simp only [List.length_drop];omega,by simp only [List.length_append,List.length_drop,List.length_take];omega,?_⟩ (by simp only [List.length_drop,List.length_take];omega) ?_
     · simp only
       rw [← h5,← List.append_assoc (Q.take _),List.take_append_drop]
     · have e2:((Q.drop (Q.length - P.length)).length:Int)=P.length:=by rw [List.length_drop];omega
       have e3:((Q.take (Q.length - P.length)).length:Int)=Q.length - P.length:=by rw [List.length_take];omega
       simp only [e2,e3]
       exact (ent [0] false (by simp only [lP,seval,pa_tav,pa_vps]<;>(try simp)<;>(try omega)) (by simp only [lP,seval,pa_tav,pa_vps]<;>(try simp)<;>(try omega)))
set_option maxRecDepth 100000
abbrev q134_0:AT:=.pure0 none (oQ 51 1 37 38) (.alt none (.e (.store 1 false (.t 51) (.t 46))) (.pure0 none (oQ 52 1 39 41) (.alt none (.e (.store 1 false (.t 52) (.t 50))) .done .stop)) .stop)
def mc134:MC:=(.seq (.ops [pM 10 1,pA 11 10 1,pM 8 11]) (.block 0 (.loop (.seq (.seq (.ops [pM 12 8,pM 13 2,pB 14 12 13]) (.cond 14 .skip (.exit 0))) (.seq (.block 1 (.seq (.ops [pM 17 8,pM 9 17]) (.block 2 (.loop (.seq (.seq (.any false (.pure0 none (oM 18 9) (.pure0 none (oM 19 1) (.pure0 none (.v (.bin 20 .gtr false (.t 18) (.t 19))) (.pure0 none (oM 21 20) (.pure0 (some (21,true)) (oM 22 3) (.pure0 (some (21,true)) (oM 23 0) (.pure0 (some (21,true)) (oM 24 9) (.pure0 (some (21,true)) (oQ 25 1 23 24) (.pure0 (some (21,true)) (oL 26 25) (.pure0 (some (21,true)) (oM 27 0) (.pure0 (some (21,true)) (oM 28 9) (.pure0 (some (21,true)) (.v (.bin 29 .sub false (.t 28) (.c (.int .i64 1)))) (.pure0 (some (21,true)) (oQ 30 1 27 29) (.pure0 (some (21,true)) (oL 31 30) (.alt (some (21,true)) (.e (.callv (some 32) (.t 22) [.t 26,.t 31])) (.base (.pure0 (some (21,true)) (.v (.bin 33 .lss false (.t 32) (.c (.int .i64 0)))) (.pure0 none (oP 34 21 33) .done))) .stop)))))))))))))))) (.cond 34 .skip (.exit 2))) (.seq (.block 3 (.any true (.pure0 none (oM 37 0) (.pure0 none (oM 38 9) (.pure0 none (oM 39 0) (.pure0 none (oM 40 9) (.pure0 none (.v (.bin 41 .sub false (.t 40) (.c (.int .i64 1)))) (.pure0 none (oM 42 0) (.pure0 none (oM 43 9) (.pure0 none (.v (.bin 44 .sub false (.t 43) (.c (.int .i64 1)))) (.pure0 none (oQ 45 1 42 44) (.pure0 none (oM 47 0) (.pure0 none (oM 48 9) (.pure0 none (oQ 49 1 47 48) (.alt none (oL 46 45) (.alt none (oL 50 49) q134_0 .stop) (.alt none (oL 50 49) (.alt none (oL 46 45) q134_0 .stop) .stop)))))))))))))))) (.ops [pM 35 9,(none,.v (.bin 36 .sub false (.t 35) (.c (.int .i64 1)))),pM 9 36]))))))) (.ops [pM 15 8,pA 16 15 1,pM 8 16]))))))
theorem ok134:FnOk E 134 53 [] mc134:=ofk func134
set_option maxRecDepth 20000
def Cmp (g:FuncId) (caps:List (List AV)) (G:List VL→Prop) (cf:List VL→List VL→Int):Prop :=
 ∀ x y,G x→G y→ACalls E.P g (rowV x::rowV y::caps.map AV.vp) [] (fun r H=>r=.int .i64 (cf x y)∧H=[])
abbrev All (G:List VL→Prop) (l:List TR):Prop:=∀ x ∈ l,G x.1
def ins (X S:List TR) (x:TR) (Y:List TR) (j:Nat):List TR:=X++(S.take j++(x::(S.drop j++Y)))
theorem ins_length {X S:List TR} {x:TR} {Y:List TR} {j:Nat} (hj:j≤S.length):(ins X S x Y j).length=X.length+(S.length+(1+Y.length)):=by simp [ins];omega
theorem ins_get {X S:List TR} {x:TR} {Y:List TR} {j:Nat} (hj:j≤S.length):(ins X S x Y j)[X.length+j]?=some x:=by
 unfold ins
 rw [← List.append_assoc]
 exact get_mid (by simp;omega)
theorem ins_prev {X S:List TR} {x:TR} {Y:List TR} {j:Nat} (hj:j<S.length):(ins X S x Y (j+1))[X.length+j]?=some S[j]:=by
 unfold ins
 rw [take_one hj,List.append_assoc,List.cons_append,← List.append_assoc]
 exact get_mid (by simp;omega)
theorem ins_next {X S:List TR} {x:TR} {Y:List TR} {j:Nat} (hj:j<S.length):((ins X S x Y (j+1)).set (X.length+(j+1)) S[j]).set (X.length+j) x=ins X S x Y j:=by
 have e1:(ins X S x Y (j+1)).set (X.length+(j+1)) S[j]=(X++S.take j)++S[j]::(S[j]::(S.drop (j+1)++Y)):=by
  unfold ins
  rw [← List.append_assoc,set_mid (by simp;omega),take_one hj]
  simp only [List.append_assoc,List.cons_append,List.nil_append]
 rw [e1,set_mid (by simp;omega)]
 unfold ins
 rw [drop_one hj]
 simp only [List.append_assoc,List.cons_append,List.nil_append]
variable {g:FuncId} {caps:List (List AV)} {G:List VL→Prop} {cf:List VL→List VL→Int}
theorem c134 (hc:Cmp g caps G cf) (hS:Swo cf) (X M Y:List TR) (hM:All G M) (hp:M.Pairwise fun x y=>x.2<y.2) (n:Nat) (hN:n=X.length+(M.length+Y.length)) (hn:n≤1000000000) (a b:Int) (ha:a=X.length) (hb:b=(X.length+M.length:Nat)) :
 ACalls E.P 134 [.slc 0 1 n,.int .i64 a,.int .i64 b,.fn (.func g) [] (caps.map AV.vp)] [.arr 69 1 ((X++(M++Y)).map tav)] (fun r H=>r=.tup []∧H=[.arr 69 1 ((X++(srt cf M++Y)).map tav)]):=by
 have hmax:=maxLen_eq
 subst ha hb
 have hT:Tags M:=by
  unfold Tags
  rw [List.Nodup,List.pairwise_map]
  exact hp.imp fun h=>by omega
 refine ok134.acalls hE hm (by simp) fun N hN2=>?_
 unfold mc134 q134_0 pM pA pB oM oL oP oQ
 simp only [lA,seval]
 repeat' (first|(with_reducible first|(apply St.o;constructor)<;>intro _|refine And.intro (by omega) ?_|(apply Sq.o;constructor))|simp (disch:=omega) only [lE,seval])
 refine loop_i (fun k:Nat=>1≤k∧(k≤M.length∨k=1)) (fun k=>⟨[(0,.slc 0 1 n),(1,.int .i64 X.length),(2,.int .i64 (X.length+M.length:Nat)),(3,.fn (.func g) [] (caps.map AV.vp)),(8,.int .i64 (X.length+k:Nat))],[.arr 69 1 ((X++(srt cf (M.take k)++(M.drop k++Y))).map tav)]⟩) (fun k=>M.length - k) 1 ⟨by omega,.inr rfl⟩ ?_ ?_
 · have e:srt cf (M.take 1)++(M.drop 1++Y)=M++Y:=by
    have:srt cf (M.take 1)=M.take 1:=by
     refine srt_self hS (Tags.left (b:=M.drop 1) (by rw [List.take_append_drop];exact hT)) ?_
     cases M <;> simp
    rw [this,← List.append_assoc,List.take_append_drop]
   rw [e]
   exact (ent [0] false (by simp only [lP,seval,pa_tav,pa_vps]<;>(try simp)<;>(try omega)) (by simp only [lP,seval,pa_tav,pa_vps]<;>(try simp)<;>(try omega)))
 rintro k ⟨hk,hkM⟩
 by_cases hkl:k<M.length
 · have hlt:(((X.length+k:Nat):Int)<((X.length+M.length:Nat):Int))=True:=by simp;omega
   have hTk:Tags (M.take k):=Tags.left (b:=M.drop k) (by rw [List.take_append_drop];exact hT)
   have hSl:(srt cf (M.take k)).length=k:=by rw [srt_length];simp;omega
   have hup:=srt_up hS (M.take k)
   have hmem:∀ y ∈ srt cf (M.take k),y.2<M[k].2∧G y.1:=fun y hy=>by
    have hy':=srt_mem.1 hy
    obtain ⟨j,hj,rfl⟩:=List.mem_take_iff_getElem.1 hy'
    exact ⟨List.pairwise_iff_getElem.1 hp j k (by omega) hkl (by omega),hM _ (List.getElem_mem _)⟩
   have hGx:G M[k].1:=hM _ (List.getElem_mem _)
   have hdk:=drop_one hkl
   have hend:∀ j,j≤k→(∀ y ∈ (srt cf (M.take k)).take j,leT cf y M[k]=true)→(∀ y ∈ (srt cf (M.take k)).drop j,leT cf M[k] y=true) →
    ins X (srt cf (M.take k)) M[k] (M.drop (k+1)++Y) j=X++(srt cf (M.take (k+1))++(M.drop (k+1)++Y)):=fun j hj h1 h2=>by
    have e:=srt_eq (cf:=cf) hS (l:=M.take (k+1)) (Tags.left (b:=M.drop (k+1)) (by rw [List.take_append_drop];exact hT)) (m:=(srt cf (M.take k)).take j++M[k]::(srt cf (M.take k)).drop j) (put_perm.trans (by
     rw [take_one hkl]
     exact ((srt_perm _).cons _).trans (List.perm_append_comm (l₁:=[M[k]])))) (put_up hS hup (by omega) h1 h2)
    rw [← e]
    simp [ins]
   have hst:X++(srt cf (M.take k)++(M.drop k++Y))=ins X (srt cf (M.take k)) M[k] (M.drop (k+1)++Y) k:=by
    have e1:(srt cf (M.take k)).take k=srt cf (M.take k):=List.take_of_length_le (by omega)
    have e2:(srt cf (M.take k)).drop k=[]:=List.drop_eq_nil_of_le (by omega)
    unfold ins
    rw [e1,e2,hdk]
    simp only [List.append_assoc,List.nil_append,List.cons_append]
   rw [hst]
   generalize hx:M[k]=x at *
   generalize hSS:srt cf (M.take k)=S at *
   repeat' (first|(with_reducible first|(apply St.o;constructor)<;>intro _|refine And.intro (by omega) ?_|(apply Sq.o;constructor))|simp (disch:=omega) only [lE,seval,hlt,decide_true])
   refine loop_i (fun j:Nat=>j≤k∧∀ y ∈ S.drop j,leT cf x y=true) (fun j=>⟨[(0,.slc 0 1 n),(1,.int .i64 X.length),(2,.int .i64 (X.length+M.length:Nat)),(3,.fn (.func g) [] (caps.map AV.vp)),(8,.int .i64 (X.length+k:Nat)),(9,.int .i64 (X.length+j:Nat))],[.arr 69 1 ((ins X S x (M.drop (k+1)++Y) j).map tav)]⟩) (fun j=>j) k ⟨Nat.le_refl _,by rw [List.drop_eq_nil_of_le (by omega)];simp⟩ (ent [0] false (by simp only [lP,seval,pa_tav,pa_vps]<;>(try simp)<;>(try omega)) (by simp only [lP,seval,pa_tav,pa_vps]<;>(try simp)<;>(try omega))) ?_
   rintro j ⟨hj,hge⟩
   have hil:=ins_length (X:=X) (S:=S) (x:=x) (Y:=M.drop (k+1)++Y) (j:=j) (by omega)
   have hnl:n=(ins X S x (M.drop (k+1)++Y) j).length:=by rw [hil];simp;omega
   cases j with
   | zero =>
     have he:=hend 0 (by omega) (by simp) hge
     repeat' (first|(with_reducible first|(apply St.o;constructor)<;>intro _|refine And.intro (by omega) ?_|(apply Sq.o;constructor))|with_reducible refine any_i [] ?_|simp (disch:=omega) only [lE,seval,Nat.add_zero,Int.lt_irrefl,decide_false])
     rw [he]
     exact back_i (k+1) ⟨by omega,.inl (by omega)⟩ (by omega) (ent [0] false (by simp only [lP,seval,pa_tav,pa_vps]<;>(try simp)<;>(try omega)) (by simp only [lP,seval,pa_tav,pa_vps]<;>(try simp)<;>(try omega)))
   | succ j =>
     have hgt:((X.length:Int)<((X.length+(j+1):Nat):Int))=True:=by simp only [eq_iff_iff,iff_true];omega
     have g1:=ins_get (X:=X) (S:=S) (x:=x) (Y:=M.drop (k+1)++Y) (j:=j+1) (by omega)
     have g2:=ins_prev (X:=X) (S:=S) (x:=x) (Y:=M.drop (k+1)++Y) (j:=j) (by omega)
     have hnx:=ins_next (X:=X) (S:=S) (x:=x) (Y:=M.drop (k+1)++Y) (j:=j) (by omega)
     have hy:=hmem S[j] (List.getElem_mem (by omega))
     have hcc:=hc x.1 S[j].1 hGx hy.2
     have hltc:ltT cf x S[j]↔cf x.1 S[j].1<0:=lt_cf (by omega)
     have hsd:=drop_one (U:=S) (i:=j) (by omega)
     have he:=hend (j+1) (by omega)
     generalize hI:ins X S x (M.drop (k+1)++Y) (j+1)=I at *
     have n2:(((X.length+(j+1):Nat):Int) - 1).toNat=X.length+j:=by omega
     have x1:(I.map tav)[X.length+(j+1)]?=some (rowV x.1):=by rw [List.getElem?_map,g1];rfl
     have x2:(I.map tav)[X.length+j]?=some (rowV S[j].1):=by rw [List.getElem?_map,g2];rfl
     have l2:(I.set (X.length+(j+1)) S[j]).length=I.length:=List.length_set
     repeat' (first|(with_reducible first|(apply St.o;constructor)<;>intro _|refine And.intro (by omega) ?_|(apply Sq.o;constructor))|((with_reducible apply Sc.o true;constructor);simp only [lP,seval,hgt,decide_true,epR_map,Int.toNat_natCast,n2,x1,x2,stE_tav,pa_vps,List.map_cons];refine ⟨_,hcc,?_⟩;rintro _ _ ⟨rfl,rfl⟩;simp only [lA,lP,seval,hgt,decide_true,epR_map,Int.toNat_natCast,n2,x1,x2,stE_tav,pa_vps,List.map_cons])|with_reducible refine any_i [0] ?_|simp (disch:=omega) only [lE,seval,hgt,decide_true,epR_map,Int.toNat_natCast,n2,x1,x2,stE_tav,pa_vps,List.map_cons])
     case' succ.h2 =>
      rename_i hcf
      have he2:List.map tav I=_:=congrArg (List.map tav) (he (fun y hy=>?_) hge)
      · rw [he2]
        exact back_i (k+1) ⟨by omega,.inl (by omega)⟩ (by omega) (ent [0] false (by simp only [lP,seval,pa_tav,pa_vps]<;>(try simp)<;>(try omega)) (by simp only [lP,seval,pa_tav,pa_vps]<;>(try simp)<;>(try omega)))
      · obtain ⟨i,hi,rfl⟩:=List.mem_take_iff_getElem.1 hy
        refine leT_trans hS _ _ _ (up_get hS hup (show i≤j by omega) (by omega)) ?_
        rw [leT_iff,hltc]
        exact hcf
     all_goals
      rename_i hcf
      rw [hnx]
      refine back_i j ⟨by omega,fun y hy=>?_⟩ (by omega) (ent [0] false (by simp only [lP,seval,pa_tav,pa_vps]<;>(try simp)<;>(try omega)) (by simp only [lP,seval,pa_tav,pa_vps]<;>(try simp)<;>(try omega)))
      rw [hsd] at hy
      rcases List.mem_cons.1 hy with rfl | hy
      · exact leT_of_lt hS (hltc.2 hcf)
      · exact hge y hy
 · have hkM':M.length≤k:=by omega
   have hlt:(((X.length+k:Nat):Int)<((X.length+M.length:Nat):Int))=False:=by simp;omega
   rw [List.take_of_length_le hkM',List.drop_eq_nil_of_le hkM',List.nil_append]
   repeat' (first|(with_reducible first|(apply St.o;constructor)<;>intro _|refine And.intro (by omega) ?_|(apply Sq.o;constructor))|simp (disch:=omega) only [lE,seval,hlt,decide_false])
   exact keep_i [0] false (by simp) (by simp) rfl ⟨by simp only [lP,seval],by simp only [lP,seval,pa_tav]⟩
set_option maxRecDepth 100000
abbrev q153_0:AT:=.pure0 none (oQ 75 1 61 62) (.alt none (.e (.store 1 false (.t 75) (.t 70))) (.pure0 none (oQ 76 1 63 65) (.alt none (.e (.store 1 false (.t 76) (.t 74))) .done .stop)) .stop)
abbrev q153_1:AT:=.pure0 none (oQ 127 1 113 114) (.alt none (.e (.store 1 false (.t 127) (.t 122))) (.pure0 none (oQ 128 1 115 117) (.alt none (.e (.store 1 false (.t 128) (.t 126))) .done .stop)) .stop)
def mc153:MC:=(.seq (.seq (.ops [pM 25 2,pM 26 1,(none,.v (.bin 27 .sub false (.t 25) (.t 26))),pE 28 27 1]) (.cond 28 (.seq (.ops [pM 29 2,pM 10 29]) (.seq (.ops [pM 30 3,pM 11 30]) (.seq (.block 0 (.loop (.seq (.seq (.ops [pM 31 10,pM 32 11,pB 33 31 32]) (.cond 33 .skip (.exit 0))) (.block 1 (.seq (.ops [pM 34 10,pM 35 11,(none,.v (.bin 36 .add false (.t 34) (.t 35))),(none,.v (.conv 37 .u64 (.t 36))),(none,.p (.shr 38 (.t 37) (.c (.int .u64 1)))),(none,.v (.conv 39 .i64 (.t 38))),pM 12 39]) (.seq (.any false (.pure0 none (oM 40 4) (.pure0 none (oM 41 0) (.pure0 none (oM 42 12) (.pure0 none (oQ 43 1 41 42) (.pure0 none (oL 44 43) (.pure0 none (oM 45 0) (.pure0 none (oM 46 1) (.pure0 none (oQ 47 1 45 46) (.pure0 none (oL 48 47) (.alt none (.e (.callv (some 49) (.t 40) [.t 44,.t 48])) (.base (.pure0 none (.v (.bin 50 .lss false (.t 49) (.c (.int .i64 0)))) .done)) .stop))))))))))) (.cond 50 (.ops [pM 51 12,pA 52 51 1,pM 10 52]) (.ops [pM 53 12,pM 11 53])))))))) (.seq (.seq (.ops [pM 54 1,pM 13 54]) (.block 2 (.loop (.seq (.seq (.ops [pM 55 13,pM 56 10,(none,.v (.bin 57 .sub false (.t 56) (.c (.int .i64 1)))),pB 58 55 57]) (.cond 58 .skip (.exit 2))) (.seq (.block 3 (.any true (.pure0 none (oM 61 0) (.pure0 none (oM 62 13) (.pure0 none (oM 63 0) (.pure0 none (oM 64 13) (.pure0 none (oA 65 64 1) (.pure0 none (oM 66 0) (.pure0 none (oM 67 13) (.pure0 none (oA 68 67 1) (.pure0 none (oQ 69 1 66 68) (.pure0 none (oM 71 0) (.pure0 none (oM 72 13) (.pure0 none (oQ 73 1 71 72) (.alt none (oL 70 69) (.alt none (oL 74 73) q153_0 .stop) (.alt none (oL 74 73) (.alt none (oL 70 69) q153_0 .stop) .stop)))))))))))))))) (.ops [pM 59 13,pA 60 59 1,pM 13 60])))))) .ret)))) .skip)) (.seq (.seq (.ops [pM 77 3,pM 78 2,(none,.v (.bin 79 .sub false (.t 77) (.t 78))),pE 80 79 1]) (.cond 80 (.seq (.ops [pM 81 1,pM 14 81]) (.seq (.ops [pM 82 2,pM 15 82]) (.seq (.block 4 (.loop (.seq (.seq (.ops [pM 83 14,pM 84 15,pB 85 83 84]) (.cond 85 .skip (.exit 4))) (.block 5 (.seq (.ops [pM 86 14,pM 87 15,(none,.v (.bin 88 .add false (.t 86) (.t 87))),(none,.v (.conv 89 .u64 (.t 88))),(none,.p (.shr 90 (.t 89) (.c (.int .u64 1)))),(none,.v (.conv 91 .i64 (.t 90))),pM 16 91]) (.seq (.any false (.pure0 none (oM 92 4) (.pure0 none (oM 93 0) (.pure0 none (oM 94 2) (.pure0 none (oQ 95 1 93 94) (.pure0 none (oL 96 95) (.pure0 none (oM 97 0) (.pure0 none (oM 98 16) (.pure0 none (oQ 99 1 97 98) (.pure0 none (oL 100 99) (.alt none (.e (.callv (some 101) (.t 92) [.t 96,.t 100])) (.base (.pure0 none (.v (.bin 102 .lss false (.t 101) (.c (.int .i64 0)))) (.pure0 none (oN 103 102) .done))) .stop))))))))))) (.cond 103 (.ops [pM 104 16,pA 105 104 1,pM 14 105]) (.ops [pM 106 16,pM 15 106])))))))) (.seq (.seq (.ops [pM 107 2,pM 17 107]) (.block 6 (.loop (.seq (.seq (.ops [pM 108 17,pM 109 14,(none,.v (.bin 110 .gtr false (.t 108) (.t 109)))]) (.cond 110 .skip (.exit 6))) (.seq (.block 7 (.any true (.pure0 none (oM 113 0) (.pure0 none (oM 114 17) (.pure0 none (oM 115 0) (.pure0 none (oM 116 17) (.pure0 none (.v (.bin 117 .sub false (.t 116) (.c (.int .i64 1)))) (.pure0 none (oM 118 0) (.pure0 none (oM 119 17) (.pure0 none (.v (.bin 120 .sub false (.t 119) (.c (.int .i64 1)))) (.pure0 none (oQ 121 1 118 120) (.pure0 none (oM 123 0) (.pure0 none (oM 124 17) (.pure0 none (oQ 125 1 123 124) (.alt none (oL 122 121) (.alt none (oL 126 125) q153_1 .stop) (.alt none (oL 126 125) (.alt none (oL 122 121) q153_1 .stop) .stop)))))))))))))))) (.ops [pM 111 17,(none,.v (.bin 112 .sub false (.t 111) (.c (.int .i64 1)))),pM 17 112])))))) .ret)))) .skip)) (.seq (.ops [pM 129 1,pM 130 3,(none,.v (.bin 131 .add false (.t 129) (.t 130))),(none,.v (.conv 132 .u64 (.t 131))),(none,.p (.shr 133 (.t 132) (.c (.int .u64 1)))),(none,.v (.conv 134 .i64 (.t 133))),pM 18 134]) (.seq (.ops [pM 135 18,pM 136 2,(none,.v (.bin 137 .add false (.t 135) (.t 136))),pM 19 137]) (.seq (.ops [pI 20 0,pI 21 0]) (.seq (.seq (.ops [pM 138 2,pM 139 18,(none,.v (.bin 140 .gtr false (.t 138) (.t 139)))]) (.cond 140 (.seq (.ops [pM 141 19,pM 142 3,(none,.v (.bin 143 .sub false (.t 141) (.t 142))),pM 20 143]) (.ops [pM 144 18,pM 21 144])) (.seq (.ops [pM 145 1,pM 20 145]) (.ops [pM 146 2,pM 21 146])))) (.seq (.ops [pM 147 19,(none,.v (.bin 148 .sub false (.t 147) (.c (.int .i64 1)))),pM 22 148]) (.seq (.block 8 (.loop (.seq (.seq (.ops [pM 149 20,pM 150 21,pB 151 149 150]) (.cond 151 .skip (.exit 8))) (.block 9 (.seq (.ops [pM 152 20,pM 153 21,(none,.v (.bin 154 .add false (.t 152) (.t 153))),(none,.v (.conv 155 .u64 (.t 154))),(none,.p (.shr 156 (.t 155) (.c (.int .u64 1)))),(none,.v (.conv 157 .i64 (.t 156))),pM 23 157]) (.seq (.any false (.pure0 none (oM 158 4) (.pure0 none (oM 159 0) (.pure0 none (oM 160 22) (.pure0 none (oM 161 23) (.pure0 none (.v (.bin 162 .sub false (.t 160) (.t 161))) (.pure0 none (oQ 163 1 159 162) (.pure0 none (oL 164 163) (.pure0 none (oM 165 0) (.pure0 none (oM 166 23) (.pure0 none (oQ 167 1 165 166) (.pure0 none (oL 168 167) (.alt none (.e (.callv (some 169) (.t 158) [.t 164,.t 168])) (.base (.pure0 none (.v (.bin 170 .lss false (.t 169) (.c (.int .i64 0)))) (.pure0 none (oN 171 170) .done))) .stop))))))))))))) (.cond 171 (.ops [pM 172 23,pA 173 172 1,pM 20 173]) (.ops [pM 174 23,pM 21 174])))))))) (.seq (.ops [pM 175 19,pM 176 20,(none,.v (.bin 177 .sub false (.t 175) (.t 176))),pM 24 177]) (.seq (.seq (.ops [pM 178 20,pM 179 2,pB 180 178 179,pM 181 180,gT 181 (oM 182 2),gT 181 (oM 183 24),gT 181 (oB 184 182 183),pP 185 181 184]) (.cond 185 (.ops [pM 186 0,pM 187 20,pM 188 2,pM 189 24,pM 190 4,(none,.e (.call (some 191) 170 [.t 186,.t 187,.t 188,.t 189,.t 190]))]) .skip)) (.seq (.seq (.ops [pM 192 1,pM 193 20,pB 194 192 193,pM 195 194,gT 195 (oM 196 20),gT 195 (oM 197 18),gT 195 (oB 198 196 197),pP 199 195 198]) (.cond 199 (.ops [pM 200 0,pM 201 1,pM 202 20,pM 203 18,pM 204 4,(none,.e (.call (some 205) 153 [.t 200,.t 201,.t 202,.t 203,.t 204]))]) .skip)) (.seq (.ops [pM 206 18,pM 207 24,pB 208 206 207,pM 209 208,gT 209 (oM 210 24),gT 209 (oM 211 3),gT 209 (oB 212 210 211),pP 213 209 212]) (.cond 213 (.ops [pM 214 0,pM 215 18,pM 216 24,pM 217 3,pM 218 4,(none,.e (.call (some 219) 153 [.t 214,.t 215,.t 216,.t 217,.t 218]))]) .skip)))))))))))))
theorem ok153:FnOk E 153 220 [] mc153:=ofk func153
set_option maxRecDepth 20000
set_option maxHeartbeats 16000000
theorem ins_up {X S:List TR} {x:TR} {Y:List TR} {j:Nat} (hj:j<S.length):((ins X S x Y j).set (X.length+j) S[j]).set (X.length+(j+1)) x=ins X S x Y (j+1):=by
 have e1:(ins X S x Y j).set (X.length+j) S[j]=(X++(S.take j++[S[j]]))++S[j]::(S.drop (j+1)++Y):=by
  unfold ins
  rw [← List.append_assoc,set_mid (by simp;omega),drop_one hj]
  simp only [List.append_assoc,List.cons_append,List.nil_append]
 rw [e1,set_mid (by simp;omega)]
 unfold ins
 rw [take_one hj]
 simp only [List.append_assoc,List.cons_append,List.nil_append]
theorem ins_after {X S:List TR} {x:TR} {Y:List TR} {j:Nat} (hj:j<S.length):(ins X S x Y j)[X.length+(j+1)]?=some S[j]:=by
 unfold ins
 rw [drop_one hj,List.cons_append,show X++(List.take j S++x::(S[j]::(List.drop (j+1) S++Y)))=(X++(List.take j S++[x]))++S[j]::(List.drop (j+1) S++Y) by simp only [List.append_assoc,List.cons_append,List.nil_append]]
 exact get_mid (by simp;omega)
variable {g:FuncId} {caps:List (List AV)} {G:List VL→Prop} {cf:List VL→List VL→Int}
theorem half_eq (a b:Nat) (h:a+b≤4000000000):IntKind.i64.wrap ((IntKind.u64.wrap ((a:Int)+b)).fdiv (2 ^ min 1 IntKind.u64.bits))=((a+b) / 2:Nat):=by
 have hu:IntKind.u64.wrap ((a:Int)+b)=a+b:=by rw [IntKind.wrap_u64];omega
 rw [hu,show (2:Int) ^ min 1 IntKind.u64.bits=2 from rfl,Int.fdiv_eq_ediv_of_nonneg _ (by omega),wrap_i64 (by omega) (by omega)]
 omega
theorem c153a (hc:Cmp g caps G cf) (hS:Swo cf) (X R Y:List TR) (x:TR) (hx:G x.1) (hR:All G R) (hup:Up cf R) (hT:Tags (x::R)) (htg:∀ y ∈ R,x.2<y.2) (h0:0<R.length) (n:Nat) (hN:n=X.length+(1+(R.length+Y.length))) (hn:n≤1000000000) :
 ACalls E.P 153 [.slc 0 1 n,.int .i64 X.length,.int .i64 (X.length+1:Nat),.int .i64 (X.length+1+R.length:Nat),.fn (.func g) [] (caps.map AV.vp)] [.arr 69 1 ((X++(x::(R++Y))).map tav)] (fun r H=>r=.tup []∧H=[.arr 69 1 ((X++(srt cf (x::R)++Y)).map tav)]):=by
 have hmax:=maxLen_eq
 refine ok153.acalls hE hm (by simp) fun N hN2=>?_
 unfold mc153 q153_1 q153_0 pM pE pB pA pI pP gT oM oL oA oB oN oQ
 have w1:IntKind.i64.wrap (((X.length+1:Nat):Int) - X.length)=1:=by rw [wrap_i64 (by omega) (by omega)];omega
 simp only [lA,seval,w1,decide_true]
 repeat' (first|(with_reducible first|(apply St.o;constructor)<;>intro _|refine And.intro (by omega) ?_|(apply Sq.o;constructor))|simp (disch:=omega) only [lE,seval])
 refine loop_i (fun p:Nat × Nat=>p.1≤p.2∧p.2≤R.length∧(∀ u (hu:u<R.length),u<p.1→ltT cf R[u] x)∧(∀ u (hu:u<R.length),p.2≤u→¬ ltT cf R[u] x)) (fun p=>⟨[(0,.slc 0 1 n),(1,.int .i64 X.length),(4,.fn (.func g) [] (caps.map AV.vp)),(10,.int .i64 (X.length+1+p.1:Nat)),(11,.int .i64 (X.length+1+p.2:Nat))],[.arr 69 1 ((X++(x::(R++Y))).map tav)]⟩) (fun p=>p.2 - p.1) (0,R.length) ⟨by omega,Nat.le_refl _,fun u _ h=>by simp at h,fun u hu h=>by simp only at h;omega⟩ (ent [0] false (by simp only [lP,seval,pa_tav,pa_vps]<;>(try simp)<;>(try omega)) (by simp only [lP,seval,pa_tav,pa_vps]<;>(try simp)<;>(try omega))) ?_
 rintro ⟨p,q⟩ ⟨h1,h2,h3,h4⟩
 simp only at h1 h2 h3 h4 ⊢
 by_cases hpq:p<q
 · have hlt:(((X.length+1+p:Nat):Int)<((X.length+1+q:Nat):Int))=True:=by simp only [eq_iff_iff,iff_true];omega
   have hh:=half_eq (X.length+1+p) (X.length+1+q) (by omega)
   have hm:(X.length+1+p+(X.length+1+q)) / 2=X.length+(1+(p+q) / 2):=by omega
   rw [hm] at hh
   have hpq2:(p+q) / 2<R.length:=by omega
   have g1:(X++(x::(R++Y)))[X.length]?=some x:=get_mid rfl
   have g2:(X++(x::(R++Y)))[X.length+(1+(p+q) / 2)]?=some R[(p+q) / 2]:=by
    rw [List.getElem?_append_right (by omega),show X.length+(1+(p+q) / 2) - X.length=(p+q) / 2+1 by omega,List.getElem?_cons_succ,List.getElem?_append_left hpq2,List.getElem?_eq_getElem hpq2]
   have hcc:=hc R[(p+q) / 2].1 x.1 (hR _ (List.getElem_mem _)) hx
   have hltc:ltT cf R[(p+q) / 2] x↔cf R[(p+q) / 2].1 x.1<0:=lt_cf (by have:=htg _ (List.getElem_mem hpq2);omega)
   have hup2:∀ u (hu:u<R.length),u≤(p+q) / 2→leT cf R[u] R[(p+q) / 2]=true:=fun u hu h=>up_get hS hup h hpq2
   have hup3:∀ u (hu:u<R.length),(p+q) / 2≤u→leT cf R[(p+q) / 2] R[u]=true:=fun u hu h=>up_get hS hup h hu
   have hq1:p≤(p+q) / 2:=by omega
   have hq2:(p+q) / 2<q:=by omega
   generalize hz:R[(p+q) / 2]=z at *
   generalize hhf:(p+q) / 2=hf at *
   have hnl:n=(X++(x::(R++Y))).length:=by simp;omega
   generalize hI:X++(x::(R++Y))=I at *
   have x1:(I.map tav)[X.length]?=some (rowV x.1):=by rw [List.getElem?_map,g1];rfl
   have x2:(I.map tav)[X.length+(1+hf)]?=some (rowV z.1):=by rw [List.getElem?_map,g2];rfl
   repeat' (first|(with_reducible first|(apply St.o;constructor)<;>intro _|refine And.intro (by omega) ?_|(apply Sq.o;constructor))|((with_reducible apply Sc.o true;constructor);simp only [lP,seval,hlt,hh,decide_true,epR_map,Int.toNat_natCast,x1,x2,pa_vps,List.map_cons];refine ⟨_,hcc,?_⟩;rintro _ _ ⟨rfl,rfl⟩;simp only [lA,lP,seval,hlt,hh,decide_true,epR_map,Int.toNat_natCast,x1,x2,pa_vps,List.map_cons])|with_reducible refine any_i [] ?_|simp (disch:=omega) only [lE,seval,hlt,hh,decide_true,epR_map,Int.toNat_natCast,x1,x2,pa_vps,List.map_cons])
   · rename_i hcf
     refine back_i (hf+1,q) ⟨by simp only;omega,h2,fun u hu h=>?_,h4⟩ (by simp only;omega) (ent [0] false (by simp only [lP,seval,pa_tav,pa_vps]<;>(try simp)<;>(try omega)) (by simp only [lP,seval,pa_tav,pa_vps]<;>(try simp)<;>(try omega)))
     exact ltT_of_le hS (hup2 u hu (by simp only at h;omega)) (hltc.2 hcf)
   · rename_i hcf
     refine back_i (p,hf) ⟨hq1,by simp only;omega,h3,fun u hu h hlt=>?_⟩ (by simp only;omega) (ent [0] false (by simp only [lP,seval,pa_tav,pa_vps]<;>(try simp)<;>(try omega)) (by simp only [lP,seval,pa_tav,pa_vps]<;>(try simp)<;>(try omega)))
     exact hcf (hltc.1 (ltT_of_le hS (hup3 u hu h) hlt))
 · obtain rfl:p=q:=by omega
   have hst:X++(x::(R++Y))=ins X R x Y 0:=rfl
   have hlt:(((X.length+1+p:Nat):Int)<((X.length+1+p:Nat):Int))=False:=by simp
   have hend:ins X R x Y p=X++(srt cf (x::R)++Y):=by
    have e:=srt_eq (cf:=cf) hS hT (m:=R.take p++x::R.drop p) put_perm (put_up hS hup h2 (fun y hy=>by
     obtain ⟨i,hi,rfl⟩:=List.mem_take_iff_getElem.1 hy
     exact leT_of_lt hS (h3 i (by omega) (by omega))) (fun y hy=>by
     obtain ⟨i,hi,rfl⟩:=List.mem_drop_iff_getElem.1 hy
     exact leT_iff.2 (h4 (p+i) (by omega) (by omega))))
    rw [← e]
    unfold ins
    simp only [List.append_assoc,List.cons_append]
   rw [hst]
   repeat' (first|(with_reducible first|(apply St.o;constructor)<;>intro _|refine And.intro (by omega) ?_|(apply Sq.o;constructor))|simp (disch:=omega) only [lE,seval,hlt,decide_false])
   refine loop_i (fun t:Nat=>t≤p) (fun t=>⟨[(0,.slc 0 1 n),(10,.int .i64 (X.length+1+p:Nat)),(13,.int .i64 (X.length+t:Nat))],[.arr 69 1 ((ins X R x Y t).map tav)]⟩) (fun t=>p - t) 0 (by omega) (ent [0] false (by simp only [lP,seval,pa_tav,pa_vps]<;>(try simp)<;>(try omega)) (by simp only [lP,seval,pa_tav,pa_vps]<;>(try simp)<;>(try omega))) ?_
   intro t ht
   have hil:=ins_length (X:=X) (S:=R) (x:=x) (Y:=Y) (j:=t) (by omega)
   have hnl:n=(ins X R x Y t).length:=by rw [hil];omega
   by_cases htp:t<p
   · have hlt2:(((X.length+t:Nat):Int)<((X.length+1+p:Nat):Int) - 1)=True:=by simp only [eq_iff_iff,iff_true];omega
     have g1:=ins_get (X:=X) (S:=R) (x:=x) (Y:=Y) (j:=t) (by omega)
     have g2:=ins_after (X:=X) (S:=R) (x:=x) (Y:=Y) (j:=t) (by omega)
     have hnx:=ins_up (X:=X) (S:=R) (x:=x) (Y:=Y) (j:=t) (by omega)
     obtain ⟨I,hI⟩:∃ I,I=ins X R x Y t:=⟨_,rfl⟩
     rw [← hI] at hil hnl g1 g2 hnx ⊢
     have n2:(((X.length+t:Nat):Int)+1).toNat=X.length+(t+1):=by omega
     have x1:(I.map tav)[X.length+t]?=some (rowV x.1):=by rw [List.getElem?_map,g1];rfl
     have x2:(I.map tav)[X.length+(t+1)]?=some (rowV (R[t]'(by omega)).1):=by rw [List.getElem?_map,g2];rfl
     have l2:(I.set (X.length+t) (R[t]'(by omega))).length=I.length:=List.length_set
     repeat' (first|(with_reducible first|(apply St.o;constructor)<;>intro _|refine And.intro (by omega) ?_|(apply Sq.o;constructor))|with_reducible refine any_i [0] ?_|simp (disch:=omega) only [lE,seval,hlt2,decide_true,epR_map,Int.toNat_natCast,n2,x1,x2,stE_tav])
     all_goals rw [hnx]
     all_goals exact back_i (t+1) (by omega) (by omega) (ent [0] false (by simp only [lP,seval,pa_tav]<;>(try simp)<;>(try omega)) (by simp only [lP,seval,pa_tav]<;>(try simp)<;>(try omega)))
   · obtain rfl:t=p:=by omega
     have hlt2:(((X.length+t:Nat):Int)<((X.length+1+t:Nat):Int) - 1)=False:=by simp only [eq_iff_iff,iff_false];omega
     repeat' (first|(with_reducible first|(apply St.o;constructor)<;>intro _|refine And.intro (by omega) ?_|(apply Sq.o;constructor))|simp (disch:=omega) only [lE,seval,hlt2,decide_false])
     rw [hend]
     exact keep_i [0] false (by simp) (by simp) rfl ⟨by simp only [lP,seval],by simp only [lP,seval,pa_tav]⟩
theorem c153b (hc:Cmp g caps G cf) (hS:Swo cf) (X L Y:List TR) (x:TR) (hx:G x.1) (hL:All G L) (hup:Up cf L) (hT:Tags (L++[x])) (htg:∀ y ∈ L,y.2<x.2) (h0:1<L.length) (n:Nat) (hN:n=X.length+(L.length+(1+Y.length))) (hn:n≤1000000000) :
 ACalls E.P 153 [.slc 0 1 n,.int .i64 X.length,.int .i64 (X.length+L.length:Nat),.int .i64 (X.length+L.length+1:Nat),.fn (.func g) [] (caps.map AV.vp)] [.arr 69 1 ((X++(L++(x::Y))).map tav)] (fun r H=>r=.tup []∧H=[.arr 69 1 ((X++(srt cf (L++[x])++Y)).map tav)]):=by
 have hmax:=maxLen_eq
 refine ok153.acalls hE hm (by simp) fun N hN2=>?_
 unfold mc153 q153_1 q153_0 pM pE pB pA pI pP gT oM oL oA oB oN oQ
 have w1:decide (IntKind.i64.wrap (((X.length+L.length:Nat):Int) - X.length)=1)=false:=by rw [wrap_i64 (by omega) (by omega)];simp only [decide_eq_false_iff_not];omega
 have w2:IntKind.i64.wrap (((X.length+L.length+1:Nat):Int) - (X.length+L.length:Nat))=1:=by rw [wrap_i64 (by omega) (by omega)];omega
 simp only [lA,seval,w1,w2,decide_true]
 repeat' (first|(with_reducible first|(apply St.o;constructor)<;>intro _|refine And.intro (by omega) ?_|(apply Sq.o;constructor))|simp (disch:=omega) only [lE,seval])
 refine loop_i (fun p:Nat × Nat=>p.1≤p.2∧p.2≤L.length∧(∀ u (hu:u<L.length),u<p.1→¬ ltT cf x L[u])∧(∀ u (hu:u<L.length),p.2≤u→ltT cf x L[u])) (fun p=>⟨[(0,.slc 0 1 n),(2,.int .i64 (X.length+L.length:Nat)),(4,.fn (.func g) [] (caps.map AV.vp)),(14,.int .i64 (X.length+p.1:Nat)),(15,.int .i64 (X.length+p.2:Nat))],[.arr 69 1 ((X++(L++(x::Y))).map tav)]⟩) (fun p=>p.2 - p.1) (0,L.length) ⟨by omega,Nat.le_refl _,fun u _ h=>by simp at h,fun u hu h=>by simp only at h;omega⟩ (ent [0] false (by simp only [lP,seval,pa_tav,pa_vps]<;>(try simp)<;>(try omega)) (by simp only [lP,seval,pa_tav,pa_vps]<;>(try simp)<;>(try omega))) ?_
 rintro ⟨p,q⟩ ⟨h1,h2,h3,h4⟩
 simp only at h1 h2 h3 h4 ⊢
 by_cases hpq:p<q
 · have hlt:(((X.length+p:Nat):Int)<((X.length+q:Nat):Int))=True:=by simp only [eq_iff_iff,iff_true];omega
   have hh:=half_eq (X.length+p) (X.length+q) (by omega)
   have hm:(X.length+p+(X.length+q)) / 2=X.length+(p+q) / 2:=by omega
   rw [hm] at hh
   have hpq2:(p+q) / 2<L.length:=by omega
   have g1:(X++(L++(x::Y)))[X.length+L.length]?=some x:=by rw [← List.append_assoc];exact get_mid (by simp)
   have g2:(X++(L++(x::Y)))[X.length+(p+q) / 2]?=some L[(p+q) / 2]:=by
    rw [List.getElem?_append_right (by omega),show X.length+(p+q) / 2 - X.length=(p+q) / 2 by omega,List.getElem?_append_left hpq2,List.getElem?_eq_getElem hpq2]
   have hcc:=hc x.1 L[(p+q) / 2].1 hx (hL _ (List.getElem_mem _))
   have hltc:ltT cf x L[(p+q) / 2]↔cf x.1 L[(p+q) / 2].1<0:=lt_cf (by have:=htg _ (List.getElem_mem hpq2);omega)
   have hup2:∀ u (hu:u<L.length),u≤(p+q) / 2→leT cf L[u] L[(p+q) / 2]=true:=fun u hu h=>up_get hS hup h hpq2
   have hup3:∀ u (hu:u<L.length),(p+q) / 2≤u→leT cf L[(p+q) / 2] L[u]=true:=fun u hu h=>up_get hS hup h hu
   have hq1:p≤(p+q) / 2:=by omega
   have hq2:(p+q) / 2<q:=by omega
   generalize hz:L[(p+q) / 2]=z at *
   generalize hhf:(p+q) / 2=hf at *
   have hnl:n=(X++(L++(x::Y))).length:=by simp;omega
   generalize hI:X++(L++(x::Y))=I at *
   have x1:(I.map tav)[X.length+L.length]?=some (rowV x.1):=by rw [List.getElem?_map,g1];rfl
   have x2:(I.map tav)[X.length+hf]?=some (rowV z.1):=by rw [List.getElem?_map,g2];rfl
   repeat' (first|(with_reducible first|(apply St.o;constructor)<;>intro _|refine And.intro (by omega) ?_|(apply Sq.o;constructor))|((with_reducible apply Sc.o true;constructor);simp only [lP,seval,hlt,hh,decide_true,epR_map,Int.toNat_natCast,x1,x2,pa_vps,List.map_cons];refine ⟨_,hcc,?_⟩;rintro _ _ ⟨rfl,rfl⟩;simp only [lA,lP,seval,hlt,hh,decide_true,epR_map,Int.toNat_natCast,x1,x2,pa_vps,List.map_cons])|with_reducible refine any_i [] ?_|simp (disch:=omega) only [lE,seval,hlt,hh,decide_true,epR_map,Int.toNat_natCast,x1,x2,pa_vps,List.map_cons])
   · rename_i hcf
     have hcf:¬ cf x.1 z.1<0:=by simpa using hcf
     refine back_i (hf+1,q) ⟨by simp only;omega,h2,fun u hu h hlt=>?_,h4⟩ (by simp only;omega) (ent [0] false (by simp only [lP,seval,pa_tav,pa_vps]<;>(try simp)<;>(try omega)) (by simp only [lP,seval,pa_tav,pa_vps]<;>(try simp)<;>(try omega)))
     refine hcf (hltc.1 ?_)
     rcases ltT_ntr hS (y:=z) hlt with h5 | h5
     · exact h5
     · exact absurd h5 (leT_iff.1 (hup2 u hu (by simp only at h;omega)))
   · rename_i hcf
     have hcf:cf x.1 z.1<0:=by simpa using hcf
     refine back_i (p,hf) ⟨hq1,by simp only;omega,h3,fun u hu h=>?_⟩ (by simp only;omega) (ent [0] false (by simp only [lP,seval,pa_tav,pa_vps]<;>(try simp)<;>(try omega)) (by simp only [lP,seval,pa_tav,pa_vps]<;>(try simp)<;>(try omega)))
     rcases ltT_ntr hS (y:=L[u]) (hltc.2 hcf) with h5 | h5
     · exact h5
     · exact absurd h5 (leT_iff.1 (hup3 u hu h))
 · obtain rfl:p=q:=by omega
   have hst:X++(L++(x::Y))=ins X L x Y L.length:=by
    unfold ins
    rw [List.take_length,List.drop_length,List.nil_append]
   have hlt:(((X.length+p:Nat):Int)<((X.length+p:Nat):Int))=False:=by simp
   have hend:ins X L x Y p=X++(srt cf (L++[x])++Y):=by
    have e:=srt_eq (cf:=cf) hS hT (m:=L.take p++x::L.drop p) (put_perm.trans (List.perm_append_comm (l₁:=[x]))) (put_up hS hup h2 (fun y hy=>by
     obtain ⟨i,hi,rfl⟩:=List.mem_take_iff_getElem.1 hy
     exact leT_iff.2 (h3 i (by omega) (by omega))) (fun y hy=>by
     obtain ⟨i,hi,rfl⟩:=List.mem_drop_iff_getElem.1 hy
     exact leT_of_lt hS (h4 (p+i) (by omega) (by omega))))
    rw [← e]
    unfold ins
    simp only [List.append_assoc,List.cons_append]
   rw [hst]
   repeat' (first|(with_reducible first|(apply St.o;constructor)<;>intro _|refine And.intro (by omega) ?_|(apply Sq.o;constructor))|simp (disch:=omega) only [lE,seval,hlt,decide_false])
   refine loop_i (fun t:Nat=>p≤t∧t≤L.length) (fun t=>⟨[(0,.slc 0 1 n),(14,.int .i64 (X.length+p:Nat)),(17,.int .i64 (X.length+t:Nat))],[.arr 69 1 ((ins X L x Y t).map tav)]⟩) (fun t=>t - p) L.length ⟨h2,Nat.le_refl _⟩ (ent [0] false (by simp only [lP,seval,pa_tav,pa_vps]<;>(try simp)<;>(try omega)) (by simp only [lP,seval,pa_tav,pa_vps]<;>(try simp)<;>(try omega))) ?_
   rintro t ⟨ht1,ht2⟩
   have hil:=ins_length (X:=X) (S:=L) (x:=x) (Y:=Y) (j:=t) (by omega)
   have hnl:n=(ins X L x Y t).length:=by rw [hil];omega
   by_cases htp:p<t
   · obtain ⟨t,rfl⟩:∃ u,t=u+1:=⟨t - 1,by omega⟩
     have hlt2:(((X.length+p:Nat):Int)<((X.length+(t+1):Nat):Int))=True:=by simp only [eq_iff_iff,iff_true];omega
     have g1:=ins_get (X:=X) (S:=L) (x:=x) (Y:=Y) (j:=t+1) (by omega)
     have g2:=ins_prev (X:=X) (S:=L) (x:=x) (Y:=Y) (j:=t) (by omega)
     have hnx:=ins_next (X:=X) (S:=L) (x:=x) (Y:=Y) (j:=t) (by omega)
     obtain ⟨I,hI⟩:∃ I,I=ins X L x Y (t+1):=⟨_,rfl⟩
     rw [← hI] at hil hnl g1 g2 hnx ⊢
     have n2:(((X.length+(t+1):Nat):Int) - 1).toNat=X.length+t:=by omega
     have x1:(I.map tav)[X.length+(t+1)]?=some (rowV x.1):=by rw [List.getElem?_map,g1];rfl
     have x2:(I.map tav)[X.length+t]?=some (rowV (L[t]'(by omega)).1):=by rw [List.getElem?_map,g2];rfl
     have l2:(I.set (X.length+(t+1)) (L[t]'(by omega))).length=I.length:=List.length_set
     repeat' (first|(with_reducible first|(apply St.o;constructor)<;>intro _|refine And.intro (by omega) ?_|(apply Sq.o;constructor))|with_reducible refine any_i [0] ?_|simp (disch:=omega) only [lE,seval,hlt2,decide_true,epR_map,Int.toNat_natCast,n2,x1,x2,stE_tav])
     all_goals rw [hnx]
     all_goals exact back_i t (by omega) (by omega) (ent [0] false (by simp only [lP,seval,pa_tav]<;>(try simp)<;>(try omega)) (by simp only [lP,seval,pa_tav]<;>(try simp)<;>(try omega)))
   · obtain rfl:t=p:=by omega
     have hlt2:(((X.length+t:Nat):Int)<((X.length+t:Nat):Int))=False:=by simp
     repeat' (first|(with_reducible first|(apply St.o;constructor)<;>intro _|refine And.intro (by omega) ?_|(apply Sq.o;constructor))|simp (disch:=omega) only [lE,seval,hlt2,decide_false])
     rw [hend]
     exact keep_i [0] false (by simp) (by simp) rfl ⟨by simp only [lP,seval],by simp only [lP,seval,pa_tav]⟩
end Go.Proofs.Try
