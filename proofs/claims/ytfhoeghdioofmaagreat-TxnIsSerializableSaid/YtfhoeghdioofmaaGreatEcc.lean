/-
 A part of the proof.
-/
import Derived.Test.YtfhoeghdioofmaaGreatEbb
set_option linter.unusedSimpArgs false
set_option linter.unusedVariables false
namespace Go.Proofs.Try
open Go.Al
set_option maxRecDepth 100000
set_option maxHeartbeats 16000000
abbrev WK:D:=.wide [.int .i64,.int .i64]
def fitP (r:Int × Int):Prop:=(Lit.int .i64 r.1).wf=true/\(Lit.int .i64 r.2).wf=true
theorem fits_p {r:Int × Int} (h:fitP r):fitsAll [.int .i64,.int .i64] [.int .i64 r.1,.int .i64 r.2]=true:=by
 simp [fitsAll,fits1,h.1,h.2]
theorem eqK_p {u v:Int × Int} (hu:fitP u) (hv:fitP v):eqK WK (kp v) (kp u)=some (decide (u=v)):=by
 obtain ⟨u1,u2⟩:=u
 obtain ⟨v1,v2⟩:=v
 simp [eqK,kp,fits_p hu,fits_p hv,sameAll,same1,eq_comm]
theorem keyIs_p {r:Int × Int} (h:fitP r):keyIs WK (kp r)=true:=fits_p h
section
variable {α:Type}
def getW (m:List ((Int × Int) × α)) (r:Int × Int):Option α:=(m.find? fun p=>decide (p.1=r)).map (·.2)
def setW:List ((Int × Int) × α)->(Int × Int)->α->List ((Int × Int) × α)
 | [],r,v=>[(r,v)]
 | p::m,r,v=>if p.1=r then (r,v)::m else p::setW m r v
def delW:List ((Int × Int) × α)->(Int × Int)->List ((Int × Int) × α)
 | [],_=>[]
 | p::m,r=>if p.1=r then m else p::delW m r
theorem getW_cons (p:(Int × Int) × α) (m:List ((Int × Int) × α)) (r:Int × Int):getW (p::m) r=if p.1=r then some p.2 else getW m r:=by
 unfold getW
 rw [List.find?_cons]
 by_cases h:p.1=r <;> simp [h]
theorem getW_set (m:List ((Int × Int) × α)) (r s:Int × Int) (v:α):getW (setW m r v) s=if s=r then some v else getW m s:=by
 induction m with
 | nil =>
   rw [setW,getW_cons]
   by_cases h:s=r
   . simp [h]
   . have:¬ r=s:=fun e=>h e.symm
     simp [h,this]
 | cons p m ih =>
   rw [setW]
   by_cases hp:p.1=r
   . rw [if_pos hp,getW_cons,getW_cons]
     by_cases h:s=r
     . simp [h]
     . have h1:¬ r=s:=fun e=>h e.symm
       have h2:¬ p.1=s:=fun e=>h (e.symm.trans hp)
       simp [h,h1,h2]
   . rw [if_neg hp,getW_cons,getW_cons,ih]
     by_cases h:s=r
     . subst h
       simp [hp]
     . simp [h]
def keysW (m:List ((Int × Int) × α)):List (Int × Int):=m.map (·.1)
theorem getW_none {m:List ((Int × Int) × α)} {r:Int × Int}:getW m r=none↔r ∉ keysW m:=by
 induction m with
 | nil=>simp [getW,keysW]
 | cons p m ih =>
   rw [getW_cons]
   simp only [keysW,List.map_cons,List.mem_cons] at ih ⊢
   by_cases h:p.1=r
   . simp [h]
   . have h':¬ r=p.1:=fun e=>h e.symm
     simp [h,h',ih]
theorem keysW_set (m:List ((Int × Int) × α)) (r:Int × Int) (v:α):keysW (setW m r v)=if r ∈ keysW m then keysW m else keysW m++[r]:=by
 induction m with
 | nil=>simp [setW,keysW]
 | cons p m ih =>
   rw [setW]
   by_cases hp:p.1=r
   . simp [hp,keysW]
   . have hp':¬ r=p.1:=fun e=>hp e.symm
     simp only [keysW,List.map_cons,List.mem_cons,if_neg hp,hp',false_or] at ih ⊢
     rw [ih]
     by_cases h:r ∈ m.map (fun x=>x.1) <;> simp [h]
theorem find_w {r:Int × Int} (hr:fitP r):∀ (m:List ((Int × Int) × α)) (i:Nat),(∀ p ∈ m,fitP p.1) ->
 (findK WK (kp r) (m.map fun p=>kp p.1) i=some none/\getW m r=none/\(∀ v,setW m r v=m++[(r,v)])/\delW m r=m) \/
 (∃ j p,findK WK (kp r) (m.map fun p=>kp p.1) i=some (some (i+j))/\m[j]?=some p/\p.1=r/\getW m r=some p.2/\(∀ v,setW m r v=m.set j (r,v))/\delW m r=m.eraseIdx j)
 | [],i,_=>.inl ⟨rfl,rfl,fun _=>rfl,rfl⟩
 | p::m,i,hm=>by
   rw [List.map_cons,findK]
   by_cases hp:p.1=r
   . have hq:eqK WK (kp r) (kp p.1)=some true:=by rw [eqK_p (hm p (by simp)) hr,decide_eq_true hp]
     rw [hq]
     refine .inr ⟨0,p,rfl,rfl,hp,by rw [getW_cons,if_pos hp],fun v=>by rw [setW,if_pos hp];rfl,by rw [delW,if_pos hp];rfl⟩
   . have hq:eqK WK (kp r) (kp p.1)=some false:=by rw [eqK_p (hm p (by simp)) hr,decide_eq_false hp]
     rw [hq]
     rcases find_w hr m (i+1) (fun q hq=>hm q (by simp [hq])) with ⟨h1,h2,h3,h4⟩ | ⟨j,q,h1,h2,h3,h4,h5,h6⟩
     . exact .inl ⟨h1,by rw [getW_cons,if_neg hp,h2],fun v=>by rw [setW,if_neg hp,h3];rfl,by rw [delW,if_neg hp,h4]⟩
     . refine .inr ⟨j+1,q,?_,by simpa using h2,h3,by rw [getW_cons,if_neg hp,h4],fun v=>by rw [setW,if_neg hp,h5];rfl,by rw [delW,if_neg hp,h6];rfl⟩
       simp only
       rw [h1]
       congr 2
       omega
def kW (m:List ((Int × Int) × α)):List AV:=m.map fun p=>kp p.1
def vW (f:α->AV) (m:List ((Int × Int) × α)):List AV:=m.map fun p=>f p.2
theorem keys_w {m:List ((Int × Int) × α)} (h:∀ p ∈ m,fitP p.1):keysOk WK (m.map fun p=>kp p.1)=true:=by
 simp only [keysOk,List.all_map,List.all_eq_true]
 intro u hu
 exact fits_p (h u hu)
theorem look_w (f:α->AV) (z:AV) {m:List ((Int × Int) × α)} (hm:∀ p ∈ m,fitP p.1) {r:Int × Int} (hr:fitP r):Al.look WK z (kW m) (vW f m) (kp r)=some (match getW m r with | some v=>(f v,true) | none=>(z,false)):=by
 unfold Al.look kW vW
 rw [keyIs_p hr,keys_w hm]
 rcases find_w hr m 0 hm with ⟨h1,h2,_⟩ | ⟨j,p,h1,h2,h3,h4,_⟩
 . simp [h1,h2]
 . simp [h1,h2,h4]
theorem map_eraseW {β:Type} (g:(Int × Int) × α->β):∀ (m:List ((Int × Int) × α)) (j:Nat),(m.eraseIdx j).map g=(m.map g).eraseIdx j
 | [],_=>rfl
 | p::m,0=>rfl
 | p::m,j+1=>by
   have:=map_eraseW g m j
   simp only [List.eraseIdx_cons_succ,List.map_cons,this]
end
open Go.Proofs.Tryz
def mc107:MC:=(.seq (.ops [pK 2 0,pK 3 1,pI 4 0]) (.seq (.any false (.pure0 none (oF 5 0 2) (.pure0 none (oL 6 5) (.pure0 none (oF 7 0 3) (.pure0 none (oL 8 7) (.pure0 none (oF 10 1 2) (.pure0 none (oL 11 10) (.pure0 none (oF 12 1 3) (.pure0 none (oL 13 12) (.alt none (oW 9 109 6 8) (.base (.alt none (oW 14 109 11 13) (.base (.alt none (.e (.mkl 15 3 1 2 (.int .i64 0) [(0,.t 9),(1,.t 14)])) (.base (.alt none (oV 16 108 15) (.base (.pure0 none (oM 4 16) .done)) .stop)) .stop)) .stop)) .stop)))))))))) .ret))
theorem ok107:FnOk E 107 17 [.tmp 4] mc107:=ofk func107
def mc108:MC:=(.seq (.ops [pI 2 0]) (.seq (.ops [pI 3 0]) (.seq (.seq (.ops [pM 6 0,pG 7 6,pI 8 0]) (.block 0 (.loop (.seq (.ops [pB 9 8 7]) (.seq (.cond 9 .skip (.exit 0)) (.seq (.block 1 (.seq (.ops [pQ 10 1 6 8,pL 11 10,pM 5 11]) (.seq (.ops [pM 12 5,pM 13 3,(none,.v (.bin 14 .neq false (.t 12) (.t 13)))]) (.cond 14 (.seq (.ops [pM 15 5,pM 2 15]) .ret) .skip)))) (.ops [pA 16 8 1,pM 8 16]))))))) (.seq (.ops [pM 17 3,pM 2 17]) .ret))))
theorem ok108:FnOk E 108 18 [.tmp 2] mc108:=ofk func108
abbrev q109_0:MI:=oI 4 0
def mc109:MC:=(.seq (.ops [(none,q109_0)]) (.seq (.ops [pM 7 0,pV 8 132 7,pM 5 8]) (.seq (.ops [pM 9 1,pV 10 132 9,pM 6 10]) (.seq (.seq (.ops [pM 11 5]) (.cond 11 (.seq (.seq (.ops [pM 12 6]) (.cond 12 (.seq (.ops [(none,q109_0)]) .ret) .skip)) (.seq (.ops [(none,.v (.mov 4 (.c (.int .i64 (-1)))))]) .ret)) .skip)) (.seq (.seq (.ops [pM 13 6]) (.cond 13 (.seq (.ops [pI 4 1]) .ret) .skip)) (.seq (.seq (.ops [pM 14 0,pM 15 1,pB 16 14 15]) (.cond 16 (.seq (.ops [(none,.v (.mov 4 (.c (.int .i64 (-1)))))]) .ret) .skip)) (.seq (.seq (.ops [pM 17 0,pM 18 1,(none,.v (.bin 19 .gtr false (.t 17) (.t 18)))]) (.cond 19 (.seq (.ops [pI 4 1]) .ret) .skip)) (.seq (.ops [(none,q109_0)]) .ret))))))))
theorem ok109:FnOk E 109 20 [.tmp 4] mc109:=ofk func109
def mc132:MC:=(.seq (.ops [pZ 2]) (.seq (.ops [pM 3 0,pM 4 0,(none,.v (.bin 5 .neq false (.t 3) (.t 4))),pM 2 5]) .ret))
theorem ok132:FnOk E 132 6 [.tmp 2] mc132:=ofk func132
theorem keep_b {b b':Bool} {H:List AObj} (h:b=b'):keepQ 0 (fun r H=>r=.bool b'/\H=[]) (.bool b) H:=by
 subst h;exact keep0_i ⟨rfl,rfl⟩
theorem keep_n {b b':Int} {H:List AObj} (h:b=b'):keepQ 0 (fun r H=>r=.int .i64 b'/\H=[]) (.int .i64 b) H:=by
 subst h;exact keep0_i ⟨rfl,rfl⟩
theorem IdxR_int {P:Program} {m:Nat} {N:FN} {xs:List Int} {n:Int} {d:Nat} {c:Kn} (h0:0<=n) (h1:n<xs.length):IdxR P m N (xs.map (AV.int .i64)) n d c=rK P m N c d (.vp [.int .i64 (xs.getD n.toNat default)]) :=
 IdxR_map (cs:=fun r=>[.int .i64 r]) (fun _=>rfl) h0 h1
theorem pa_kW {α:Type} {H:List AObj} {l:List Nat} {bor:Bool} {n:Nat} (m:List ((Int × Int) × α)):(kW m).map (pa H l bor (n+1))=kW m:=by
 unfold kW
 rw [List.map_map]
 exact List.map_congr_left fun p _=>by simp [kp,pa_agg,pa_int]
theorem renL_kW {α:Type} {ρ:Nat->Nat} (m:List ((Int × Int) × α)):renL ρ (kW m)=kW m:=renL_map (fun p=>by simp [kp,ren,renL]) _
def sgn (a b:Int):Int:=if a<b then -1 else if a > b then 1 else 0
def orI:List Int->Int
 | []=>0
 | x::l=>if x=0 then orI l else x
theorem orI_drop {l:List Int} {i:Nat} (h:i<l.length):orI (l.drop i)=if l.getD i default=0 then orI (l.drop (i+1)) else l.getD i default:=by
 rw [List.drop_eq_getElem_cons h]
 simp [orI,h]
theorem getD_mem {α:Type} [Inhabited α] {l:List α} {i:Nat} (h:i<l.length):l.getD i default ∈ l:=by
 simp [h]
def WR.cmp (a b:WR):Int:=orI [sgn a.tab b.tab,sgn a.row b.row]
theorem cmp_before (a b:WR):a.cmp b<0↔keyLt a.key b.key=true:=by
 rw [keyLt_iff]
 unfold WR.cmp orI orI orI sgn WR.key
 simp only
 repeat' split
 all_goals omega
theorem c132 (a:Int):ACalls E.P 132 [.int .i64 a] [] (fun r H=>r=.bool false/\H=[]):=by
 refine ok132.acalls hE hm (by simp) fun N hN=>?_
 unfold mc132 pZ pM
 simp only [lA,seval]
 repeat' (first|(with_reducible first|(apply St.o;constructor)<;>intro _|refine ai ?_|(apply Sq.o;constructor))|((with_reducible refine keep0_i ?_);simp only [lP,seval])|simp (disch:=omega) only [lE,seval])
 all_goals simp
theorem c109 (a b:Int):ACalls E.P 109 [.int .i64 a,.int .i64 b] [] (fun r H=>r=.int .i64 (sgn a b)/\H=[]):=by
 refine ok109.acalls hE hm (by simp) fun N hN=>?_
 unfold mc109 q109_0 pM pV pI pB oI
 simp only [lA,seval]
 repeat' (first|(with_reducible first|(apply St.o;constructor)<;>intro _|refine ai ?_|(apply Sq.o;constructor))|((with_reducible apply Sc.o true;constructor);simp only [lP,seval];(first|refine ⟨_,c132 a,?_⟩|refine ⟨_,c132 b,?_⟩);rintro _ _ ⟨rfl,rfl⟩;simp only [lA,lP,seval])|((with_reducible refine keep0_i ?_);simp only [lP,seval])|simp (disch:=omega) only [lE,seval])
 all_goals (simp only [sgn,AV.int.injEq,true_and];(repeat' split) <;> omega)
theorem c108 (l:List Int):ACalls E.P 108 [.view 1 (l.map (AV.int .i64))] [] (fun r H=>r=.int .i64 (orI l)/\H=[]):=by
 have hmax:=maxLen_eq
 refine ok108.acalls hE hm (by simp) fun N hN=>?_
 unfold mc108 pI pM pG pB pQ pL pA
 simp only [lA,seval]
 refine LenR_i fun hl=>?_
 rw [List.length_map,hmax] at hl
 simp only [lA,seval,List.length_map]
 refine loop_i (fun i:Nat=>i<=l.length/\orI l=orI (l.drop i)) (fun i=>⟨[(3,.int .i64 0),(6,.view 1 (l.map (AV.int .i64))),(7,.int .i64 l.length),(8,.int .i64 i)],[]⟩) (fun i=>l.length - i) 0 ⟨by omega,by simp⟩ (ent [] false) ?_
 rintro i ⟨hi,ho⟩
 by_cases hil:i<l.length
 . have hd:=orI_drop hil
   rw [<- ho] at hd
   generalize hx:l.getD i default=x at *
   have hx0:l.getD i 0=x:=hx
   repeat' (first|(with_reducible first|(apply St.o;constructor)<;>intro _|refine ai ?_|(apply Sq.o;constructor))|simp (disch:=omega) only [lE,seval,IdxR_int,hx,hx0,Int.toNat_natCast,List.length_map])
   all_goals try (exfalso;omega)
   . rename_i h1
     rw [if_neg h1] at hd
     exact keep_n hd.symm
   . rename_i h1
     rw [if_pos h1] at hd
     exact back_i (i+1) ⟨by omega,hd⟩ (by omega) (ent [] false)
 . have hie:i=l.length:=by omega
   subst hie
   repeat' (first|(with_reducible first|(apply St.o;constructor)<;>intro _|refine ai ?_|(apply Sq.o;constructor))|simp (disch:=omega) only [lE,seval,List.length_map,Int.lt_irrefl,decide_false])
   exact keep_n (by rw [ho,List.drop_eq_nil_of_le (by omega)];rfl)
theorem c107 (a b:WR):ACalls E.P 107 [a.av,b.av] [] (fun r H=>r=.int .i64 (a.cmp b)/\H=[]):=by
 have h1:=c109 a.tab b.tab
 have h2:=c109 a.row b.row
 have h3:=c108 [sgn a.tab b.tab,sgn a.row b.row]
 simp only [List.map_cons,List.map_nil] at h3
 refine ok107.acalls hE hm (by simp) fun N hN=>?_
 unfold mc107 pK pI oM oL oF oV oW
 simp only [lA,seval,wr_av]
 repeat' (first|(with_reducible apply St.o;constructor) <;> intro _|((with_reducible refine mkl_view ?_ ?_ ?_);(focus decide);(focus rfl))|(with_reducible first|refine ai ?_|(apply Sp.o;constructor)|refine mkl_own ?_|refine ap_own ?_|refine base0_i ?_|refine any00_i ?_|refine frz0_i ?_|refine any_i [] ?_)|((with_reducible apply Sc.o true;constructor);simp only [lP,seval,fillE,setAll];(first|refine ⟨_,h1,?_⟩|refine ⟨_,h2,?_⟩|refine ⟨_,h3,?_⟩);rintro _ _ ⟨rfl,rfl⟩;simp only [lA,lP,seval,fillE,setAll])|simp (disch:=omega) only [lE,seval,fillE,setAll])
 all_goals exact keep_n rfl
theorem wfW_put {α:Type} (f:α->AV) {m:List ((Int × Int) × α)} (hf:∀ p ∈ m,fitP p.1) {bs:List Nat} {c:Nat} (hw:WfM m.length bs c) {r:Int × Int} (hr:fitP r) (v:α):∃ (bs':List Nat) (c':Nat),putK WK (kW m) (vW f m) bs c (kp r) (f v)=some (.map (kW (setW m r v)) (vW f (setW m r v)) bs' c')/\WfM (setW m r v).length bs' c':=by
 unfold putK kW vW
 rw [keyIs_p hr,keys_w hf]
 rcases find_w hr m 0 hf with ⟨h1,h2,h3,_⟩ | ⟨j,p,h1,h2,h3,h4,h5,_⟩
 . refine ⟨bs++[c],c+1,?_,?_⟩
   . rw [h3]
     simp [h1]
   . rw [h3,List.length_append];exact hw.snoc
 . refine ⟨bs,c,?_,?_⟩
   . have e1:(m.map fun p=>kp p.1)=(m.set j (r,v)).map fun p=>kp p.1:=by
      apply List.ext_getElem?
      intro n
      simp only [List.getElem?_map,List.getElem?_set]
      by_cases hn:j=n
      . subst hn
        obtain ⟨hj,_⟩:=List.getElem?_eq_some_iff.1 h2
        rw [h2]
        simp [hj,h3]
      . simp [hn]
     rw [h5,<- e1,List.map_set]
     simp [h1]
   . rw [h5,List.length_set];exact hw
theorem mem_setW2 {α:Type} {m:List ((Int × Int) × α)} {r:Int × Int} {v:α} {p:(Int × Int) × α} (h:p ∈ setW m r v):p=(r,v)\/p ∈ m:=by
 induction m with
 | nil=>exact .inl (List.mem_singleton.1 h)
 | cons q m ih =>
   rw [setW] at h
   split at h
   . rcases List.mem_cons.1 h with h | h
     . exact .inl h
     . exact .inr (List.mem_cons_of_mem _ h)
   . rcases List.mem_cons.1 h with h | h
     . rw [h];exact .inr List.mem_cons_self
     . rcases ih h with h | h
       . exact .inl h
       . exact .inr (List.mem_cons_of_mem _ h)
theorem keysW_set_nodup {α:Type} {m:List ((Int × Int) × α)} {r:Int × Int} {v:α} (h:(keysW m).Nodup):(keysW (setW m r v)).Nodup:=by
 rw [keysW_set]
 split
 . exact h
 . rename_i hn
   exact List.nodup_append.2 ⟨h,by simp,fun a ha b hb e=>by
    rw [List.mem_singleton.1 hb] at e
    exact hn (e ▸ ha)⟩
theorem getW_mem {α:Type} {m:List ((Int × Int) × α)} {r:Int × Int} {v:α} (h:getW m r=some v):(r,v) ∈ m:=by
 induction m with
 | nil=>simp [getW] at h
 | cons p m ih =>
   rw [getW_cons] at h
   split at h
   . rename_i hp
     cases h
     rw [<- hp];exact List.mem_cons_self
   . exact List.mem_cons_of_mem _ (ih h)
theorem mem_getW {α:Type} {m:List ((Int × Int) × α)} (hn:(keysW m).Nodup) {p:(Int × Int) × α} (h:p ∈ m):getW m p.1=some p.2:=by
 induction m with
 | nil=>simp at h
 | cons q m ih =>
   simp only [keysW,List.map_cons,List.nodup_cons] at hn
   rw [getW_cons]
   rcases List.mem_cons.1 h with h | h
   . rw [h,if_pos rfl]
   . have:¬ q.1=p.1:=fun e=>hn.1 (e ▸ List.mem_map.2 ⟨p,h,rfl⟩)
     rw [if_neg this];exact ih hn.2 h
def mc131:MC:=(.seq (.ops [pL 5 1,(none,.e (.rng 6 (.t 5)))]) (.block 0 (.loop (.seq (.ops [(none,.e (.nxt 7 (.t 6))),pX 8 0 7]) (.seq (.cond 8 .skip (.exit 0)) (.block 1 (.seq (.ops [(none,.p (.ent 9 (.t 6))),pX 10 1 9,(none,.e (.alloc 4 z1)),pS 4 4 10]) (.seq (.ops [pM 11 0,pR 12 4 4,(none,.e (.callv (some 13) (.t 11) [.t 12])),pN 14 13]) (.cond 14 .ret .skip)))))))))
theorem ok131:FnOk E 131 15 [] mc131:=ofk func131
def mc144:MC:=(.seq (.ops [pK 2 0,pY 4]) (.seq (.seq (.ops [pM 6 1]) (.block 0 (.rngf (.t 6) #[7] (.ops [(none,.e (.alloc 5 z1)),pS 4 5 7]) (.block 1 (.ops [pL 8 2,pR 9 4 5,(none,.e (.mkl 10 59 4 1 (.agg z1) [(0,.t 9)])),(none,.e (.app 11 59 4 48 (.t 8) (.t 10))),(none,.e (.store 1 false (.t 2) (.t 11)))]))))) (.seq (.ops [pL 12 2,pM 4 12]) .ret)))
theorem ok144:FnOk E 144 13 [.tmp 4] mc144:=ofk func144
theorem colW_at {α:Type} {av:α->AV} {E:TypeId} {sz:Nat} {F:List AObj} {q:Nat} {x:List α} {G:Nat->Prop} {H:List AObj} (i:Nat) (o:AObj) (h:colW av E sz F q x G H) (hi:G i):colW av E sz F q x G (H.set i o):=by
 obtain ⟨h0,hg,hq,h3,h⟩:=h
 obtain ⟨g1,g2⟩:=hg i hi
 refine ⟨fun j hj hne=>by rw [at_set _ _ i j (by omega)];exact h0 j hj hne,fun j hj=>by simpa using hg j hj,hq,by simpa using h3,?_⟩
 rcases h with ⟨hx,h1⟩ | ⟨a,a1,a2,a3,a4,a5⟩
 . exact .inl ⟨hx,by rw [at_set _ _ i q (by omega)];exact h1⟩
 . have hia:i≠a:=fun e=>a3 (e ▸ hi)
   exact .inr ⟨a,a1,by simpa using a2,a3,by rw [at_set _ _ i q (by omega)];exact a4,by rw [at_set _ _ i a hia];exact a5⟩
section
variable {X:Type} {S:X->(Nat->Prop)->List AObj->Prop} {id:Nat}
theorem c131g (hG:Grows S) (hP:∀ x G H i o,S x G H->G i->S x G (H.set i o)) (f:X->WR->X) (m:List ((Int × Int) × WR)) (bs:List Nat) (c:Nat) (hw:WfM m.length bs c) (b mid:Nat)
 (hb:∀ x G H,S x G H->H[b]?=some (.box [.mp mid])/\H[mid]?=some (.map (kW m) (vW WR.av m) bs c))
 (live:X->Nat->Prop) (hl:∀ x v k,live x (k+1)->live (f x v) k)
 (hy:∀ x v k G H,v ∈ m.map (·.2)->live x (k+1)->S x G H->AYield E.P id [v.av] H (fun r H'=>r=.bool true/\Bhd S (f x v) G H H')) (x:X) (hx:live x m.length) (G:Nat->Prop) (H:List AObj) (hs:S x G H) :
 ACalls E.P 131 [.yld id,.op b 0] H (fun r H'=>∃ l:List WR,l.Perm (m.map (·.2))/\Bhd S (l.foldl f x) G H H'):=by
 have hmax:=maxLen_eq
 refine ok131.acalls0 hE hm (by simp) fun N hN=>?_
 unfold mc131 z1 pL pX pS pM pR pN
 obtain ⟨f1,f2⟩:=hb _ _ _ hs
 simp only [lA,seval,f1,f2]
 refine loop_i (fun p:List Nat × List AObj=>p.1.Nodup/\(∀ i ∈ p.1,i<m.length)/\live ((p.1.map fun i=>(m.getD i default).2).foldl f x) (m.length - p.1.length)/\Bhd S ((p.1.map fun i=>(m.getD i default).2).foldl f x) G H p.2 /\
  S ((p.1.map fun i=>(m.getD i default).2).foldl f x) (fun i=>G i\/i=H.length) p.2/\p.2[H.length]?=some (.mit (some mid) c (p.1.map fun i=>bs.getD i 0) c))
  (fun p=>⟨[(0,.yld id),(6,.itr H.length)],p.2⟩) (fun p=>m.length - p.1.length) ([],H++[.mit (some mid) c [] c])
  ⟨.nil,by simp,by simpa using hx,hG.skip hs,hG.push _ _ _ _ hs,by simp⟩ (Ent.fr (by simp [FrSub,Go.Al.get])) ?_
 rintro ⟨is,H2⟩ ⟨hn,hlt,hlv,hbd,hS,hit⟩
 simp only at hn hlt hlv hbd hS hit ⊢
 obtain ⟨f3,f4⟩:=hb _ _ _ hS
 repeat' (first|(with_reducible first|(apply St.o;constructor)<;>intro _|refine ai ?_|(apply Sq.o;constructor))|simp (disch:=omega) only [lE,seval,hit,f4])
 have hin:∀ i j,i<m.length->j<m.length->bs.getD i 0=bs.getD j 0->i=j:=fun i j hi hj e=>by
  rw [<- hw.len] at hi hj
  rw [List.getD_eq_getElem?_getD,List.getD_eq_getElem?_getD,List.getElem?_eq_getElem hi,List.getElem?_eq_getElem hj] at e
  exact nodup_inj hw.nodup e
 refine nxt_i hw.lt (Nat.le_refl _) (fun hall=>?_) (fun i b' kx vx hb' hns hkx hvx=>?_)
 . simp only [lA,seval]
   repeat' (first|(with_reducible first|(apply St.o;constructor)<;>intro _|refine ai ?_|(apply Sq.o;constructor))|simp (disch:=omega) only [lE,seval])
   refine ⟨_,perm_all hn hlt (fun i hi=>?_),hbd⟩
   have hib:bs.getD i 0 ∈ bs:=by
    rw [List.getD_eq_getElem?_getD,List.getElem?_eq_getElem (by rw [hw.len];exact hi),Option.getD_some]
    exact List.getElem_mem _
   obtain ⟨j,hj,e⟩:=List.mem_map.1 (hall _ hib)
   rw [hin j i (hlt j hj) hi e] at hj
   exact hj
 . obtain ⟨hi,e0⟩:=List.getElem?_eq_some_iff.1 hb'
   rw [hw.len] at hi
   have hbi:bs.getD i 0=b':=by rw [List.getD_eq_getElem?_getD,hb'];rfl
   have hni:i ∉ is:=fun h=>hns (by rw [<- hbi];exact List.mem_map.2 ⟨i,h,rfl⟩)
   have hmi:m[i]?=some (m.getD i default):=by rw [List.getElem?_eq_getElem hi,List.getD_eq_getElem?_getD,List.getElem?_eq_getElem hi,Option.getD_some]
   have hvm:(m.getD i default).2 ∈ m.map (·.2):=List.mem_map.2 ⟨_,List.mem_of_getElem? hmi,rfl⟩
   have hvx2:vx=(m.getD i default).2.av:=by
    rw [vW,List.getElem?_map,hmi] at hvx
    cases hvx;rfl
   subst hvx2
   have hHl:H.length<H2.length:=(List.getElem?_eq_some_iff.1 hit).1
   have hS3:=hP _ _ _ H.length (.mit (some mid) c (is.map (fun i=>bs.getD i 0)++[b']) c) hS (.inr rfl)
   have hit3:(H2.set H.length (.mit (some mid) c (is.map (fun i=>bs.getD i 0)++[b']) c))[H.length]?=some (.mit (some mid) c (is.map (fun i=>bs.getD i 0)++[b']) c):=at_same _ _ _ hHl
   have hbd3:∀ i,G i->(H2.set H.length (.mit (some mid) c (is.map (fun i=>bs.getD i 0)++[b']) c))[i]?=H[i]?:=fun i hi=>by
    have:=hG.lt _ _ _ _ hs hi
    rw [at_set _ _ H.length i (by omega)]
    exact hbd.2.2 i hi
   have hlen3:(H2.set H.length (.mit (some mid) c (is.map (fun i=>bs.getD i 0)++[b']) c)).length=H2.length:=by simp
   generalize H2.set H.length (.mit (some mid) c (is.map (fun i=>bs.getD i 0)++[b']) c)=H3 at *
   obtain ⟨f5,f6⟩:=hb _ _ _ hS3
   have hn2:(is++[i]).Nodup:=List.nodup_append.2 ⟨hn,by simp,fun a ha b hb e=>by
    rw [List.mem_singleton.1 hb] at e
    exact hni (e ▸ ha)⟩
   have hlt2:∀ j ∈ is++[i],j<m.length:=fun j hj=>by
    rcases List.mem_append.1 hj with hj | hj
    . exact hlt j hj
    . rw [List.mem_singleton.1 hj];exact hi
   have hle:(is++[i]).length<=m.length:=by
    have:=nodup_len (B:=List.range m.length) hn2 fun j hj=>List.mem_range.2 (hlt2 j hj)
    rwa [List.length_range] at this
   simp only [List.length_append,List.length_cons,List.length_nil] at hle
   have hfold:((is++[i]).map fun i=>(m.getD i default).2).foldl f x=f ((is.map fun i=>(m.getD i default).2).foldl f x) (m.getD i default).2:=by
    rw [List.map_append,List.foldl_append];rfl
   have hlv2:live ((is.map fun i=>(m.getD i default).2).foldl f x) ((m.length - (is.length+1))+1):=by rwa [show m.length - (is.length+1)+1=m.length - is.length by omega]
   generalize hv:(m.getD i default).2=v at *
   have hyl:=fun o=>hy _ v _ _ _ hvm hlv2 (hG.push _ _ _ o hS3)
   simp only [wr_av] at hyl
   simp only [lA,seval,hit3]
   rw [f6]
   refine ent_i i b' rfl hb' hkx hvx ?_
   simp only [lA,seval,get_last,set_last,wr_av]
   refine yld_i (hyl _) ?_
   rintro _ H4 ⟨rfl,hb4⟩
   obtain ⟨hb5,_⟩:=hG.own hS3 hb4
   simp only [lA,seval]
   refine back_i (is++[i],H4) ⟨hn2,hlt2,?_,?_,?_,?_⟩ (by simp only [List.length_append,List.length_cons,List.length_nil];omega) (Ent.fr (by simp [FrSub,Go.Al.get]))
   . rw [hfold]
     simp only [List.length_append,List.length_cons,List.length_nil]
     exact hl _ _ _ hlv2
   . rw [hfold]
     refine ⟨hG.weak _ _ _ _ hb5.1 fun i hi=>.inl hi,?_,fun i hi=>?_⟩
     . have:=hb5.2.1
       have:=hbd.2.1
       simp only
       omega
     . rw [hb5.2.2 i (.inl hi)]
       exact hbd3 i hi
   . rw [hfold]
     exact hb5.1
   . rw [hb5.2.2 _ (.inr rfl),hit3,List.map_append]
     simp only [List.map_cons,List.map_nil,hbi]
end
theorem fold_snocH {α:Type} (l:List α):∀ x:List α,l.foldl (fun x v=>x++[v]) x=x++l:=by
 induction l with
 | nil=>simp
 | cons v l ih=>intro x;rw [List.foldl_cons,ih,List.append_assoc];rfl
def mapB (m:List ((Int × Int) × WR)) (bs:List Nat) (c:Nat):List AObj:=[.map (kW m) (vW WR.av m) bs c,.box [.mp 0]]
theorem pa_vH {H:List AObj} {l:List Nat} {bor:Bool} {n:Nat} (m:List ((Int × Int) × WR)):(vW WR.av m).map (pa H l bor (n+3))=vW WR.av m:=by
 unfold vW
 rw [List.map_map]
 exact List.map_congr_left fun p _=>by simp [pa_wr]
theorem c144 (m:List ((Int × Int) × WR)) (bs:List Nat) (c:Nat) (hw:WfM m.length bs c) (hc:m.length<=1048576) :
 ACalls E.P 144 [.raw (.slice none 0 0),.fn (.func 131) [] [.op 1 0]] (mapB m bs c) (fun r H=>∃ l:List WR,l.Perm (m.map (·.2))/\((l=[]/\r=.raw (.slice none 0 0)/\H=mapB m bs c)\/(r=.slc 2 4 l.length/\H=mapB m bs c++[.arr 59 4 (l.map WR.av)]))):=by
 have hmax:=maxLen_eq
 refine ok144.acalls hE hm (by simp) fun N hN=>?_
 unfold mc144 z1 pK pY pM pS pL pR mapB
 simp only [lA,seval]
 refine rng_i hN [(2,.op 2 0)] (by simp [FrSub,Go.Al.get]) fun fn cas bd hy=>?_
 let lo:LoopState->AObj:=fun st=>.loop st none [(2,.op 2 0)] N.n fn #[7] cas bd
 let F:List AObj:=[.map (kW m) (vW WR.av m) bs c,.box [.mp 0],.dead,lo .ready]
 have hG:Grows (colW WR.av 59 4 F 2):=colW_grows F 2
 have hY:∀ (x:List WR) (v:WR) (k:Nat) (G:Nat->Prop) (H:List AObj),v ∈ m.map (·.2)->x.length+(k+1)<=1048576->colW WR.av 59 4 F 2 x G H->AYield E.P 3 [v.av] H (fun r H'=>r=.bool true/\Bhd (colW WR.av 59 4 F 2) (x++[v]) G H H'):=by
  rintro x v k G H _ hk hS
  have h3:H[3]?=some (lo .ready):=hS.1 3 (by simp [F]) (by omega)
  have hlen:=hS.2.2.2.1
  refine hy 3 [(2,.op 2 0)] [v.av] H _ h3 rfl fun N2 hN2=>?_
  have hlen4:4<=H.length:=hlen
  simp only [lA,seval,wr_av,get_last,set_last]
  refine ⟨by rw [at_app _ _ 3 (by omega)];exact h3,?_⟩
  have hSk:=hG.push _ _ _ (.box v.cs) hS
  have hSk2:=hG.skip (o:=.box v.cs) hS
  have hHl:(H++[AObj.box v.cs]).length=H.length+1:=by simp
  have hfo:(H++[AObj.box v.cs])[H.length]?=some (.box v.cs):=by simp
  generalize H++[AObj.box v.cs]=Hx at *
  obtain ⟨H1,hH1⟩:∃ H1,H1=Hx.set 3 (.loop .busy none [(2,.op 2 0)] N.n fn #[7] cas bd):=⟨_,rfl⟩
  have hfo1:H1[H.length]?=some (.box v.cs):=by rw [hH1,at_set _ _ 3 _ (by omega)];exact hfo
  have hf31:H1[3]?=some (lo .busy):=by rw [hH1];exact at_same _ _ 3 (by omega)
  have hlen1:H1.length=H.length+1:=by rw [hH1];simpa using hHl
  have hSb:colW WR.av 59 4 (F.set 3 (lo .busy)) 2 x (fun i=>G i\/i=H.length) H1:=by rw [hH1];exact colW_put (lo .busy) hSk (n:=3) (by simp [F]) (by omega)
  have hback:∀ x' H',Bhd (colW WR.av 59 4 (F.set 3 (lo .busy)) 2) x' (fun i=>G i\/i=H.length) H1 H'->Bhd (colW WR.av 59 4 F 2) x' G H (H'.set 3 (lo .ready)):=fun x' H' h=>by
   have h1:=colW_back (lo .ready) (lo .busy) ⟨x,hSk⟩ (by rw [hH1] at h;exact h) (by simp [F]) (by omega) rfl
   exact hSk2.trans ⟨hG.weak _ _ _ _ h1.1 fun i hi=>.inl hi,h1.2.1,fun i hi=>h1.2.2 i (.inl hi)⟩
  rw [<- hH1]
  clear hH1 hSk2 hSk
  have hq:=hSb.2.2.2.2
  rcases hq with ⟨rfl,h1⟩ | ⟨a,a1,a2,a3,a4,a5⟩
  . have g1:∀ o o',(H1++[o]++[o'])[2]?=some (.box [.raw (.slice none 0 0)]):=fun o o'=>by rw [at_app _ _ 2 (by simp <;> omega),at_app _ _ 2 (by omega)];exact h1
    repeat' (first|(with_reducible first|(apply St.o;constructor)<;>intro _|refine ai ?_|(apply Sq.o;constructor))|((with_reducible refine keep0_i ?_);simp only [lP,seval])|simp (disch:=omega) only [lE,seval,hfo1,h1,g1,get_last,fillE,setAll,List.length_cons,List.length_nil,List.length_append])
    refine round_i (o:=fun st pd=>.loop st pd [(2,.op 2 0)] N.n fn #[7] cas bd) (by rw [at_set _ _ 2 3 (by omega),at_app _ _ 3 (by simp <;> omega),at_app _ _ 3 (by omega)];exact hf31) ⟨rfl,?_⟩
    exact hback _ _ (colW_one v _ hSb)
  . have g1:∀ o o',((H1++[o]).set a .dead++[o'])[2]?=some (.box [.slc a 4 x.length]):=fun o o'=>by rw [at_app _ _ 2 (by simp <;> omega),at_set _ _ a 2 (by simp [F] at a1;omega),at_app _ _ 2 (by omega)];exact a4
    have g2:∀ o,(H1++[o])[a]?=some (.arr 59 4 (x.map WR.av)):=fun o=>by rw [at_app _ _ a (by omega)];exact a5
    repeat' (first|(with_reducible first|(apply St.o;constructor)<;>intro _|refine ai ?_|(apply Sq.o;constructor))|((with_reducible refine keep0_i ?_);simp only [lP,seval])|simp (disch:=omega) only [lE,seval,hfo1,a4,g1,g2,get_last,fillE,setAll,List.length_map,List.length_cons,List.length_nil,List.length_append,List.length_set])
    refine round_i (o:=fun st pd=>.loop st pd [(2,.op 2 0)] N.n fn #[7] cas bd) (by rw [at_set _ _ 2 3 (by omega),at_app _ _ 3 (by simp <;> omega),at_set _ _ a 3 (by simp [F] at a1;omega),at_app _ _ 3 (by omega)];exact hf31) ⟨rfl,?_⟩
    have:=colW_snoc v (.arr 59 4 [v.av]) hSb a1 a2 a3
    exact hback _ _ this
 have h131:=c131g (S:=colW WR.av 59 4 F 2) (id:=3) hG (fun x G H i o h hi=>colW_at i o h hi) (fun x v=>x++[v]) m bs c hw 1 0 (fun x G H h=>⟨h.1 1 (by simp [F]) (by omega),h.1 0 (by simp [F]) (by omega)⟩)
  (fun x k=>x.length+k<=1048576) (fun x v k h=>by simp only [List.length_append,List.length_cons,List.length_nil];omega) hY [] (by simpa using hc) (fun _=>False)
  [.map (kW m) (vW WR.av m) bs c,.box [.mp 0],.box [.raw (.slice none 0 0)],lo .ready] ⟨fun i h1 h2=>by
    have h4:i<4:=h1
    have:i=0\/i=1\/i=3:=by omega
    rcases this with rfl | rfl | rfl <;> rfl,fun i h=>h.elim,by simp [F],by simp [F],.inl ⟨rfl,rfl⟩⟩
 refine ⟨_,h131,?_⟩
 rintro r H' ⟨l,hp,⟨h0,_,_,h3,hx⟩,_,_⟩
 rw [fold_snocH,List.nil_append] at hx
 have e0:H'[0]?=some (.map (kW m) (vW WR.av m) bs c):=h0 0 (by simp [F]) (by omega)
 have e1:H'[1]?=some (.box [.mp 0]):=h0 1 (by simp [F]) (by omega)
 have e3:H'[3]?=some (lo .ready):=h0 3 (by simp [F]) (by omega)
 have h34:4<=H'.length:=h3
 have g0:(H'.set 3 .lost)[0]?=some (.map (kW m) (vW WR.av m) bs c):=by rw [at_set _ _ 3 0 (by omega)];exact e0
 have g1:(H'.set 3 .lost)[1]?=some (.box [.mp 0]):=by rw [at_set _ _ 3 1 (by omega)];exact e1
 have hl2:(H'.set 3 .lost).length=H'.length:=by simp
 refine ⟨.ready,none,[(2,.op 2 0)],e3,by simp,[(2,.op 2 0)],H'.set 3 .lost,Ent.fr (by simp [FrSub,Go.Al.get]),?_⟩
 rcases hx with ⟨rfl,h1⟩ | ⟨a,a1,a2,_,a4,a5⟩
 . have g2:(H'.set 3 .lost)[2]?=some (.box [.raw (.slice none 0 0)]):=by rw [at_set _ _ 3 2 (by omega)];exact h1
   generalize H'.set 3 .lost=H2 at *
   repeat' (first|(with_reducible first|(apply St.o;constructor)<;>intro _|refine ai ?_|(apply Sq.o;constructor))|simp (disch:=omega) only [lE,seval,g2])
   refine keep_i [0,1] false (by simp;omega) (by simp) rfl ⟨[],hp,.inl ⟨rfl,?_,?_⟩⟩
   . simp only [lP,seval]
   . simp only [lP,seval,g0,g1,pa_kW,pa_vH]
 . have ha4:4<=a:=a1
   have g2:(H'.set 3 .lost)[2]?=some (.box [.slc a 4 l.length]):=by rw [at_set _ _ 3 2 (by omega)];exact a4
   have ga:(H'.set 3 .lost)[a]?=some (.arr 59 4 (l.map WR.av)):=by rw [at_set _ _ 3 a (by omega)];exact a5
   generalize H'.set 3 .lost=H2 at *
   repeat' (first|(with_reducible first|(apply St.o;constructor)<;>intro _|refine ai ?_|(apply Sq.o;constructor))|simp (disch:=omega) only [lE,seval,g2])
   have hpos:pos [0,1,a] a 0=some 2:=by
    have z1:¬ 0=a:=by omega
    have z2:¬ 1=a:=by omega
    simp [pos,z1,z2]
   refine keep_i [0,1,a] false (by simp;omega) (by simp;omega) rfl ⟨l,hp,.inr ⟨?_,?_⟩⟩
   . simp only [lP,seval,hpos]
   . simp only [lP,seval,g0,g1,ga,pa_kW,pa_vH,pa_wrs]
end Go.Proofs.Try
