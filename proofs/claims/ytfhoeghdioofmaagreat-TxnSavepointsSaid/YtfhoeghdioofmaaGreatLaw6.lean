/-
 For every stamp to begin with,at most 120 calls and an active transaction: after Save,at most 60 further writes and Back to the mark its writes are what they were,and so they are after Back to a lesser mark and those writes again that were taken back.
-/
import Derived.Test.YtfhoeghdioofmaaGreatEzz
import Derived.Test.YtfhoeghdioofmaaGreatEoo
import Derived.Test.YtfhoeghdioofmaaGreatBulk
set_option linter.unusedSimpArgs false
set_option linter.unusedVariables false
namespace Go.Proofs.Try
open Go.Proofs.Tryz
open Go.Al
set_option maxRecDepth 100000
abbrev q6_0:MI:=oZ 10
def mc6:MC:=(.seq (.ops [(none,q6_0)]) (.seq (.ops [pM 34 1,pV 35 10 34,pM 11 35]) (.seq (.ops [pM 36 0,pV 37 11 36,pM 12 37]) (.seq (.seq (.ops [pM 38 11,pN 39 38,pM 40 39,gF 40 (oM 41 12),(some (40,false),.v (.eq 42 false .ptr (.t 41) (.c (.raw (.pointer none))))),pO 43 40 42,pM 44 43,gF 44 (oM 45 3),gF 44 (oG 46 45),(some (44,false),.v (.bin 47 .gtr false (.t 46) (.c (.int .i64 60)))),pO 48 44 47]) (.cond 48 (.seq (.ops [(none,.e (.call (some 49) 12 [])),pM 10 49]) .ret) .skip)) (.seq (.seq (.ops [pI 13 0]) (.block 0 (.loop (.seq (.seq (.ops [pM 50 13,pM 51 1,pG 52 51,pB 53 50 52]) (.cond 53 .skip (.exit 0))) (.seq (.block 1 (.ops [pM 56 12,pM 57 1,pM 58 13,pQ 59 6 57 58,pR 60 6 59,pW 61 13 56 60])) (.ops [pM 54 13,pA 55 54 1,pM 13 55])))))) (.seq (.ops [pM 62 12,pV 63 24 62,pM 14 63]) (.seq (.seq (.ops [pM 64 14,pG 65 64,pE 66 65 0]) (.cond 66 (.seq (.ops [(none,.e (.call (some 67) 12 [])),pM 10 67]) .ret) .skip)) (.seq (.ops [pM 68 14,pM 69 2,(none,.v (.conv 70 .i64 (.t 69))),pM 71 14,pG 72 71,(none,.p (.rem 73 (.t 70) (.t 72))),pQ 74 1 68 73,pL 75 74,pM 15 75]) (.seq (.ops [pM 77 12,pM 78 15,pW 79 25 77 78,pM 76 79,pX 80 0 76,pX 81 1 76,pM 16 80,pM 17 81]) (.seq (.ops [pM 83 12,pM 84 15,pW 85 26 83 84,pM 82 85,pX 86 0 82,pX 87 1 82,pM 18 86,pM 19 87]) (.seq (.ops [pI 20 0]) (.seq (.ops [pY 21]) (.seq (.seq (.ops [pI 22 0]) (.block 2 (.loop (.seq (.seq (.ops [pM 88 22,pM 89 3,pG 90 89,pB 91 88 90]) (.cond 91 .skip (.exit 2))) (.seq (.block 3 (.seq (.ops [pM 94 12,pM 95 15,pM 96 3,pM 97 22,pQ 98 4 96 97,pR 99 4 98,(none,.e (.call (some 100) 27 [.t 94,.t 95,.t 99])),pE 101 100 0]) (.cond 101 (.seq (.ops [pM 102 20,pA 103 102 1,pM 20 103]) (.ops [pM 104 21,pM 105 3,pM 106 22,pQ 107 4 105 106,pR 108 4 107,(none,.e (.mkl 109 59 4 1 (.agg z1) [(0,.t 108)])),(none,.e (.app 110 59 4 48 (.t 104) (.t 109))),pM 21 110])) .skip))) (.ops [pM 92 22,pA 93 92 1,pM 22 93])))))) (.seq (.ops [pM 112 12,pM 113 15,pW 114 25 112 113,pM 111 114,pX 115 0 111,pX 116 1 111,pM 23 115,pM 24 116]) (.seq (.ops [pM 118 12,pM 119 15,pW 120 26 118 119,pM 117 120,pX 121 0 117,pX 122 1 117,pM 25 121,pM 26 122]) (.seq (.seq (.ops [pM 123 17,pD 124 123 0,pM 125 124,gF 125 (oM 126 19),gF 125 (oD 127 126 0),pO 128 125 127,pM 129 128,gF 129 (oM 130 24),gF 129 (oD 131 130 0),pO 132 129 131,pM 133 132,gF 133 (oM 134 26),gF 133 (oD 135 134 0),pO 136 133 135,pM 137 136,gF 137 (oM 138 25),gF 137 (oM 139 18),gF 137 (oM 140 20),(some (137,false),.v (.bin 141 .add false (.t 139) (.t 140))),(some (137,false),.v (.bin 142 .neq false (.t 138) (.t 141))),pO 143 137 142]) (.cond 143 (.seq (.ops [(none,q6_0)]) .ret) .skip)) (.seq (.ops [pI 27 0]) (.seq (.seq (.ops [pM 144 20,(none,.v (.bin 145 .gtr false (.t 144) (.c (.int .i64 0))))]) (.cond 145 (.ops [pM 146 4,(none,.v (.conv 147 .i64 (.t 146))),pM 148 20,(none,.p (.rem 149 (.t 147) (.t 148))),pM 27 149]) .skip)) (.seq (.seq (.ops [pM 150 12,pM 151 15,pM 152 18,pM 153 27,(none,.v (.bin 154 .add false (.t 152) (.t 153))),(none,.e (.call (some 155) 28 [.t 150,.t 151,.t 154])),pD 156 155 0]) (.cond 156 (.seq (.ops [(none,q6_0)]) .ret) .skip)) (.seq (.seq (.ops [pM 157 27,pM 28 157]) (.block 4 (.loop (.seq (.seq (.ops [pM 158 28,pM 159 20,pB 160 158 159]) (.cond 160 .skip (.exit 4))) (.seq (.block 5 (.seq (.ops [pM 163 12,pM 164 15,pM 165 21,pM 166 28,pQ 167 4 165 166,pR 168 4 167,(none,.e (.call (some 169) 27 [.t 163,.t 164,.t 168])),pD 170 169 0]) (.cond 170 (.seq (.ops [(none,q6_0)]) .ret) .skip))) (.ops [pM 161 28,pA 162 161 1,pM 28 162])))))) (.seq (.ops [pM 172 12,pM 173 15,pW 174 25 172 173,pM 171 174,pX 175 0 171,pX 176 1 171,pM 29 175,pM 30 176]) (.seq (.ops [pM 177 12,pM 178 15,pM 179 18,(none,.e (.call (some 180) 28 [.t 177,.t 178,.t 179])),pM 31 180]) (.seq (.ops [pM 182 12,pM 183 15,pW 184 25 182 183,pM 181 184,pX 185 0 181,pX 186 1 181,pM 32 185,pM 33 186]) (.seq (.ops [(none,.e (.call (some 187) 12 [])),pM 188 187,gT 188 (oM 189 30),gT 188 (oE 190 189 0),pP 191 188 190,pM 192 191,gT 192 (oM 193 33),gT 192 (oE 194 193 0),pP 195 192 194,pM 196 195,gT 196 (oM 197 31),gT 196 (oE 198 197 0),pP 199 196 198,pM 200 199,gT 200 (oM 201 29),gT 200 (oM 202 23),gT 200 (oW 203 29 201 202),pP 204 200 203,pM 205 204,gT 205 (oM 206 32),gT 205 (oM 207 16),gT 205 (oW 208 29 206 207),pP 209 205 208,pM 10 209]) .ret))))))))))))))))))))))))
theorem ok6:FnOk E 6 210 [.tmp 10] mc6:=ofk func6
set_option maxHeartbeats 16000000
theorem few_len {l:List CL} (h:fewS l=true):l.length<=120/\∀ c ∈ l,c.vals.length<=20:=by
 simp only [fewS,Bool.and_eq_true,List.all_eq_true,decide_eq_true_eq] at h
 exact ⟨h.2,h.1⟩
def wT (u:TS) (tx:Int) (t:TX) (gs:List WR):TS:=setT u tx { t with log:=t.log++gs }
theorem wT_get {u:TS} {tx:Int} {t:TX} (hg:getT u tx=some t) (gs:List WR):getT (wT u tx t gs) tx=some { t with log:=t.log++gs }:=get_set hg
theorem wT_write {u:TS} {tx:Int} {t:TX} (hg:getT u tx=some t) {gs:List WR} {w:WR} (h:okW t.mode (t.log++gs) w):writeS (wT u tx t gs) tx w=(0,wT u tx t (gs++[w])):=by
 obtain ⟨h1,h2,_⟩:=write_ok (wT_get hg gs) w
 have e:=h1.2 h
 refine Prod.ext e ((h2 e).trans ?_)
 simp only [wT,set_set,List.append_assoc]
theorem wT_back {u:TS} {tx:Int} {t:TX} (hg:getT u tx=some t) {gs:List WR} {k:Nat} (hk:k<=gs.length):backS (wT u tx t gs) tx ((t.log.length:Int)+k)=(0,wT u tx t (gs.take k)):=by
 have h:=back_ok (wT_get hg gs) (m:=t.log.length+k) (by simp;omega)
 rw [Int.natCast_add] at h
 rw [h]
 simp only [wT,set_set]
 rw [List.take_length_add_append]
theorem set_self {u:TS} (h:IvS u) {tx:Int} {t:TX} (hg:getT u tx=some t):setT u tx t=u:=by
 have:∀ l:List (Int × TX),(∀ p ∈ l,p.1=tx->p.2=t)->l.map (fun p=>if p.1=tx then (tx,t) else p)=l:=fun l hl=>by
  refine (List.map_congr_left fun p hp=>?_).trans (List.map_id _)
  by_cases e:p.1=tx
  . rw [if_pos e,<- hl p hp e,<- e];rfl
  . rw [if_neg e];rfl
 unfold setT
 rw [this _ fun p hp e=>by
  have:=h.getT hp
  rw [e,hg] at this;exact (Option.some.inj this).symm]
theorem c6 (last:Int) (l:List CL) (which:Int) (more:List WR) (cut:Int) (hw:0<=which/\which<=255) (hcu:0<=cut/\cut<=255) (hmv:∀ w ∈ more,w.vals.length<=4398046510976):ACalls E.P 6 [.int .i64 last,.view 6 (l.map CL.av),.int .u8 which,.view 4 (more.map WR.av),.int .u8 cut] [] (fun r H=>r=.bool true/\H=[]):=by
 have hmax:=maxLen_eq
 have h10:=c10 l
 refine ok6.acalls hE hm (by simp) fun N hN=>?_
 unfold mc6 q6_0 z1 pM pV pN pO pI pG pB pQ pR pW pA pE pL pX pY pD pP gF gT oM oE oD oZ oG oW
 simp only [lA,seval]
 repeat' (first|(with_reducible first|(apply St.o;constructor)<;>intro _|refine ai ?_|(apply Sq.o;constructor))|((with_reducible apply Sc.o true;constructor);simp only [lP,seval];refine ⟨_,h10,?_⟩;rintro _ _ ⟨rfl,rfl⟩;simp only [lA,lP,seval])|simp (disch:=omega) only [lE,seval])
 by_cases hl:okLast last
 rotate_left
 . refine callW_i (f11n hl _) ?_
   rintro _ _ ⟨rfl,rfl⟩
   cases hf:fewS l
   . repeat' (first|(with_reducible first|(apply St.o;constructor)<;>intro _|refine ai ?_|(apply Sq.o;constructor))|((with_reducible apply Sc.o true;constructor);simp only [lP,seval,isNil,Go.Al.ptrEq,hf];refine ⟨_,c12,?_⟩;rintro _ _ ⟨rfl,rfl⟩;simp only [lA,lP,seval,isNil,Go.Al.ptrEq,hf])|simp (disch:=omega) only [lE,seval,isNil,Go.Al.ptrEq,hf])
     exact keep_b rfl
   . repeat' (first|(with_reducible first|(apply St.o;constructor)<;>intro _|refine ai ?_|(apply Sq.o;constructor))|((with_reducible apply Sc.o true;constructor);simp only [lP,seval,isNil,Go.Al.ptrEq,hf];refine ⟨_,c12,?_⟩;rintro _ _ ⟨rfl,rfl⟩;simp only [lA,lP,seval,isNil,Go.Al.ptrEq,hf])|simp (disch:=omega) only [lE,seval,isNil,Go.Al.ptrEq,hf])
     exact keep_b rfl
 refine callW_i (f11s hl _ (fun _=>False) (fun _ h=>h.elim)) ?_
 rintro _ H0 ⟨X,rfl,a0,_⟩
 obtain ⟨cs0,b0⟩:=a0.box
 cases hf:fewS l
 . repeat' (first|(with_reducible first|(apply St.o;constructor)<;>intro _|refine ai ?_|(apply Sq.o;constructor))|((with_reducible apply Sc.o true;constructor);simp only [lP,seval,b0,isNil,Go.Al.ptrEq,hf];refine ⟨_,c12,?_⟩;rintro _ _ ⟨rfl,rfl⟩;simp only [lA,lP,seval,b0,isNil,Go.Al.ptrEq,hf])|simp (disch:=omega) only [lE,seval,b0,isNil,Go.Al.ptrEq,hf])
   exact keep_b rfl
 repeat' (first|(with_reducible first|(apply St.o;constructor)<;>intro _|refine ai ?_|(apply Sq.o;constructor))|((with_reducible apply Sc.o true;constructor);simp only [lP,seval,b0,isNil,Go.Al.ptrEq,hf,List.length_map];refine ⟨_,c12,?_⟩;rintro _ _ ⟨rfl,rfl⟩;simp only [lA,lP,seval,b0,isNil,Go.Al.ptrEq,hf,List.length_map])|simp (disch:=omega) only [lE,seval,b0,isNil,Go.Al.ptrEq,hf,List.length_map])
 . exact keep_b rfl
 obtain ⟨hlen,hvals⟩:=few_len hf
 refine loop_i (fun p:Nat × List AObj=>p.1<=l.length/\TsF X p.2 (runT (t0 last) (l.take p.1)) (fun _=>False)) (fun p=>⟨[(1,.view 6 (l.map CL.av)),(2,.int .u8 which),(3,.view 4 (more.map WR.av)),(4,.int .u8 cut),(12,.op X 0),(13,.int .i64 p.1)],p.2⟩) (fun p=>l.length - p.1) (0,H0) ⟨by simp,a0⟩ (Ent.fr (by simp [FrSub,Go.Al.get])) ?_
 rintro ⟨i,H1⟩ ⟨hi,a1⟩
 simp only at hi a1 ⊢
 by_cases hil:i<l.length
 . obtain ⟨ok1,iv1⟩:=run_ok hl (by omega) i hi
   have hnx:=runT_next (t0 last) hil
   have hcv:=hvals _ (getD_mem hil)
   generalize hc:l.getD i default=c at *
   generalize runT (t0 last) (l.take i)=u at *
   repeat' (first|(with_reducible first|(apply St.o;constructor)<;>intro _|refine ai ?_|(apply Sq.o;constructor))|simp (disch:=omega) only [lE,seval,IdxR_cls,hc,cl_load,Int.toNat_natCast,List.length_map])
   all_goals try (exfalso;omega)
   refine callW_i (f13 a1 ok1 (by omega) c (by omega)) ?_
   rintro _ H2 ⟨rfl,a2,_⟩
   repeat' (first|(with_reducible first|(apply St.o;constructor)<;>intro _|refine ai ?_|(apply Sq.o;constructor))|simp (disch:=omega) only [lE,seval])
   exact back_i (i+1,H2) ⟨by simp only;omega,by simp only;rw [hnx];exact a2⟩ (by simp only;omega) (Ent.fr (by simp [FrSub,Go.Al.get]))
 . obtain rfl:i=l.length:=by omega
   obtain ⟨ok1,iv1⟩:=run_ok hl (by omega) _ hi
   generalize runT (t0 last) (l.take l.length)=u at *
   repeat' (first|(with_reducible first|(apply St.o;constructor)<;>intro _|refine ai ?_|(apply Sq.o;constructor))|simp (disch:=omega) only [lE,seval,List.length_map,Int.lt_irrefl,decide_false])
   all_goals try (exfalso;omega)
   refine callW_i (f24 a1 ok1) ?_
   rintro _ H2 ⟨rfl,a2,_⟩
   repeat' (first|(with_reducible first|(apply St.o;constructor)<;>intro _|refine ai ?_|(apply Sq.o;constructor))|((with_reducible apply Sc.o true;constructor);simp only [lP,seval,List.length_map];refine ⟨_,c12,?_⟩;rintro _ _ ⟨rfl,rfl⟩;simp only [lA,lP,seval,List.length_map])|simp (disch:=omega) only [lE,seval,List.length_map])
   . exact keep_b rfl
   rename_i hne
   obtain ⟨j,hj,hjl⟩:∃ j:Nat,which.tmod (u.act.length:Int)=j/\j<u.act.length:=by
    refine ⟨(which.tmod (u.act.length:Int)).toNat,?_,?_⟩
    . have:=Int.tmod_nonneg (u.act.length:Int) hw.1;omega
    . have h1:=Int.tmod_nonneg (u.act.length:Int) hw.1
      have h2:=Int.tmod_lt_of_pos which (b:=(u.act.length:Int)) (by omega)
      omega
   have hpm:u.act.getD j default ∈ u.act:=getD_mem hjl
   have hgt:=iv1.getT hpm
   have hgi:(u.act.map (·.1)).getD j 0=(u.act.getD j default).1:=by simp [hjl]
   have hjl':(j:Int)<((u.act.map (·.1)).length:Int):=by rw [List.length_map];omega
   generalize u.act.getD j default=p at *
   obtain ⟨tx,t⟩:=p
   simp only at hgt hgi
   repeat' (first|(with_reducible first|(apply St.o;constructor)<;>intro _|refine ai ?_|(apply Sq.o;constructor))|simp (disch:=omega) only [lE,seval,hj,IdxR_int,hgi,Int.toNat_natCast,List.length_map])
   all_goals try (exfalso;omega)
   refine callW_i (f25 a2 ok1 tx) ?_
   rintro _ H3 ⟨rfl,a3,_⟩
   rw [hgt]
   simp only [writesS]
   repeat' (first|(with_reducible first|(apply St.o;constructor)<;>intro _|refine ai ?_|(apply Sq.o;constructor))|simp (disch:=omega) only [lE,seval])
   refine callW_i (f26 a3 tx) ?_
   rintro _ H3 ⟨rfl,rfl⟩
   rw [hgt]
   simp only [saveT]
   have htl:=(ok1.tx t (getT_mem hgt)).2
   have hto:=(ok1.tx t (getT_mem hgt)).1
   have hw0:wT u tx t []=u:=by simp only [wT,List.append_nil];exact set_self iv1 hgt
   repeat' (first|(with_reducible first|(apply St.o;constructor)<;>intro _|refine ai ?_|(apply Sq.o;constructor))|simp (disch:=omega) only [lE,seval])
   refine loop_i (fun p:Nat × List WR × Nat × List AObj=>p.1<=more.length/\p.2.1.length<=p.1/\TsF X p.2.2.2 (wT u tx t p.2.1) (fun i=>i=p.2.2.1)/\OkS (200+p.1) (wT u tx t p.2.1)/\p.2.2.2[p.2.2.1]?=some (.arr 59 4 (p.2.1.map WR.av))/\∀ k,k<p.2.1.length->okW t.mode (t.log++p.2.1.take k) (p.2.1.getD k default)/\(p.2.1.getD k default).vals.length<=4398046510976)
    (fun p=>⟨[(3,.view 4 (more.map WR.av)),(4,.int .u8 cut),(12,.op X 0),(15,.int .i64 tx),(16,.view 4 ((lastW t.log).map WR.av)),(17,.int .i64 0),(18,.int .i64 t.log.length),(19,.int .i64 0),(20,.int .i64 p.2.1.length),(21,.slc p.2.2.1 4 p.2.1.length),(22,.int .i64 p.1)],p.2.2.2⟩) (fun p=>more.length - p.1) (0,[],H3.length,H3++[.arr 59 4 []])
    ⟨by simp,by simp,by simp only [hw0];exact (a3.push _).weak fun i hi=>.inr hi,by simp only [hw0];exact ok1.weak (by omega),by simp,by simp⟩ (Ent.ghost' 21 59 4 (by omega) rfl (Ent.fr (by simp [FrSub,Go.Al.get]))) ?_
   rintro ⟨i,gs,id,H4⟩ ⟨hi4,hgl,a4,ok4',hid,hall⟩
   simp only at hi4 hgl a4 ok4' hid hall ⊢
   by_cases him:i<more.length
   . have hmm:=getD_mem him
     have hmv':=hmv _ hmm
     generalize hx:more.getD i default=w at *
     have h27:=f27 a4 ok4' (by omega) tx w hmv'
     by_cases hok:okW t.mode (t.log++gs) w
     . have okn:=ok4'.write (by omega) tx w
       rw [wT_write hgt hok] at h27 okn
       repeat' (first|(with_reducible first|(apply St.o;constructor)<;>intro _|refine ai ?_|(apply Sq.o;constructor))|simp (disch:=omega) only [lE,seval,IdxR_wrs,hx,Int.toNat_natCast,List.length_map])
       all_goals try (exfalso;omega)
       refine callW_i h27 ?_
       rintro _ H5 ⟨rfl,a5,hk5⟩
       have hid5:=(hk5.2 id rfl).trans hid
       repeat' (first|(with_reducible apply St.o;constructor) <;> intro _|((with_reducible refine mkl_view ?_ ?_ ?_);(focus decide);(focus rfl))|(with_reducible first|refine ai ?_|(apply Sq.o;constructor))|simp (disch:=omega) only [lE,seval,IdxR_wrs,hx,hid5,get_last,Int.toNat_natCast,List.length_map])
       all_goals try (exfalso;omega)
       have hl5:=at_lt hid5
       refine back_i (i+1,gs++[w],(H5.set id .dead).length,H5.set id .dead++[.arr 59 4 (gs.map WR.av++[w.av])]) ⟨by simp only;omega,by simp;omega,?_,?_,?_,?_⟩ (by simp only;omega) (Ent.fr (by simp [FrSub,Go.Al.get]))
       . exact ((a5.put rfl .dead).push _).weak fun j hj=>.inr hj
       . exact okn
       . simp only;rw [List.map_append];exact get_last
       . intro k hk
         simp only [List.length_append,List.length_singleton] at hk
         by_cases e:k<gs.length
         . have h1:(gs++[w]).getD k default=gs.getD k default:=by simp [List.getElem?_append_left e]
           simp only
           rw [h1,List.take_append_of_le_length (by omega)];exact hall k e
         . have e2:k=gs.length:=by omega
           subst e2
           simp only
           rw [show (gs++[w]).getD gs.length default=w by simp,List.take_append_of_le_length (by omega),List.take_length]
           exact ⟨hok,hmv'⟩
     . have hne:=fun h=>hok ((write_ok (wT_get hgt gs) w).1.1 h)
       have hsame:=(write_ok (wT_get hgt gs) w).2.2 hne
       repeat' (first|(with_reducible first|(apply St.o;constructor)<;>intro _|refine ai ?_|(apply Sq.o;constructor))|simp (disch:=omega) only [lE,seval,IdxR_wrs,hx,Int.toNat_natCast,List.length_map])
       all_goals try (exfalso;omega)
       refine callW_i h27 ?_
       rintro _ H5 ⟨rfl,a5,hk5⟩
       have hid5:=(hk5.2 id rfl).trans hid
       rw [hsame] at a5
       repeat' (first|(with_reducible first|(apply St.o;constructor)<;>intro _|refine ai ?_|(apply Sq.o;constructor))|simp (disch:=omega) only [lE,seval,hne,decide_false])
       . rename_i h0;exact absurd h0 hne
       . exact back_i (i+1,gs,id,H5) ⟨by simp only;omega,by simp only;omega,a5,ok4'.weak (by simp only;omega),hid5,hall⟩ (by simp only;omega) (Ent.fr (by simp [FrSub,Go.Al.get]))
   . obtain rfl:i=more.length:=by omega
     have hg4:=wT_get hgt gs
     repeat' (first|(with_reducible first|(apply St.o;constructor)<;>intro _|refine ai ?_|(apply Sq.o;constructor))|simp (disch:=omega) only [lE,seval,List.length_map,Int.lt_irrefl,decide_false])
     all_goals try (exfalso;omega)
     refine callW_i (f25 a4 ok4' tx) ?_
     rintro _ H5 ⟨rfl,a5,hk5⟩
     have hid5:=(hk5.2 id rfl).trans hid
     rw [hg4]
     simp only [writesS]
     repeat' (first|(with_reducible first|(apply St.o;constructor)<;>intro _|refine ai ?_|(apply Sq.o;constructor))|simp (disch:=omega) only [lE,seval])
     refine callW_i (f26 a5 tx) ?_
     rintro _ H5 ⟨rfl,rfl⟩
     rw [hg4]
     simp only [saveT]
     have hlen4:(((t.log++gs).length:Nat):Int)=(t.log.length:Int)+gs.length:=by simp
     have hwr:IntKind.i64.wrap ((t.log.length:Int)+gs.length)=(t.log.length:Int)+gs.length:=wrap_i64 (by omega) (by omega)
     repeat' (first|(with_reducible first|(apply St.o;constructor)<;>intro _|refine ai ?_|(apply Sq.o;constructor))|simp (disch:=omega) only [lE,seval,hlen4,hwr,decide_true])
     all_goals try (exfalso;omega)
     . obtain ⟨sm,hsm,hsl⟩:∃ sm:Nat,cut.tmod (gs.length:Int)=sm/\sm<=gs.length:=by
        have h1:=Int.tmod_nonneg (gs.length:Int) hcu.1
        have h2:=Int.tmod_lt_of_pos cut (b:=(gs.length:Int)) (by omega)
        exact ⟨(cut.tmod (gs.length:Int)).toNat,by omega,by omega⟩
       have hb28:=wT_back (u:=u) (tx:=tx) hgt hsl
       have hwr2:IntKind.i64.wrap ((t.log.length:Int)+(sm:Int))=(t.log.length:Int)+sm:=wrap_i64 (by omega) (by omega)
       simp only [hsm,hwr2]
       have ok6:OkS 300 (wT u tx t (gs.take sm)):=by
        have:=ok4'.back tx ((t.log.length:Int)+(sm:Nat))
        rw [hb28] at this
        exact this.weak (by omega)
       have h28:=f28 a5 ok4' (by omega) tx ((t.log.length:Int)+(sm:Nat))
       rw [hb28] at h28
       skip
       refine callW_i h28 ?_
       rintro _ H6 ⟨rfl,a6,hk6⟩
       have hid6:=(hk6.2 id rfl).trans hid5
       repeat' (first|(with_reducible first|(apply St.o;constructor)<;>intro _|refine ai ?_|(apply Sq.o;constructor))|simp (disch:=omega) only [lE,seval])
       refine loop_i (fun p:Nat × List AObj=>p.1<=gs.length/\TsF X p.2 (wT u tx t (gs.take p.1)) (fun i=>i=id)/\OkS (300+p.1) (wT u tx t (gs.take p.1))/\p.2[id]?=some (.arr 59 4 (gs.map WR.av)))
        (fun p=>⟨[(12,.op X 0),(15,.int .i64 tx),(16,.view 4 ((lastW t.log).map WR.av)),(18,.int .i64 t.log.length),(20,.int .i64 gs.length),(21,.slc id 4 gs.length),(23,.view 4 ((lastW (t.log++gs)).map WR.av)),(28,.int .i64 p.1)],p.2⟩) (fun p=>gs.length - p.1) (sm,H6)
        ⟨by simp only;omega,a6,ok6.weak (by simp only;omega),hid6⟩ (Ent.fr (by simp [FrSub,Go.Al.get])) ?_
       rintro ⟨i,H7⟩ ⟨hi7,a7,ok7',hid7⟩
       simp only at hi7 a7 ok7' hid7 ⊢
       by_cases hig:i<gs.length
       . obtain ⟨hok,hgv⟩:=hall i hig
         have hlt:((i:Int)<(gs.length:Int)):=by omega
         have hep:∀ {m N d c},epR E.P m N (some (.arr 59 4 (gs.map WR.av))) (i:Int) gs.length id 4 d c=rK E.P m N c d (.ep id 4 i 0):=epR_ne (by simp) (by omega) (by omega)
         have hdg:(gs.map WR.av)[i]?=some (gs.getD i default).av:=by simp [hig]
         have htk:=take_succD hig
         generalize hd:gs.getD i default=w at *
         have hwa:w.av=.agg w.cs:=rfl
         have h27:=f27 a7 ok7' (by omega) tx w hgv
         have okn:=ok7'.write (by omega) tx w
         rw [wT_write hgt hok,<- htk] at h27 okn
         repeat' (first|(with_reducible first|(apply St.o;constructor)<;>intro _|refine ai ?_|(apply Sq.o;constructor))|simp (disch:=omega) only [lE,seval,hid7,hep,hdg,hwa,hlt,Int.toNat_natCast,List.length_map,decide_true])
         all_goals try (exfalso;omega)
         refine callW_i h27 ?_
         rintro _ H8 ⟨rfl,a8,hk8⟩
         have hid8:=(hk8.2 id rfl).trans hid7
         repeat' (first|(with_reducible first|(apply St.o;constructor)<;>intro _|refine ai ?_|(apply Sq.o;constructor))|simp (disch:=omega) only [lE,seval])
         exact back_i (i+1,H8) ⟨by simp only;omega,a8,okn,hid8⟩ (by simp only;omega) (Ent.fr (by simp [FrSub,Go.Al.get]))
       . obtain rfl:i=gs.length:=by omega
         rw [List.take_length] at a7 ok7'
         repeat' (first|(with_reducible first|(apply St.o;constructor)<;>intro _|refine ai ?_|(apply Sq.o;constructor))|simp (disch:=omega) only [lE,seval,List.length_map,Int.lt_irrefl,decide_false])
         all_goals try (exfalso;omega)
         refine callW_i (f25 a7 ok7' tx) ?_
         rintro _ H8 ⟨rfl,a8,_⟩
         rw [hg4]
         simp only [writesS]
         repeat' (first|(with_reducible first|(apply St.o;constructor)<;>intro _|refine ai ?_|(apply Sq.o;constructor))|simp (disch:=omega) only [lE,seval])
         have hb0:=wT_back (u:=u) (tx:=tx) hgt (gs:=gs) (k:=0) (by omega)
         have h280:=f28 a8 ok7' (by omega) tx ((t.log.length:Int)+(0:Nat))
         have ok9:=ok7'.back tx ((t.log.length:Int)+(0:Nat))
         rw [hb0] at h280 ok9
         rw [List.take_zero,hw0,Int.natCast_zero,Int.add_zero] at h280
         rw [List.take_zero,hw0] at ok9
         refine callW_i h280 ?_
         rintro _ H9 ⟨rfl,a9,_⟩
         repeat' (first|(with_reducible first|(apply St.o;constructor)<;>intro _|refine ai ?_|(apply Sq.o;constructor))|simp (disch:=omega) only [lE,seval])
         refine callW_i (f25 a9 ok9 tx) ?_
         rintro _ H10 ⟨rfl,a10,_⟩
         rw [hgt]
         simp only [writesS]
         have h29a:=c29 (lastW (t.log++gs)) (lastW (t.log++gs))
         have h29b:=c29 (lastW t.log) (lastW t.log)
         rw [decide_eq_true rfl] at h29a h29b
         repeat' (first|(with_reducible first|(apply St.o;constructor)<;>intro _|refine ai ?_|(apply Sq.o;constructor))|((with_reducible apply Sc.o true;constructor);simp only [lP,seval];(first|refine ⟨_,c12,?_⟩|refine ⟨_,h29a,?_⟩|refine ⟨_,h29b,?_⟩);rintro _ _ ⟨rfl,rfl⟩;simp only [lA,lP,seval])|simp (disch:=omega) only [lE,seval])
         exact keep_b rfl
     . have hb28:=wT_back (u:=u) (tx:=tx) hgt (gs:=gs) (k:=0) (by omega)
       have ok6:OkS 300 (wT u tx t (gs.take 0)):=by
        have:=ok4'.back tx ((t.log.length:Int)+(0:Nat))
        rw [hb28] at this
        exact this.weak (by omega)
       have h28:=f28 a5 ok4' (by omega) tx ((t.log.length:Int)+(0:Nat))
       rw [hb28] at h28
       rw [Int.natCast_zero] at h28
       refine callW_i h28 ?_
       rintro _ H6 ⟨rfl,a6,hk6⟩
       have hid6:=(hk6.2 id rfl).trans hid5
       repeat' (first|(with_reducible first|(apply St.o;constructor)<;>intro _|refine ai ?_|(apply Sq.o;constructor))|simp (disch:=omega) only [lE,seval])
       refine loop_i (fun p:Nat × List AObj=>p.1<=gs.length/\TsF X p.2 (wT u tx t (gs.take p.1)) (fun i=>i=id)/\OkS (300+p.1) (wT u tx t (gs.take p.1))/\p.2[id]?=some (.arr 59 4 (gs.map WR.av)))
        (fun p=>⟨[(12,.op X 0),(15,.int .i64 tx),(16,.view 4 ((lastW t.log).map WR.av)),(18,.int .i64 t.log.length),(20,.int .i64 gs.length),(21,.slc id 4 gs.length),(23,.view 4 ((lastW (t.log++gs)).map WR.av)),(28,.int .i64 p.1)],p.2⟩) (fun p=>gs.length - p.1) (0,H6)
        ⟨by simp only;omega,a6,ok6.weak (by simp only;omega),hid6⟩ (Ent.fr (by simp [FrSub,Go.Al.get])) ?_
       rintro ⟨i,H7⟩ ⟨hi7,a7,ok7',hid7⟩
       simp only at hi7 a7 ok7' hid7 ⊢
       by_cases hig:i<gs.length
       . exfalso;omega
       . obtain rfl:i=gs.length:=by omega
         rw [List.take_length] at a7 ok7'
         repeat' (first|(with_reducible first|(apply St.o;constructor)<;>intro _|refine ai ?_|(apply Sq.o;constructor))|simp (disch:=omega) only [lE,seval,List.length_map,Int.lt_irrefl,decide_false])
         all_goals try (exfalso;omega)
         refine callW_i (f25 a7 ok7' tx) ?_
         rintro _ H8 ⟨rfl,a8,_⟩
         rw [hg4]
         simp only [writesS]
         repeat' (first|(with_reducible first|(apply St.o;constructor)<;>intro _|refine ai ?_|(apply Sq.o;constructor))|simp (disch:=omega) only [lE,seval])
         have hb0:=wT_back (u:=u) (tx:=tx) hgt (gs:=gs) (k:=0) (by omega)
         have h280:=f28 a8 ok7' (by omega) tx ((t.log.length:Int)+(0:Nat))
         have ok9:=ok7'.back tx ((t.log.length:Int)+(0:Nat))
         rw [hb0] at h280 ok9
         rw [List.take_zero,hw0,Int.natCast_zero,Int.add_zero] at h280
         rw [List.take_zero,hw0] at ok9
         refine callW_i h280 ?_
         rintro _ H9 ⟨rfl,a9,_⟩
         repeat' (first|(with_reducible first|(apply St.o;constructor)<;>intro _|refine ai ?_|(apply Sq.o;constructor))|simp (disch:=omega) only [lE,seval])
         refine callW_i (f25 a9 ok9 tx) ?_
         rintro _ H10 ⟨rfl,a10,_⟩
         rw [hgt]
         simp only [writesS]
         have h29a:=c29 (lastW (t.log++gs)) (lastW (t.log++gs))
         have h29b:=c29 (lastW t.log) (lastW t.log)
         rw [decide_eq_true rfl] at h29a h29b
         repeat' (first|(with_reducible first|(apply St.o;constructor)<;>intro _|refine ai ?_|(apply Sq.o;constructor))|((with_reducible apply Sc.o true;constructor);simp only [lP,seval];(first|refine ⟨_,c12,?_⟩|refine ⟨_,h29a,?_⟩|refine ⟨_,h29b,?_⟩);rintro _ _ ⟨rfl,rfl⟩;simp only [lA,lP,seval])|simp (disch:=omega) only [lE,seval])
         exact keep_b rfl
end Go.Proofs.Try
namespace Go.Proofs.YtfhoeghdioofmaaGreat
open Go.Al Go.Proofs.Try
open Go.Proofs.Tryz
open Go.ChangeShapes Go.WideShapes Go.ChangeAt Go.RowKit
set_option maxRecDepth 100000 in
theorem lifted6 (os:Os) (started:os.Started) (H:Type) (enc:TypeId × Value->H) :
 ReturnsInHanded {} Tryz.checked os 6 .any (Rows.txnSavepointsSpec.pre6 enc Tryz.prog Tryz.f6 Rows.txnSavepointsRow.domain false) (Rows.txnSavepointsSpec.post enc Tryz.prog Tryz.f6 false true false false):=by
 refine returnsInHanded_of_change_sized (C:=Tryz.checked) own started (by kernel_rfl) Tryz.func6
  (ChangeSpec.witness6 (enc:=enc) (C:=Tryz.checked) false ⟨#[],#[.int .i64 0,.slice none 0 0,.int .u8 0,.slice none 0 0,.int .u8 0],[]⟩ 8 (by kernel_rfl) (by kernel_rfl) (by kernel_rfl) (by kernel_rfl)) ?_
 intro W base args ds gs before hval hW _ hs _
 have hs:FitEach (Tryz.f6.params.toList++Rows.txnSavepointsSpec.plain.varTypes Tryz.prog) (ds++gs):=fun x hx=>of_decide_eq_true (List.all_eq_true.1 hs x hx)
 rw [Tryz.params6] at hs
 exact contract_ofM hE kids full (s:=Rows.txnSavepointsSpec) (tb:=4) (by rw [Tryz.params6];decide +kernel) (by rw [Tryz.params6];exact readsM_cons rv3.m (readsM_cons rw22 (readsM_cons rv5.m (readsM_cons rw27 (readsM_cons rv5.m (readsM_nil))))))
  rfl (by rw [Tryz.params6];rintro H (_ | ⟨d0,(_ | ⟨d1,(_ | ⟨d2,(_ | ⟨d3,(_ | ⟨d4,(_ | ⟨dz,ds⟩)⟩)⟩)⟩)⟩)⟩) hl <;> simp at hl;exact ⟨rfl,rfl,rfl⟩) (by kernel_rfl) (by kernel_rfl) H enc W base args ds gs before (glob_ok _)
  (by rintro _ ⟨d0,_,a,_,rfl,ha,⟨d1,_,b,_,rfl,hb,⟨d2,_,c,_,rfl,hc,⟨d3,_,d,_,rfl,hd,⟨d4,_,e,_,rfl,he,⟨rfl,rfl⟩,rfl⟩,rfl⟩,rfl⟩,rfl⟩,rfl⟩;exact c6 a b c d e (u8_rng hc) (u8_rng he) (hd (fitEach_cons (fitEach_cons (fitEach_cons (fitEach_cons hs).2).2).2).1)) hval hW
theorem txnSavepoints_holds:Rows.TxnSavepointsSaid :=
 OpenClaim.holds_of_wide 6 Tryz.f6 rfl rfl rfl rfl rfl rfl rfl ⟨rfl,rfl,rfl,rfl,rfl⟩ rfl rfl rfl rfl rfl (by kernel_rfl) Tryz.func6 (by kernel_rfl)
  (of_decide_eq_true (by kernel_rfl)) (by unfold Func.isWrapper;first | (rw [if_pos (by decide +kernel)];kernel_rfl) | (rw [if_neg (by decide +kernel)];exact ⟨rfl,rfl⟩))
  (fun os started H enc _=>lifted6 os started H enc)
end Go.Proofs.YtfhoeghdioofmaaGreat
