/-
 A part of the proof: see the text of the law.
-/
import Derived.Test.YtchlampphcaomaaGreatDoorEat
import Derived.Test.YtchlampphcaomaaGreatDoorGau
import Derived.Test.YtchlampphcaomaaGreatDoorPae
import Derived.Test.YtchlampphcaomaaGreatDoorEai
set_option linter.unusedSimpArgs false
set_option linter.unusedVariables false
namespace Go.Proofs.Try
open Go.Proofs.Tryz
open Go.Al
set_option maxRecDepth 100000
def mc101:MC:=(.seq (.ops [pY 2]) (.seq (.ops [pI 3 0]) (.seq (.seq (.ops [pM 9 0,pG 10 9,pI 11 0]) (.block 0 (.loop (.seq (.ops [pB 12 11 10]) (.seq (.cond 12 .skip (.exit 0)) (.seq (.block 1 (.seq (.ops [pQ 13 1 9 11,pL 14 13,pM 5 14]) (.seq (.ops [pM 15 3,pM 16 5,pG 17 16,(none,.v (.bin 18 .add false (.t 15) (.t 17))),pM 3 18]) (.seq (.ops [pM 19 3,(none,.v (.bin 20 .lss false (.t 19) (.c (.int .i64 0))))]) (.cond 20 (.ops [(none,.v (.mki 21 9 (.c (.str ⟨#[108,101,110,32,111,117,116,32,111,102,32,114,97,110,103,101]⟩)))),(none,.e (.die))]) .skip))))) (.ops [pA 22 11 1,pM 11 22]))))))) (.seq (.ops [pM 23 3,(none,.e (.call (some 24) 122 [.c (.raw (.slice none 0 0)),.t 23])),pM 6 24]) (.seq (.seq (.ops [pM 25 0,pG 26 25,pI 27 0]) (.block 2 (.loop (.seq (.ops [pB 28 27 26]) (.seq (.cond 28 .skip (.exit 2)) (.seq (.block 3 (.seq (.ops [pQ 29 1 25 27,pL 30 29,pM 8 30]) (.ops [pM 31 6,pM 32 8,(none,.e (.app 33 25 3 32 (.t 31) (.t 32))),pM 6 33]))) (.ops [pA 34 27 1,pM 27 34]))))))) (.seq (.ops [pM 35 6,pM 2 35]) .ret))))))
theorem ok101:FnOk E 101 36 [.tmp 2] mc101:=ofk func101
set_option maxRecDepth 20000
set_option maxHeartbeats 16000000
theorem vwU_vls {H:List AObj} {l:List Nat} {n E' q:Nat} {a:List VL} (hq:q≤a.length):vwU none (some (.arr E' 3 (a.map VL.av))) H l (n+1) 3 0 q=rowV (a.take q):=by
 rw [vwU_arr (by simpa using hq),List.drop_zero,← List.map_take,vw_vls]
theorem vwU_rows {H:List AObj} {l:List Nat} {n E' q:Nat} {a:Rws} (hq:q≤a.length):vwU none (some (.arr E' 1 (a.map rowV))) H l n 1 0 q=rwsV (a.take q):=by
 rw [vwU_arr (by simpa using hq),List.drop_zero,← List.map_take,vw_rows]
abbrev wz (D:List VL) (m:Nat):List VL:=D++List.replicate m VL.null
theorem setAt_wz {D r:List VL} {m k:Nat} (hk:k=D.length) (h:r.length≤m):setAt ((wz D m).map VL.av) k (r.map VL.av)=(wz (D++r) (m - r.length)).map VL.av:=by
 subst hk
 unfold setAt wz
 rw [← List.map_take,List.take_left,List.length_map,← List.map_drop,List.drop_append,List.drop_eq_nil_of_le (by omega),List.nil_append,List.drop_replicate]
 simp only [List.map_append]
 rw [show D.length+r.length - D.length=r.length by omega]
theorem flat_len_take {l:Rws} {i:Nat} (h:i<l.length):(l.take (i+1)).flatten=(l.take i).flatten++l.getD i default:=by
 have hg:l.getD i default=l[i]:=by simp [h]
 rw [List.take_succ_eq_append_getElem h,List.flatten_append,hg]
 simp only [List.flatten_cons,List.flatten_nil,List.append_nil]
theorem flat_le_take {l:Rws} (i:Nat):(l.take i).flatten.length≤l.flatten.length:=by
 have:l.flatten=(l.take i).flatten++(l.drop i).flatten:=by rw [← List.flatten_append,List.take_append_drop]
 rw [this,List.length_append];omega
theorem c101 (l:Rws) (hl:l.flatten.length≤1000000) (hll:l.length≤1000000):ACalls E.P 101 [rwsV l] [] (fun r H=>r=rowV l.flatten∧H=[]):=by
 have hmax:=maxLen_eq
 have h122:=c122 l.flatten.length hl
 have e0:List.replicate l.flatten.length zV=(wz [] l.flatten.length).map VL.av:=by simp only [wz,List.nil_append,List.map_replicate];rfl
 rw [e0] at h122
 obtain ⟨T,hT⟩:∃ T,T=l.flatten.length:=⟨_,rfl⟩
 rw [← hT] at h122 hl
 refine ok101.acalls hE hm (by simp) fun N hN=>?_
 unfold mc101 pY pI pM pG pB pQ pL pA
 simp only [lA,seval]
 repeat' (first|(with_reducible first|(apply St.o;constructor)<;>intro _|refine And.intro (by omega) ?_|(apply Sq.o;constructor))|simp (disch:=omega) only [lE,seval,List.length_map])
 refine loop_i (fun i:Nat=>i≤l.length) (fun i=>⟨[(0,rwsV l),(3,.int .i64 ((l.take i).flatten.length:Int)),(9,rwsV l),(10,.int .i64 l.length),(11,.int .i64 i)],[]⟩) (fun i=>l.length - i) 0 (by omega) (ent [] false) ?_
 intro i hi
 by_cases hin:i<l.length
 · have hlt:((i:Int)<(l.length:Int)):=by omega
   have hf:=flat_len_take hin
   have hle:=flat_le_take (l:=l) (i+1)
   rw [hf,List.length_append] at hle
   have hw:IntKind.i64.wrap (((l.take i).flatten.length:Int)+((l.getD i default).length:Int))=(((l.take i).flatten.length+(l.getD i default).length:Nat):Int):=by
    rw [wrap_i64 (by omega) (by omega)];omega
   have hf2:(l.take (i+1)).flatten.length=(l.take i).flatten.length+(l.getD i default).length:=by rw [hf,List.length_append]
   generalize hx:l.getD i default=x at *
   generalize (l.take i).flatten.length=n at *
   have hnn:¬ (((n+x.length:Nat):Int)<0):=by omega
   repeat' (first|(with_reducible first|(apply St.o;constructor)<;>intro _|refine And.intro (by omega) ?_|(apply Sq.o;constructor))|simp (disch:=omega) only [lE,seval,IdxR_rows,hx,hw,hnn,Int.toNat_natCast,List.length_map,hlt,decide_true,decide_false])
   refine back_i (i+1) (show i+1≤l.length by omega) (by omega) ?_
   simp only [hf2]
   exact (ent [] false)
 · obtain rfl:i=l.length:=by omega
   rw [List.take_length]
   repeat' (first|(with_reducible first|(apply St.o;constructor)<;>intro _|refine And.intro (by omega) ?_|(apply Sq.o;constructor))|simp (disch:=omega) only [lE,seval,List.length_map,Int.lt_irrefl,decide_false,← hT])
   refine callN_i [] false (by simp) (by simp) ?_
   simp only [lP,seval]
   refine ⟨_,h122,?_⟩
   rintro _ _ ⟨rfl,rfl⟩
   simp only [lA,lP,seval,renL_vls]
   repeat' (first|(with_reducible first|(apply St.o;constructor)<;>intro _|refine And.intro (by omega) ?_|(apply Sq.o;constructor))|simp (disch:=omega) only [lE,seval,List.length_map])
   refine loop_i (fun i:Nat=>i≤l.length) (fun i=>⟨[(6,.sub 0 3 0 (l.take i).flatten.length),(25,rwsV l),(26,.int .i64 l.length),(27,.int .i64 i)],[.arr 25 3 ((wz (l.take i).flatten (T - (l.take i).flatten.length)).map VL.av)]⟩) (fun i=>l.length - i) 0 (by omega) ?_ ?_
   · exact (ent [0] false (by simp only [lP,seval,List.take_zero,List.flatten_nil,List.length_nil,Nat.sub_zero,pa_vls]<;>(try simp)<;>(try omega)) (by simp only [lP,seval,List.take_zero,List.flatten_nil,List.length_nil,Nat.sub_zero,pa_vls]<;>(try simp)<;>(try omega)))
   intro i hi
   by_cases hin:i<l.length
   · have hlt:((i:Int)<(l.length:Int)):=by omega
     have hf:=flat_len_take hin
     have hle:=flat_le_take (l:=l) (i+1)
     rw [hf,List.length_append] at hle
     rw [← hT] at hle
     have hst:=setAt_wz (D:=(l.take i).flatten) (r:=l.getD i default) (m:=T - (l.take i).flatten.length) rfl (by omega)
     have hlw:((wz (l.take i).flatten (T - (l.take i).flatten.length)).map VL.av).length=T:=by simp only [wz,List.length_map,List.length_append,List.length_replicate];omega
     generalize hx:l.getD i default=x at *
     generalize (l.take i).flatten=D at *
     repeat' (first|(with_reducible apply St.o;constructor) <;> intro _|((with_reducible refine ap_in ?_ ?_);(focus (first|omega|(simp;omega))))|(with_reducible first|refine And.intro (by omega) ?_|(apply Sq.o;constructor))|simp (disch:=omega) only [lE,seval,IdxR_rows,hx,Int.toNat_natCast,List.length_map,hlt,decide_true,hlw])
     refine back_i (i+1) (show i+1≤l.length by omega) (by omega) ?_
     simp only [hf,List.length_append]
     have hst2:List.take D.length ((wz D (T - D.length)).map VL.av)++x.map VL.av++List.drop (D.length+(x.map VL.av).length) ((wz D (T - D.length)).map VL.av)=(wz (D++x) (T - D.length - x.length)).map VL.av:=hst
     rw [List.length_map] at hst2
     rw [hst2,Nat.sub_sub]
     exact (ent [0] false (by simp only [lP,seval,pa_vls]<;>(try simp)<;>(try omega)) (by simp only [lP,seval,pa_vls]<;>(try simp)<;>(try omega)))
   · obtain rfl:i=l.length:=by omega
     rw [List.take_length,← hT,Nat.sub_self]
     repeat' (first|(with_reducible first|(apply St.o;constructor)<;>intro _|refine And.intro (by omega) ?_|(apply Sq.o;constructor))|simp (disch:=omega) only [lE,seval,List.length_map,Int.lt_irrefl,decide_false])
     have hv:=fun H l' n=>vwU_vls (H:=H) (l:=l') (n:=n) (E':=25) (a:=wz l.flatten 0) (q:=T) (by simp only [wz,List.length_append,List.length_replicate];omega)
     have hw0:(wz l.flatten 0).take T=l.flatten:=by rw [hT,wz,List.take_append_of_le_length (Nat.le_refl _),List.take_length]
     refine keep_i [] true (by simp) (by simp) rfl ⟨?_,by simp only [lP,seval]⟩
     simp only [lP,seval,hv,hw0]
set_option maxRecDepth 100000
abbrev q66_0:MI:=oY 4
def mc66:MC:=(.seq (.ops [pK 2 0,pK 3 1,(none,q66_0),pI 5 0]) (.seq (.ops [pF 23 2 3,pL 24 23,pR 25 1 2,(none,.v (.fn 26 (.func 66) [.t 25] [])),pW 27 96 24 26,pM 22 27,pX 28 0 22,pX 29 1 22,(none,.e (.alloc 6 [.raw (.slice none 0 0),.raw (.slice none 0 0)])),pS 2 6 28,pM 7 29]) (.seq (.seq (.ops [pM 30 7,pD 31 30 0]) (.cond 31 (.seq (.ops [pM 32 7,(none,q66_0),pM 5 32]) .ret) .skip)) (.seq (.ops [pY 8]) (.seq (.seq (.ops [(none,.p (.aidx 33 2 1 (.t 6) (.c (.int .i64 0)))),pL 34 33,pM 9 34]) (.seq (.ops [pF 35 0 3,pL 36 35]) (.block 0 (.seq (.ops [pE 38 36 1,pM 37 38]) (.cond 37 (.seq (.ops [pF 39 0 2,pL 40 39,(none,.v (.fn 41 (.func 98) [] [.t 3])),pW 42 97 40 41,pM 10 42]) (.ops [pF 43 0 2,pL 44 43,pM 45 10,pQ 46 5 44 45,pF 47 4 46,pL 48 47,pV 49 99 48,pM 8 49])) (.seq (.ops [pE 51 36 2,pM 50 51]) (.cond 50 (.any false (.pure0 none (oF 53 3 3) (.pure0 none (oR 54 6 53) (.pure0 none (oM 55 9) (.alt none (oV 56 99 55) (.base (.alt none (oW 57 100 54 56) (.base (.pure0 none (oM 52 57) (.pure0 none (oX 58 0 52) (.pure0 none (oX 59 1 52) (.pure0 none (oM 8 58) (.pure0 none (oM 7 59) .done)))))) .stop)) .stop))))) (.seq (.ops [pE 61 36 4,pM 60 61]) (.cond 60 (.seq (.ops [pM 62 9,pG 63 62,pI 64 0]) (.block 1 (.loop (.seq (.ops [pB 65 64 63]) (.seq (.cond 65 .skip (.exit 1)) (.seq (.block 2 (.seq (.ops [pQ 66 1 62 64,pL 67 66,pM 12 67]) (.seq (.ops [pY 13]) (.seq (.seq (.ops [(none,.p (.aidx 68 2 1 (.t 6) (.c (.int .i64 1)))),pL 69 68,pG 70 69,pI 71 0]) (.block 3 (.loop (.seq (.ops [pB 72 71 70]) (.seq (.cond 72 .skip (.exit 3)) (.seq (.block 4 (.seq (.ops [pQ 73 1 69 71,pL 74 73,pM 15 74]) (.ops [pM 75 13,pM 76 12,pM 77 15,(none,.e (.mkl 78 69 1 2 (.raw (.slice none 0 0)) [(0,.t 76),(1,.t 77)])),pV 79 101 78,(none,.e (.mkl 80 69 1 1 (.raw (.slice none 0 0)) [(0,.t 79)])),(none,.e (.app 81 69 1 24 (.t 75) (.t 80))),pM 13 81]))) (.ops [pA 82 71 1,pM 71 82]))))))) (.seq (.seq (.ops [pF 84 3 3,pR 85 6 84,pM 86 13,pW 87 100 85 86,pM 83 87,pX 88 0 83,pX 89 1 83,pM 13 88,pM 7 89]) (.seq (.ops [pM 90 7,pD 91 90 0]) (.cond 91 (.seq (.ops [pM 92 7,(none,q66_0),pM 5 92]) .ret) .skip))) (.ops [pM 93 8,pM 94 13,(none,.e (.app 95 69 1 24 (.t 93) (.t 94))),pM 8 95])))))) (.ops [pA 96 64 1,pM 64 96]))))))) (.seq (.ops [pE 98 36 3,pM 97 98]) (.cond 97 (.seq (.ops [pM 99 9,pG 100 99,pI 101 0]) (.block 5 (.loop (.seq (.ops [pB 102 101 100]) (.seq (.cond 102 .skip (.exit 5)) (.seq (.block 6 (.seq (.ops [pQ 103 1 99 101,pL 104 103,pM 17 104]) (.seq (.ops [pF 106 9 3,pL 107 106,pM 108 17,pW 109 102 107 108,pM 105 109,pX 110 0 105,pX 111 1 105,pM 18 110,pM 19 111]) (.seq (.seq (.ops [pM 112 19,pD 113 112 0]) (.cond 113 (.seq (.ops [pM 114 19,(none,q66_0),pM 5 114]) .ret) .skip)) (.ops [pM 115 8,pM 116 18,(none,.e (.mkl 117 69 1 1 (.raw (.slice none 0 0)) [(0,.t 116)])),(none,.e (.app 118 69 1 24 (.t 115) (.t 117))),pM 8 118]))))) (.ops [pA 119 101 1,pM 101 119]))))))) (.seq (.ops [pE 121 36 5,pM 120 121]) (.cond 120 (.ops [pR 123 14 3,pM 124 9,pW 125 103 123 124,pM 122 125,pX 126 0 122,pX 127 1 122,pM 8 126,pM 7 127]) (.seq (.ops [pE 129 36 6,pM 128 129]) (.cond 128 (.seq (.ops [pM 130 9,pV 131 99 130,pM 8 131]) (.ops [pM 132 8,pF 133 12 3,pL 134 133,pV 135 105 134,pW 136 104 132 135])) (.seq (.ops [pE 138 36 7,pM 137 138]) (.cond 137 (.ops [pM 139 9,pF 140 13 3,pL 141 140,pM 142 9,pG 143 142,(none,.v (.min 144 [.t 141,.t 143])),(none,.p (.pre 145 1 (.t 139) (some (.t 144)))),pM 8 145]) (.seq (.ops [pE 147 36 8,pM 146 147]) (.cond 146 (.seq (.ops [pM 148 9,pG 149 148,pI 150 0]) (.block 7 (.loop (.seq (.ops [pB 151 150 149]) (.seq (.cond 151 .skip (.exit 7)) (.seq (.block 8 (.seq (.ops [pQ 152 1 148 150,pL 153 152,(none,.e (.alloc 21 [.raw (.slice none 0 0)])),(none,.e (.store 1 false (.t 21) (.t 153)))]) (.seq (.ops [pM 154 8,(none,.v (.fn 155 (.func 107) [] [.t 21])),pW 156 106 154 155,pN 157 156]) (.cond 157 (.ops [pM 158 8,pL 159 21,(none,.e (.mkl 160 69 1 1 (.raw (.slice none 0 0)) [(0,.t 159)])),(none,.e (.app 161 69 1 24 (.t 158) (.t 160))),pM 8 161]) .skip)))) (.ops [pA 162 150 1,pM 150 162]))))))) .skip))))))))))))))))))) (.seq (.seq (.ops [pM 163 7,pE 164 163 0,pM 165 164,gT 165 (oM 166 8),gT 165 (oG 167 166),(some (165,true),.v (.bin 168 .gtr false (.t 167) (.c (.int .i64 4000)))),pP 169 165 168]) (.cond 169 (.ops [pI 7 2]) .skip)) (.seq (.seq (.ops [pM 170 7,pD 171 170 0]) (.cond 171 (.seq (.ops [pM 172 7,(none,q66_0),pM 5 172]) .ret) .skip)) (.seq (.ops [pM 173 8,pM 4 173,pI 5 0]) .ret))))))))
theorem ok66:FnOk E 66 174 [.tmp 4,.tmp 5] mc66:=ofk func66
set_option maxRecDepth 20000
set_option maxHeartbeats 32000000
theorem keep_rv {H:List AObj} {l:Rws} {k:Int} {Q:Rws × Int} (h:Q=(l,k)):keepQ 0 (fun r H=>r=.tup [rwsV Q.1,.int .i64 Q.2]∧H=[]) (.tup [rwsV l,.int .i64 k]) H:=by
 subst h
 refine keep_i [] true (by simp) (by simp) rfl ?_
 simp only [lP,seval]
theorem keep_ro {id n:Nat} {H:List AObj} {l:Rws} {Q:Rws × Int} (hH:H[id]?=some (.arr 69 1 (l.map rowV))) (hn:n=l.length) (h:Q=(l,0)):keepQ 0 (fun r H=>r=.tup [rwsV Q.1,.int .i64 Q.2]∧H=[]) (.tup [.slc id 1 n,.int .i64 0]) H:=by
 subst h hn
 refine keep_i [] true (by simp) (by simp) rfl ?_
 have e:l.length=(l.map rowV).length:=by simp
 rw [e]
 simp only [lP,seval,hH,vw_rows,List.take_length]
theorem keep_rs {id n:Nat} {H:List AObj} {xs l:Rws} {Q:Rws × Int} (hH:H[id]?=some (.arr 69 1 (xs.map rowV))) (hx:xs.take n=l) (hn:n≤xs.length) (h:Q=(l,0)):keepQ 0 (fun r H=>r=.tup [rwsV Q.1,.int .i64 Q.2]∧H=[]) (.tup [.sub id 1 0 n,.int .i64 0]) H:=by
 subst h hx
 refine keep_i [] true (by simp) (by simp) rfl ?_
 have hv:=fun H l' n'=>vwU_rows (H:=H) (l:=l') (n:=n') (E':=69) (a:=xs) (q:=n) hn
 simp only [lP,seval,hH,hv]
theorem lim_err {r:Rws × Int} {e:Int} (h:r.2=e) (he:e≠0):lim r=([],e):=by
 unfold lim;rw [if_neg (by rw [h];exact he),h]
theorem lim_big {r:Rws × Int} {l:Rws} (h:r=(l,0)) (hl:4000<l.length):lim r=([],2):=by
 subst h;unfold lim;rw [if_pos rfl,if_pos hl]
theorem lim_fit {r:Rws × Int} {l:Rws} (h:r=(l,0)) (hl:¬ 4000<l.length):lim r=(l,0):=by
 subst h;unfold lim;rw [if_pos rfl,if_neg hl]
theorem spine66:∀ fn,E.P.funcs[66]?=some fn→fn.body.map (Go.Al.spine 7)=some true:=fun fn h=>by
 have e:=func66.symm.trans h
 injection e with e
 subst e
 rfl
theorem aggK_chk {ks:List Int} {a:AG} (h:(aggK ks a).2=0) (h1:a.fn≠1):(chk ks a.arg).2=0:=by
 unfold aggK at h
 rw [if_neg h1] at h
 split at h
 · split at h
   · rename_i h3;exact h3.1
   · exact h
 · simp at h
theorem addD_any (l:Rws) (r:List VL):(l.any fun x=>eqC x r)=decide (r ∈ l):=by
 rw [Bool.eq_iff_iff]
 simp only [List.any_eq_true,eqC_iff,decide_eq_true_eq]
 exact ⟨fun ⟨x,hx,e⟩=>e ▸ hx,fun h=>⟨r,h,rfl⟩⟩
theorem flat1 {α:Type} [Inhabited α] {f:α→List Int} {l:List α} (h:l.length=1):(l.map f).flatten=f (l.getD 0 default):=by
 rcases l with _ | ⟨x,_ | ⟨y,l⟩⟩
 · simp at h
 · simp
 · simp at h
theorem addD_len:∀ (l D:Rws),(l.foldl addD D).length≤D.length+l.length
 | [],D=>by simp
 | x::l,D=>by
   have:=addD_len l (addD D x)
   have h:(addD D x).length≤D.length+1:=by unfold addD;split <;> simp
   rw [List.foldl_cons,List.length_cons];omega
theorem flat2 {α:Type} [Inhabited α] {f:α→List Int} {l:List α} (h:l.length=2):(l.map f).flatten=f (l.getD 0 default)++f (l.getD 1 default):=by
 rcases l with _ | ⟨x,_ | ⟨y,_ | ⟨z,l⟩⟩⟩
 · simp at h
 · simp at h
 · simp
 · simp at h
theorem flat_leG {α:Type} {n:Nat}:∀ {l:List (List α)},(∀ x ∈ l,x.length≤n)→l.flatten.length≤l.length * n
 | [],_=>by simp
 | x::l,h=>by
   have h1:=h x (by simp)
   have h2:=flat_leG (l:=l) (n:=n) fun y hy=>h y (by simp [hy])
   simp only [List.flatten_cons,List.length_append,List.length_cons,Nat.succ_mul]
   omega
theorem holdE_len (e:EX) (l:Rws):(holdE e l).1.length≤l.length:=by
 unfold holdE
 split
 · exact List.length_filter_le _ _
 · simp
theorem c66n (db:List DA) (hdb:∀ d ∈ db,d.right) (hrw:∀ d ∈ db,d.rows.length≤4000) (hcw:∀ d ∈ db,d.t.cols.length≤1000000) (q:QY) (hf:q.formed=true) (hs:(q.sch (db.map DA.t)).2=0)
 (ih:∀ i,i<q.subs.length→ACalls E.P 66 [engV db,(q.subs.getD i default).av] [] (fun r H=>r=.tup [rwsV ((q.subs.getD i default).run db).1,.int .i64 ((q.subs.getD i default).run db).2]∧H=[])) :
 ACalls E.P 66 [engV db,q.av] [] (fun r H=>r=.tup [rwsV (q.run db).1,.int .i64 (q.run db).2]∧H=[]):=by
 have hmax:=maxLen_eq
 obtain ⟨hn,hfs⟩:=formed_node hf
 obtain ⟨hk1,hk8,hb,hl,_⟩:=node_iff.1 hn
 obtain ⟨s1,s2⟩:=sch_parts hs
 rw [s2] at hs
 have hsl:q.subs.length≤2:=by rw [hl];unfold subsN;split;omega;split <;> omega
 have h96:=c96 db q.subs hsl ih
 have hrun:=run_eq db q
 have hkin:∀ s ∈ q.subs,∀ r ∈ (s.run db).1,okRow (s.sch (db.map DA.t)).1 r:=fun s hm=>run_kinds hdb s (hfs s hm) (s1 s hm)
 have hln:∀ i,((mapE (QY.run db) q.subs).1.getD i []).length≤4000:=fun i=>by
  rcases mapE_cases (f:=QY.run db) q.subs with ⟨_,h4⟩ | ⟨h3,_⟩
  · rw [mapE_ok h4]
    by_cases hi:i<q.subs.length
    · rw [getD_map2 hi];exact run_len db _
    · simp [List.getD_eq_getElem?_getD,List.getElem?_eq_none (by simpa using hi)]
  · rw [h3];simp
 have hro:(mapE (QY.run db) q.subs).2=0→∀ i,i<q.subs.length→∀ r ∈ (mapE (QY.run db) q.subs).1.getD i [],okRow ((q.subs.getD i default).sch (db.map DA.t)).1 r:=fun h0 i hi r hr=>by
  rcases mapE_cases (f:=QY.run db) q.subs with ⟨_,h4⟩ | ⟨_,h3⟩
  · rw [mapE_ok h4,getD_map2 hi] at hr
    exact hkin _ (sub_mem hi) r hr
  · exact absurd h0 h3
 generalize hM:mapE (QY.run db) q.subs=M at *
 refine ok66.acallsF hE hm (by simp) 7 spine66 fun N hN=>?_
 unfold mc66 q66_0 pK pI pF pL pR pW pM pX pS pD pY pE pQ pV pG pB pA pN pP gT oM oR oF oY oX oG oV oW
 refine mf_i ?_
 simp only [lA,seval,q_av]
 repeat' (first|(with_reducible first|(apply St.o;constructor)<;>intro _|refine And.intro (by omega) ?_|(apply Sq.o;constructor))|simp (disch:=omega) only [lE,seval])
 refine mf_go (mf_i ?_)
 repeat' (first|(with_reducible first|(apply St.o;constructor)<;>intro _|refine And.intro (by omega) ?_|(apply Sq.o;constructor))|((with_reducible apply Sc.o false;constructor);simp only [lP,seval];refine ⟨_,h96,?_⟩;rintro _ _ ⟨a,b,rfl,hab,rfl⟩;simp only [lA,lP,seval])|simp (disch:=omega) only [lE,seval])
 obtain ⟨M1,M2⟩:=M
 simp only at *
 refine mf_go (mf_i ?_)
 repeat' (first|(with_reducible first|(apply St.o;constructor)<;>intro _|refine And.intro (by omega) ?_|(apply Sq.o;constructor))|simp (disch:=omega) only [lE,seval])
 · rename_i h
   simp only [mfQ,lA,seval]
   rw [hrun]
   exact keep_re (by rw [if_pos h])
 rename_i h0
 subst h0
 rw [if_neg (by simp)] at hrun
 obtain ⟨ha,hb2⟩:=hab rfl
 have hla:=hln 0
 have hlb:=hln 1
 have hra:=hro rfl 0
 have hrb:=hro rfl 1
 rw [← ha] at hla hra
 rw [← hb2] at hlb hrb
 rw [hrun]
 clear hrun hab hln hro hkin h96 ih
 refine mf_to (fr':=[(2,.op 0 0),(3,.op 1 0),(6,.op 2 0),(7,.int .i64 0)]) (H':=[.box [.view 5 (db.map DA.av)],.box q.cs,.box [rwsV a,rwsV b]]) (ent [0,1,2] false) (mf_i ?_)
 repeat' (first|(with_reducible first|(apply St.o;constructor)<;>intro _|refine And.intro (by omega) ?_|(apply Sq.o;constructor))|simp (disch:=omega) only [lE,seval])
 refine mf_go (mf_i ?_)
 have hk':q.kind=1∨q.kind=2∨q.kind=3∨q.kind=4∨q.kind=5∨q.kind=6∨q.kind=7∨q.kind=8:=by omega
 unfold nodeR
 rw [← ha,← hb2]
 rcases hk' with hk | hk | hk | hk | hk | hk | hk | hk
 · -- scan
   have hj0:0≤fidx (namedD q.tab) db:=by
    have hfe:fidx (named q.tab) (db.map DA.t)=fidx (namedD q.tab) db:=fidx_map _ _ _
    unfold nodeK scanK at hs
    rw [if_pos hk,hfe] at hs
    split at hs
    · simp at hs
    · omega
   have hj1:fidx (namedD q.tab) db<db.length:=fidx_lt hj0
   rw [if_pos hk]
   have h97:ACalls E.P 97 [.view 5 (db.map DA.av),.fn (.func 98) [] [.vp q.cs]] [] (fun r H=>r=.int .i64 (fidx (namedD q.tab) db)∧H=[]):=c97 db 98 [q.cs] (namedD q.tab) fun d _=>c98 q d
   simp only [QY.cs,hk] at h97
   generalize fidx (namedD q.tab) db=j at *
   have hmem:db.getD j.toNat default ∈ db:=by simp [show j.toNat<db.length by omega]
   have hrl:=hrw _ hmem
   have h99:=c99 (db.getD j.toNat default).rows (by omega)
   generalize hx:db.getD j.toNat default=d at *
   repeat' (first|(with_reducible first|(apply St.o;constructor)<;>intro _|refine And.intro (by omega) ?_|(apply Sq.o;constructor))|((with_reducible apply Sc.o true;constructor);simp only [lP,seval,cellsO_fn,IdxR_das,hx,hk,List.length_map,Int.lt_irrefl,Int.reduceEq,decide_false,decide_true];refine ⟨_,h97,?_⟩;rintro _ _ ⟨rfl,rfl⟩;simp only [lA,lP,seval,cellsO_fn,IdxR_das,hx,hk,List.length_map,Int.lt_irrefl,Int.reduceEq,decide_false,decide_true])|((with_reducible apply Sc.o false;constructor);simp only [lP,seval,cellsO_fn,IdxR_das,hx,hk,List.length_map,Int.lt_irrefl,Int.reduceEq,decide_false,decide_true];refine ⟨_,h99,?_⟩;rintro _ _ ⟨rfl,rfl⟩;simp only [lA,lP,seval,cellsO_fn,IdxR_das,hx,hk,List.length_map,Int.lt_irrefl,Int.reduceEq,decide_false,decide_true])|simp (disch:=omega) only [lE,seval,cellsO_fn,IdxR_das,hx,hk,List.length_map,Int.lt_irrefl,Int.reduceEq,decide_false,decide_true])
   refine mf_to (fr':=[(7,.int .i64 0),(8,.slc 0 1 d.rows.length)]) (H':=[.arr 69 1 (d.rows.map rowV)]) (ent [3] false (by simp only [lP,seval,renL_rows,pa_rows]<;>(try simp)<;>(try omega)) (by simp only [lP,seval,renL_rows,pa_rows]<;>(try simp)<;>(try omega))) (mf_i ?_)
   repeat' (first|(with_reducible first|(apply St.o;constructor)<;>intro _|refine And.intro (by omega) ?_|(apply Sq.o;constructor))|simp (disch:=omega) only [lE,seval,List.length_map])
   · exfalso;omega
   · rename_i hb4
     refine mf_go (mf_i ?_)
     repeat' (first|(with_reducible first|(apply St.o;constructor)<;>intro _|refine And.intro (by omega) ?_|(apply Sq.o;constructor))|simp (disch:=omega) only [lE,seval])
     refine mf_go (mf_last ?_)
     repeat' (first|(with_reducible first|(apply St.o;constructor)<;>intro _|refine And.intro (by omega) ?_|(apply Sq.o;constructor))|simp (disch:=omega) only [lE,seval])
     exact keep_ro rfl rfl (lim_fit rfl (by omega))
 · -- filter
   have n1:¬ q.kind=1:=by omega
   rw [if_neg n1,if_pos hk]
   have hl1:q.subs.length=1:=by rw [hl,subsN,if_neg n1,if_neg (by omega)]
   have hfl:=flat1 (f:=fun s=>(QY.sch (db.map DA.t) s).1) hl1
   rw [hfl] at hs
   unfold nodeK at hs
   rw [if_neg n1,if_pos hk] at hs
   have hra:=hra (by omega)
   generalize ((q.subs.getD 0 default).sch (db.map DA.t)).1=ks at *
   have hck:(chk ks q.cond).2=0:=by
    split at hs
    · rename_i h;exact absurd hs h
    · rename_i h;exact truthE_ok (by simpa using h)
   have h99:=c99 a (by omega)
   have h100:=c100 q.cond a (fitE_of hck) (fun r hr=>rtR_of (hra r hr)) a.length rfl (by omega)
   simp only [av_fs] at h100
   repeat' (first|(with_reducible apply St.o;constructor) <;> intro _|(with_reducible first|refine And.intro (by omega) ?_|(apply Sp.o;constructor)|refine mkl_own ?_|refine ap_own ?_|refine any00_i ?_|refine frz0_i ?_)|((with_reducible apply Sc.o false;constructor);simp only [lP,seval,cellsO_fn,hk,List.length_map,Int.lt_irrefl,Int.reduceEq,decide_false,decide_true];refine ⟨_,h99,?_⟩;rintro _ _ ⟨rfl,rfl⟩;simp only [lA,lP,seval,cellsO_fn,hk,List.length_map,Int.lt_irrefl,Int.reduceEq,decide_false,decide_true])|simp (disch:=omega) only [lE,seval,cellsO_fn,hk,List.length_map,Int.lt_irrefl,Int.reduceEq,decide_false,decide_true])
   refine base_i [3] (by simp) ?_
   repeat' (first|(with_reducible apply St.o;constructor) <;> intro _|(with_reducible first|refine And.intro (by omega) ?_|(apply Sp.o;constructor)|refine mkl_own ?_|refine ap_own ?_|refine any00_i ?_|refine frz0_i ?_)|simp (disch:=omega) only [lE,seval])
   refine acallI_i [3] false (by simp) (by simp) (by simp) ?_
   simp only [lP,seval,renL_rows,pa_rows]
   refine ⟨_,h100,?_⟩
   rintro _ _ ⟨xs,hx,rfl,⟨he,rfl⟩ | ⟨he,htk,hle,rfl⟩⟩
   · simp only [lA,lP,seval,renL_rows]
     repeat' (first|(with_reducible first|(apply St.o;constructor)<;>intro _|refine And.intro (by omega) ?_|(apply Sq.o;constructor))|simp (disch:=omega) only [lE,seval])
     refine mf_to (fr':=[(7,.int .i64 (holdE q.cond a).2),(8,.raw (.slice none 0 0))]) (H':=[]) (ent [] false) (mf_i ?_)
     repeat' (first|(with_reducible first|(apply St.o;constructor)<;>intro _|refine And.intro (by omega) ?_|(apply Sq.o;constructor))|simp (disch:=omega) only [lE,seval,he])
     refine mf_go (mf_i ?_)
     repeat' (first|(with_reducible first|(apply St.o;constructor)<;>intro _|refine And.intro (by omega) ?_|(apply Sq.o;constructor))|simp (disch:=omega) only [lE,seval,he])
     try simp only [mfQ,lA,seval]
     exact keep_re (lim_err rfl he)
   · simp only [lA,lP,seval,renL_rows]
     repeat' (first|(with_reducible first|(apply St.o;constructor)<;>intro _|refine And.intro (by omega) ?_|(apply Sq.o;constructor))|simp (disch:=omega) only [lE,seval])
     have hQ:holdE q.cond a=((holdE q.cond a).1,0):=by rw [← he]
     generalize (holdE q.cond a).1=l at *
     rw [hQ]
     refine mf_to (fr':=[(7,.int .i64 0),(8,.sub 0 1 0 l.length)]) (H':=[.arr 69 1 (xs.map rowV)]) (ent [3] false (by simp only [lP,seval,renL_rows,pa_rows]<;>(try simp)<;>(try omega)) (by simp only [lP,seval,renL_rows,pa_rows]<;>(try simp)<;>(try omega))) (mf_i ?_)
     repeat' (first|(with_reducible first|(apply St.o;constructor)<;>intro _|refine And.intro (by omega) ?_|(apply Sq.o;constructor))|simp (disch:=omega) only [lE,seval,List.length_map])
     · exfalso;omega
     · rename_i hb4
       refine mf_go (mf_i ?_)
       repeat' (first|(with_reducible first|(apply St.o;constructor)<;>intro _|refine And.intro (by omega) ?_|(apply Sq.o;constructor))|simp (disch:=omega) only [lE,seval])
       refine mf_go (mf_last ?_)
       repeat' (first|(with_reducible first|(apply St.o;constructor)<;>intro _|refine And.intro (by omega) ?_|(apply Sq.o;constructor))|simp (disch:=omega) only [lE,seval])
       exact keep_rs rfl htk hle (lim_fit rfl (by omega))
 · -- project
   have n1:¬ q.kind=1:=by omega
   have n2:¬ q.kind=2:=by omega
   have n4:¬ q.kind=4:=by omega
   rw [if_neg n1,if_neg n2,if_neg n4,if_pos hk]
   have hl1:q.subs.length=1:=by rw [hl,subsN,if_neg n1,if_neg n4]
   have hfl:=flat1 (f:=fun s=>(QY.sch (db.map DA.t) s).1) hl1
   rw [hfl] at hs
   unfold nodeK at hs
   rw [if_neg n1,if_neg n2,if_neg n4,if_pos hk] at hs
   have hra:=hra (by omega)
   generalize ((q.subs.getD 0 default).sch (db.map DA.t)).1=ks at *
   obtain ⟨hc32,hck⟩:q.cols.length≤32∧∀ e ∈ q.cols,(chk ks e).2=0:=by
    unfold projK at hs
    split at hs
    · simp at hs
    split at hs
    · simp at hs
    rename_i h1 h2
    refine ⟨by omega,?_⟩
    rcases mapE_cases (f:=chk ks) q.cols with h3 | h3
    · exact h3.2
    · exact absurd hs h3.2
   repeat' (first|(with_reducible first|(apply St.o;constructor)<;>intro _|refine And.intro (by omega) ?_|(apply Sq.o;constructor))|simp (disch:=omega) only [lE,seval,cellsO_fn,hk,List.length_map,Int.lt_irrefl,Int.reduceEq,decide_false,decide_true])
   refine loop_i (fun i:Nat=>i≤a.length∧∀ x ∈ a.take i,(valuesE q.cols x).2=0) (fun i=>⟨[(3,.op 0 0),(7,.int .i64 0),(8,.slc 1 1 i),(99,rwsV a),(100,.int .i64 a.length),(101,.int .i64 i)],[.box q.cs,.arr 69 1 (((a.take i).map fun r=>(valuesE q.cols r).1).map rowV)]⟩) (fun i=>a.length - i) 0 ⟨by omega,by simp⟩ (Ent.ghost' 8 69 1 (by omega) rfl (ent [1,3] false)) ?_
   rintro i ⟨hi,hn⟩
   have hlen:(a.take i).length=i:=by rw [List.length_take];omega
   by_cases hin:i<a.length
   · have hlt:((i:Int)<(a.length:Int)):=by omega
     have h102:=c102 q.cols (a.getD i default) (fun e he=>fitE_of (hck e he)) (rtR_of (hra (a.getD i default) (by simp [hin]))) (by omega)
     have he:=mapE_err (f:=valuesE q.cols) hin hn
     have hst:=all_step (p:=fun x=>decide ((valuesE q.cols x).2≠0)) hin (fun x hx=>by simp [hn x hx])
     have ht:((a.take (i+1)).map fun r=>(valuesE q.cols r).1).map rowV=((a.take i).map fun r=>(valuesE q.cols r).1).map rowV++[rowV (valuesE q.cols (a.getD i default)).1]:=by
      rw [List.map_map,List.map_map];exact take_map1 (f:=rowV ∘ fun r=>(valuesE q.cols r).1) hin
     generalize hx:a.getD i default=x at *
     generalize valuesE q.cols x=v at *
     repeat' (first|(with_reducible first|(apply St.o;constructor)<;>intro _|refine And.intro (by omega) ?_|(apply Sq.o;constructor))|((with_reducible apply Sc.o false;constructor);simp only [lP,seval,IdxR_rows,hx,Int.toNat_natCast,List.length_map,hlt,decide_true,hlen];refine ⟨_,h102,?_⟩;rintro _ _ ⟨rfl,rfl⟩;simp only [lA,lP,seval,IdxR_rows,hx,Int.toNat_natCast,List.length_map,hlt,decide_true,hlen])|simp (disch:=omega) only [lE,seval,IdxR_rows,hx,Int.toNat_natCast,List.length_map,hlt,decide_true,hlen])
     · rename_i h
       have he:=he h
       try simp only [mfQ,lA,seval]
       exact keep_re (lim_err (by rw [he]) h)
     · rename_i h
       refine back_i (i+1) ⟨by omega,fun y hy=>by simpa using hst (by simpa using h) y hy⟩ (by omega) ?_
       rw [ht]
       exact (ent [0,3] false (by simp only [lP,seval,hlen,pa_rows,List.map_append,List.map_cons,List.map_nil]<;>(try simp)<;>(try omega)) (by simp only [lP,seval,hlen,pa_rows,List.map_append,List.map_cons,List.map_nil]<;>(try simp)<;>(try omega)))
   · obtain rfl:i=a.length:=by omega
     rw [List.take_length] at hn ⊢
     rw [mapE_ok hn]
     repeat' (first|(with_reducible first|(apply St.o;constructor)<;>intro _|refine And.intro (by omega) ?_|(apply Sq.o;constructor))|simp (disch:=omega) only [lE,seval,List.length_map,Int.lt_irrefl,decide_false])
     refine mf_to (fr':=[(7,.int .i64 0),(8,.slc 0 1 a.length)]) (H':=[.arr 69 1 ((a.map fun r=>(valuesE q.cols r).1).map rowV)]) (ent [1] false (by simp only [lP,seval,pa_rows]<;>(try simp)<;>(try omega)) (by simp only [lP,seval,pa_rows]<;>(try simp)<;>(try omega))) (mf_i ?_)
     repeat' (first|(with_reducible first|(apply St.o;constructor)<;>intro _|refine And.intro (by omega) ?_|(apply Sq.o;constructor))|simp (disch:=omega) only [lE,seval,List.length_map])
     · exfalso;omega
     · rename_i hb4
       refine mf_go (mf_i ?_)
       repeat' (first|(with_reducible first|(apply St.o;constructor)<;>intro _|refine And.intro (by omega) ?_|(apply Sq.o;constructor))|simp (disch:=omega) only [lE,seval])
       refine mf_go (mf_last ?_)
       repeat' (first|(with_reducible first|(apply St.o;constructor)<;>intro _|refine And.intro (by omega) ?_|(apply Sq.o;constructor))|simp (disch:=omega) only [lE,seval])
       exact keep_ro rfl (by simp) (lim_fit rfl (by simp;omega))
 · -- join
   have n1:¬ q.kind=1:=by omega
   have n2:¬ q.kind=2:=by omega
   rw [if_neg n1,if_neg n2,if_pos hk]
   have hl2:q.subs.length=2:=by rw [hl,hk];rfl
   have hfl:=flat2 (f:=fun s=>(QY.sch (db.map DA.t) s).1) hl2
   rw [hfl] at hs
   unfold nodeK at hs
   rw [if_neg n1,if_neg n2,if_pos hk] at hs
   have hra:=hra (by omega)
   have hrb:=hrb (by omega)
   generalize ((q.subs.getD 0 default).sch (db.map DA.t)).1=k0 at *
   generalize ((q.subs.getD 1 default).sch (db.map DA.t)).1=k1 at *
   obtain ⟨h32,hck⟩:(k0++k1).length≤32∧(chk (k0++k1) q.cond).2=0:=by
    split at hs
    · simp at hs
    split at hs
    · rename_i h;exact absurd hs h
    rename_i h1 h2
    exact ⟨by omega,truthE_ok (by simpa using h2)⟩
   rw [List.length_append] at h32
   unfold joinE
   have hhl:∀ x:List VL,(holdE q.cond (b.map (x ++ ·))).1.length≤4000:=fun x=>by
    have:=holdE_len q.cond (b.map (x ++ ·))
    rw [List.length_map] at this
    omega
   have hol:∀ i,i≤a.length→((a.take i).map fun x=>(holdE q.cond (b.map (x ++ ·))).1).flatten.length≤16000000:=fun i hi=>by
    have:=flat_leG (n:=4000) (l:=(a.take i).map fun x=>(holdE q.cond (b.map (x ++ ·))).1) fun y hy=>by
     obtain ⟨x,_,rfl⟩:=List.mem_map.1 hy
     exact hhl x
    rw [List.length_map,List.length_take] at this
    omega
   repeat' (first|(with_reducible first|(apply St.o;constructor)<;>intro _|refine And.intro (by omega) ?_|(apply Sq.o;constructor))|simp (disch:=omega) only [lE,seval,cellsO_fn,hk,List.length_map,Int.lt_irrefl,Int.reduceEq,decide_false,decide_true])
   refine loop_i (fun i:Nat=>i≤a.length∧∀ x ∈ a.take i,(holdE q.cond (b.map (x ++ ·))).2=0) (fun i=>⟨[(3,.op 0 0),(6,.op 1 0),(7,.int .i64 0),(8,.slc 2 1 ((a.take i).map fun x=>(holdE q.cond (b.map (x ++ ·))).1).flatten.length),(62,rwsV a),(63,.int .i64 a.length),(64,.int .i64 i)],[.box q.cs,.box [rwsV a,rwsV b],.arr 69 1 (((a.take i).map fun x=>(holdE q.cond (b.map (x ++ ·))).1).flatten.map rowV)]⟩) (fun i=>a.length - i) 0 ⟨by omega,by simp⟩ (Ent.ghost' 8 69 1 (by omega) rfl (ent [1,2,3] false (by simp only [lP,seval,List.take_zero,List.map_nil,List.flatten_nil,List.length_nil]<;>(try simp)<;>(try omega)) (by simp only [lP,seval,List.take_zero,List.map_nil,List.flatten_nil,List.length_nil]<;>(try simp)<;>(try omega)))) ?_
   rintro i ⟨hi,hn⟩
   have hol1:=hol i hi
   by_cases hin:i<a.length
   · have hlt:((i:Int)<(a.length:Int)):=by omega
     have he:=mapE_err (f:=fun x=>holdE q.cond (b.map (x ++ ·))) hin hn
     have hst:=all_step (p:=fun x=>decide ((holdE q.cond (b.map (x ++ ·))).2≠0)) hin (fun x hx=>by simp [hn x hx])
     have hol2:=hol (i+1) (by omega)
     have htk1:((a.take (i+1)).map fun x=>(holdE q.cond (b.map (x ++ ·))).1).flatten=((a.take i).map fun x=>(holdE q.cond (b.map (x ++ ·))).1).flatten++(holdE q.cond (b.map (a.getD i default ++ ·))).1:=by
      have hg:a.getD i default=a[i]:=by simp [hin]
      rw [List.take_succ_eq_append_getElem hin,hg,List.map_append,List.flatten_append]
      simp only [List.map_cons,List.map_nil,List.flatten_cons,List.flatten_nil,List.append_nil]
     have hax:=hra (a.getD i default) (by simp [hin])
     generalize hx:a.getD i default=x at *
     have h100:=c100 q.cond (b.map (x ++ ·)) (fitE_of hck) (fun r hr=>by
      obtain ⟨y,hy,rfl⟩:=List.mem_map.1 hr
      exact rtR_of (okRow_app hax (hrb y hy))) b.length (by simp) (by omega)
     have hxl:=hax.1
     rw [htk1] at hol2
     generalize ((a.take i).map fun x=>(holdE q.cond (b.map (x ++ ·))).1).flatten=O at *
     have hOl:(O.map rowV).length=O.length:=List.length_map _
     rw [List.length_append] at hol2
     repeat' (first|(with_reducible first|(apply St.o;constructor)<;>intro _|refine And.intro (by omega) ?_|(apply Sq.o;constructor))|simp (disch:=omega) only [lE,seval,IdxR_rows,hx,hk,Int.toNat_natCast,List.length_map,hlt,decide_true])
     refine loop_i (fun j:Nat=>j≤b.length) (fun j=>⟨[(3,.op 0 0),(6,.op 1 0),(7,.int .i64 0),(8,.slc 2 1 O.length),(12,rowV x),(13,.slc 3 1 j),(62,rwsV a),(63,.int .i64 a.length),(64,.int .i64 i),(69,rwsV b),(70,.int .i64 b.length),(71,.int .i64 j)],[.box q.cs,.box [rwsV a,rwsV b],.arr 69 1 (O.map rowV),.arr 69 1 (((b.take j).map (x ++ ·)).map rowV)]⟩) (fun j=>b.length - j) 0 (by omega) (Ent.ghost' 13 69 1 (by omega) rfl (ent [0,1,2,3] false (by simp only [lP,seval,pa_rows]<;>(try simp)<;>(try omega)) (by simp only [lP,seval,pa_rows]<;>(try simp)<;>(try omega)))) ?_
     intro j hj
     have hlen:(((b.take j).map (x ++ ·)).map rowV).length=j:=by simp;omega
     by_cases hjn:j<b.length
     · have hlt2:((j:Int)<(b.length:Int)):=by omega
       have hby:=hrb (b.getD j default) (by simp [hjn])
       have hyl:=hby.1
       have ht:((b.take (j+1)).map (x ++ ·)).map rowV=((b.take j).map (x ++ ·)).map rowV++[rowV (x++b.getD j default)]:=by
        rw [List.map_map,List.map_map];exact take_map1 (f:=rowV ∘ (x ++ ·)) hjn
       generalize hy:b.getD j default=y at *
       have hxy:([x,y]:Rws).flatten=x++y:=by simp
       have h101:ACalls E.P 101 [.view 1 [rowV x,rowV y]] [] (fun r H=>r=rowV (x++y)∧H=[]):=by
        have:=c101 [x,y] (by rw [hxy,List.length_append];omega) (by simp)
        rwa [hxy] at this
       repeat' (first|(with_reducible apply St.o;constructor) <;> intro _|((with_reducible refine mkl_view ?_ ?_ ?_);(focus decide);(focus rfl))|(with_reducible first|refine And.intro (by omega) ?_|(apply Sq.o;constructor))|((with_reducible apply Sc.o false;constructor);simp only [lP,seval,IdxR_rows,hy,hk,Int.toNat_natCast,List.length_map,hlt2,decide_true,hlen];refine ⟨_,h101,?_⟩;rintro _ _ ⟨rfl,rfl⟩;simp only [lA,lP,seval,IdxR_rows,hy,hk,Int.toNat_natCast,List.length_map,hlt2,decide_true,hlen])|simp (disch:=omega) only [lE,seval,IdxR_rows,hy,hk,Int.toNat_natCast,List.length_map,hlt2,decide_true,hlen])
       refine back_i (j+1) (show j+1≤b.length by omega) (by omega) ?_
       rw [ht]
       exact (ent [0,1,2,4] false (by simp only [lP,seval,hlen,pa_rows,List.map_append,List.map_cons,List.map_nil]<;>(try simp)<;>(try omega)) (by simp only [lP,seval,hlen,pa_rows,List.map_append,List.map_cons,List.map_nil]<;>(try simp)<;>(try omega)))
     · obtain rfl:j=b.length:=by omega
       rw [List.take_length] at hlen ⊢
       simp only [av_fs] at h100
       repeat' (first|(with_reducible first|(apply St.o;constructor)<;>intro _|refine And.intro (by omega) ?_|(apply Sq.o;constructor))|simp (disch:=omega) only [lE,seval,List.length_map,hk,Int.lt_irrefl,decide_false])
       refine callN_i [3] false (by simp) (by simp) ?_
       simp only [lP,seval,pa_rows]
       refine ⟨_,h100,?_⟩
       rintro _ _ ⟨xs,hxs,rfl,⟨he2,rfl⟩ | ⟨he2,htk,hle,rfl⟩⟩
       · simp only [lA,lP,seval,renL_rows]
         have he:=he he2
         generalize holdE q.cond (b.map (x ++ ·))=F at *
         obtain ⟨F1,F2⟩:=F
         simp only at he2 he
         have hd0:decide (F2=0)=false:=by simpa using he2
         repeat' (first|(with_reducible first|(apply St.o;constructor)<;>intro _|refine And.intro (by omega) ?_|(apply Sq.o;constructor))|simp (disch:=omega) only [lE,seval,hd0,Bool.not_false])
         · try simp only [mfQ,lA,seval]
           exact keep_re (lim_err (by rw [he]) he2)
         · rename_i h
           exact absurd h he2
       · simp only [lA,lP,seval,renL_rows]
         have hhlx:=hhl x
         generalize hF:holdE q.cond (b.map (x ++ ·))=F at *
         obtain ⟨F1,F2⟩:=F
         simp only at he2 htk hle hhlx htk1 hol2
         subst he2
         have hv:=fun H l' n'=>vwU_rows (H:=H) (l:=l') (n:=n') (E':=69) (a:=xs) (q:=F1.length) hle
         have hcd:(F1.length≤xs.length)=True:=by simp [hle]
         have hmt:List.take F1.length (xs.map rowV)=F1.map rowV:=by rw [← List.map_take,htk]
         repeat' (first|(with_reducible first|(apply St.o;constructor)<;>intro _|refine And.intro (by omega) ?_|(apply Sq.o;constructor))|simp (disch:=omega) only [lE,seval,hv,hcd,if_true,hmt,List.length_map,hOl])
         refine back_i (i+1) ⟨by omega,fun y hy=>by simpa using hst (by simp) y hy⟩ (by omega) ?_
         rw [htk1]
         trace_state
         exact (ent [0,1,4] false (by simp only [lP,seval,hOl,pa_rows,List.map_append,List.length_append]<;>(try simp)<;>(try omega)) (by simp only [lP,seval,hOl,pa_rows,List.map_append,List.length_append]<;>(try simp)<;>(try omega)))
   · obtain rfl:i=a.length:=by omega
     rw [List.take_length] at hn hol1 ⊢
     rw [mapE_ok hn]
     repeat' (first|(with_reducible first|(apply St.o;constructor)<;>intro _|refine And.intro (by omega) ?_|(apply Sq.o;constructor))|simp (disch:=omega) only [lE,seval,List.length_map,Int.lt_irrefl,decide_false])
     generalize (a.map fun x=>(holdE q.cond (b.map (x ++ ·))).1).flatten=O at *
     refine mf_to (fr':=[(7,.int .i64 0),(8,.slc 0 1 O.length)]) (H':=[.arr 69 1 (O.map rowV)]) (ent [2] false (by simp only [lP,seval,pa_rows]<;>(try simp)<;>(try omega)) (by simp only [lP,seval,pa_rows]<;>(try simp)<;>(try omega))) (mf_i ?_)
     repeat' (first|(with_reducible first|(apply St.o;constructor)<;>intro _|refine And.intro (by omega) ?_|(apply Sq.o;constructor))|simp (disch:=omega) only [lE,seval,List.length_map])
     · rename_i hb4
       refine mf_go (mf_i ?_)
       repeat' (first|(with_reducible first|(apply St.o;constructor)<;>intro _|refine And.intro (by omega) ?_|(apply Sq.o;constructor))|simp (disch:=omega) only [lE,seval,Int.reduceEq,decide_false,decide_true])
       try simp only [mfQ,lA,seval]
       exact keep_re (lim_big rfl (by omega))
     · rename_i hb4
       refine mf_go (mf_i ?_)
       repeat' (first|(with_reducible first|(apply St.o;constructor)<;>intro _|refine And.intro (by omega) ?_|(apply Sq.o;constructor))|simp (disch:=omega) only [lE,seval])
       refine mf_go (mf_last ?_)
       repeat' (first|(with_reducible first|(apply St.o;constructor)<;>intro _|refine And.intro (by omega) ?_|(apply Sq.o;constructor))|simp (disch:=omega) only [lE,seval])
       exact keep_ro rfl rfl (lim_fit rfl (by omega))
 · -- group
   have n1:¬ q.kind=1:=by omega
   have n2:¬ q.kind=2:=by omega
   have n4:¬ q.kind=4:=by omega
   have n3:¬ q.kind=3:=by omega
   rw [if_neg n1,if_neg n2,if_neg n4,if_neg n3,if_pos hk]
   have hl1:q.subs.length=1:=by rw [hl,subsN,if_neg n1,if_neg n4]
   have hfl:=flat1 (f:=fun s=>(QY.sch (db.map DA.t) s).1) hl1
   rw [hfl] at hs
   unfold nodeK at hs
   rw [if_neg n1,if_neg n2,if_neg n4,if_neg n3,if_pos hk] at hs
   have hra:=hra (by omega)
   generalize ((q.subs.getD 0 default).sch (db.map DA.t)).1=ks at *
   obtain ⟨hc32,hgo,hck⟩:q.grp.length+q.aggs.length≤32∧gOk ks q.grp∧∀ x ∈ q.aggs,(aggK ks x).2=0:=by
    unfold groupsK at hs
    split at hs
    · simp at hs
    split at hs
    · simp at hs
    split at hs
    · rename_i h;exact absurd hs h
    rename_i h1 h2 h3
    refine ⟨by omega,by simp only [not_or,Decidable.not_not] at h1;exact h1.2,?_⟩
    rcases mapE_cases (f:=aggK ks) q.aggs with h4 | h4
    · exact h4.2
    · exact absurd (by simpa using h3) h4.2
   have h103:=c103 (w:=ks.length) q a hla (by omega) (by omega) (fun x hx h1=>fitE_of (aggK_chk (hck x hx) h1)) (fun r hr=>rtR_of (hra r hr)) hgo.2
   simp only [q_av,QY.cs,hk] at h103
   repeat' (first|(with_reducible first|(apply St.o;constructor)<;>intro _|refine And.intro (by omega) ?_|(apply Sq.o;constructor))|((with_reducible apply Sc.o false;constructor);simp only [lP,seval,cellsO_fn,hk,List.length_map,Int.lt_irrefl,Int.reduceEq,decide_false,decide_true];refine ⟨_,h103,?_⟩;rintro _ _ ⟨rfl,x,rfl,hx⟩;simp only [lA,lP,seval,cellsO_fn,hk,List.length_map,Int.lt_irrefl,Int.reduceEq,decide_false,decide_true])|simp (disch:=omega) only [lE,seval,cellsO_fn,hk,List.length_map,Int.lt_irrefl,Int.reduceEq,decide_false,decide_true])
   generalize groupE q.grp q.aggs a=g at *
   obtain ⟨g1,g2⟩:=g
   simp only at hx ⊢
   by_cases h0:g2=0
   · subst h0
     have hx:=hx rfl
     subst hx
     refine mf_to (fr':=[(7,.int .i64 0),(8,rwsV x)]) (H':=[]) (ent [] false) (mf_i ?_)
     repeat' (first|(with_reducible first|(apply St.o;constructor)<;>intro _|refine And.intro (by omega) ?_|(apply Sq.o;constructor))|simp (disch:=omega) only [lE,seval,List.length_map])
     · rename_i hb4
       refine mf_go (mf_i ?_)
       repeat' (first|(with_reducible first|(apply St.o;constructor)<;>intro _|refine And.intro (by omega) ?_|(apply Sq.o;constructor))|simp (disch:=omega) only [lE,seval,Int.reduceEq,decide_false,decide_true])
       try simp only [mfQ,lA,seval]
       exact keep_re (lim_big rfl (by omega))
     · rename_i hb4
       refine mf_go (mf_i ?_)
       repeat' (first|(with_reducible first|(apply St.o;constructor)<;>intro _|refine And.intro (by omega) ?_|(apply Sq.o;constructor))|simp (disch:=omega) only [lE,seval])
       refine mf_go (mf_last ?_)
       repeat' (first|(with_reducible first|(apply St.o;constructor)<;>intro _|refine And.intro (by omega) ?_|(apply Sq.o;constructor))|simp (disch:=omega) only [lE,seval])
       exact keep_rv (lim_fit rfl (by omega))
   · refine mf_to (fr':=[(7,.int .i64 g2),(8,rwsV x)]) (H':=[]) (ent [] false) (mf_i ?_)
     repeat' (first|(with_reducible first|(apply St.o;constructor)<;>intro _|refine And.intro (by omega) ?_|(apply Sq.o;constructor))|simp (disch:=omega) only [lE,seval,h0])
     refine mf_go (mf_i ?_)
     repeat' (first|(with_reducible first|(apply St.o;constructor)<;>intro _|refine And.intro (by omega) ?_|(apply Sq.o;constructor))|simp (disch:=omega) only [lE,seval,h0])
     try simp only [mfQ,lA,seval]
     exact keep_re (lim_err rfl h0)
 · -- order
   have n1:¬ q.kind=1:=by omega
   have n2:¬ q.kind=2:=by omega
   have n4:¬ q.kind=4:=by omega
   have n3:¬ q.kind=3:=by omega
   have n5:¬ q.kind=5:=by omega
   rw [if_neg n1,if_neg n2,if_neg n4,if_neg n3,if_neg n5,if_pos hk]
   have hl1:q.subs.length=1:=by rw [hl,subsN,if_neg n1,if_neg n4]
   have hfl:=flat1 (f:=fun s=>(QY.sch (db.map DA.t) s).1) hl1
   rw [hfl] at hs
   unfold nodeK at hs
   rw [if_neg n1,if_neg n2,if_neg n4,if_neg n3,if_neg n5,if_pos hk] at hs
   have hra:=hra (by omega)
   generalize ((q.subs.getD 0 default).sch (db.map DA.t)).1=ks at *
   have hord:∀ o ∈ q.ord,0≤o.col∧o.col<ks.length:=by
    split at hs
    · simp at hs
    · rename_i h
      intro o ho
      have h2:¬ (q.ord.any fun o=>!okOrd ks.length o)=true:=fun e=>h (.inr e)
      rw [List.any_eq_true] at h2
      have h3:okOrd ks.length o=true:=by
       cases hh:okOrd ks.length o with
       | true=>rfl
       | false=>exact absurd ⟨o,ho,by simp [hh]⟩ h2
      simpa [okOrd] using h3
   have h99:=c99 a (by omega)
   have h105:=c105 q.ord
   have hcmp:Cmp 128 [[.view 2 (q.ord.map OD.av)]] (okRow ks) (ordC q.ord):=fun x y hx hy=>c128 q.ord x y (fun o ho=>by rw [hx.1];exact hord o ho) (fun o ho=>by rw [hy.1];exact hord o ho)
   have h104:=c104 hcmp (ordC_ord q.ord).swo a hra a.length rfl (by omega)
   repeat' (first|(with_reducible first|(apply St.o;constructor)<;>intro _|refine And.intro (by omega) ?_|(apply Sq.o;constructor))|((with_reducible apply Sc.o false;constructor);simp only [lP,seval,cellsO_fn,hk,List.length_map,Int.lt_irrefl,Int.reduceEq,decide_false,decide_true];(first|refine ⟨_,h99,?_⟩|refine ⟨_,h105,?_⟩);rintro _ _ ⟨rfl,rfl⟩;simp only [lA,lP,seval,cellsO_fn,hk,List.length_map,Int.lt_irrefl,Int.reduceEq,decide_false,decide_true])|simp (disch:=omega) only [lE,seval,cellsO_fn,hk,List.length_map,Int.lt_irrefl,Int.reduceEq,decide_false,decide_true])
   refine callN_i [3] false (by simp) (by simp) ?_
   simp only [lP,seval,renL_rows,pa_rows]
   refine ⟨_,h104,?_⟩
   rintro _ _ ⟨rfl,rfl⟩
   simp only [lA,lP,seval,renL_rows]
   repeat' (first|(with_reducible first|(apply St.o;constructor)<;>intro _|refine And.intro (by omega) ?_|(apply Sq.o;constructor))|simp (disch:=omega) only [lE,seval])
   have hsl2:=stab_length (cf:=ordC q.ord) a
   generalize stab (ordC q.ord) a=S at *
   refine mf_to (fr':=[(7,.int .i64 0),(8,.slc 0 1 S.length)]) (H':=[.arr 69 1 (S.map rowV)]) (ent [3] false (by simp only [lP,seval,pa_rows,hsl2]<;>(try simp)<;>(try omega)) (by simp only [lP,seval,pa_rows,hsl2]<;>(try simp)<;>(try omega))) (mf_i ?_)
   repeat' (first|(with_reducible first|(apply St.o;constructor)<;>intro _|refine And.intro (by omega) ?_|(apply Sq.o;constructor))|simp (disch:=omega) only [lE,seval,List.length_map])
   · exfalso;omega
   · rename_i hb4
     refine mf_go (mf_i ?_)
     repeat' (first|(with_reducible first|(apply St.o;constructor)<;>intro _|refine And.intro (by omega) ?_|(apply Sq.o;constructor))|simp (disch:=omega) only [lE,seval])
     refine mf_go (mf_last ?_)
     repeat' (first|(with_reducible first|(apply St.o;constructor)<;>intro _|refine And.intro (by omega) ?_|(apply Sq.o;constructor))|simp (disch:=omega) only [lE,seval])
     exact keep_ro rfl rfl (lim_fit rfl (by omega))
 · -- limit
   have n1:¬ q.kind=1:=by omega
   have n2:¬ q.kind=2:=by omega
   have n4:¬ q.kind=4:=by omega
   have n3:¬ q.kind=3:=by omega
   have n5:¬ q.kind=5:=by omega
   have n6:¬ q.kind=6:=by omega
   rw [if_neg n1,if_neg n2,if_neg n4,if_neg n3,if_neg n5,if_neg n6,if_pos hk]
   unfold nodeK at hs
   rw [if_neg n1,if_neg n2,if_neg n4,if_neg n3,if_neg n5,if_neg n6,if_pos hk] at hs
   have hn0:0≤q.n:=by
    split at hs
    · simp at hs
    · omega
   repeat' (first|(with_reducible first|(apply St.o;constructor)<;>intro _|refine And.intro (by omega) ?_|(apply Sq.o;constructor))|simp (disch:=omega) only [lE,seval,cellsO_fn,hk,List.length_map,Int.lt_irrefl,Int.reduceEq,decide_false,decide_true])
   have hmin:(if (a.length:Int)<q.n then (a.length:Int) else q.n).toNat=min q.n.toNat a.length:=by split <;> omega
   have htk:List.take (if (a.length:Int)<q.n then (a.length:Int) else q.n).toNat (a.map rowV)=(a.take q.n.toNat).map rowV:=by
    rw [hmin,List.map_take]
    rcases Nat.le_total q.n.toNat a.length with h | h
    · rw [Nat.min_eq_left h]
    · rw [Nat.min_eq_right h,List.take_of_length_le (by simp),List.take_of_length_le (by simpa using h)]
   rw [htk]
   refine mf_to (fr':=[(7,.int .i64 0),(8,rwsV (a.take q.n.toNat))]) (H':=[]) (ent [] false) (mf_i ?_)
   repeat' (first|(with_reducible first|(apply St.o;constructor)<;>intro _|refine And.intro (by omega) ?_|(apply Sq.o;constructor))|simp (disch:=omega) only [lE,seval,List.length_map])
   · rename_i hb4
     refine mf_go (mf_i ?_)
     repeat' (first|(with_reducible first|(apply St.o;constructor)<;>intro _|refine And.intro (by omega) ?_|(apply Sq.o;constructor))|simp (disch:=omega) only [lE,seval,Int.reduceEq,decide_false,decide_true])
     try simp only [mfQ,lA,seval]
     exact keep_re (lim_big rfl (by omega))
   · rename_i hb4
     refine mf_go (mf_i ?_)
     repeat' (first|(with_reducible first|(apply St.o;constructor)<;>intro _|refine And.intro (by omega) ?_|(apply Sq.o;constructor))|simp (disch:=omega) only [lE,seval])
     refine mf_go (mf_last ?_)
     repeat' (first|(with_reducible first|(apply St.o;constructor)<;>intro _|refine And.intro (by omega) ?_|(apply Sq.o;constructor))|simp (disch:=omega) only [lE,seval])
     exact keep_rv (lim_fit rfl (by omega))
 · -- distinct
   have n1:¬ q.kind=1:=by omega
   have n2:¬ q.kind=2:=by omega
   have n4:¬ q.kind=4:=by omega
   have n3:¬ q.kind=3:=by omega
   have n5:¬ q.kind=5:=by omega
   have n6:¬ q.kind=6:=by omega
   have n7:¬ q.kind=7:=by omega
   rw [if_neg n1,if_neg n2,if_neg n4,if_neg n3,if_neg n5,if_neg n6,if_neg n7]
   repeat' (first|(with_reducible first|(apply St.o;constructor)<;>intro _|refine And.intro (by omega) ?_|(apply Sq.o;constructor))|simp (disch:=omega) only [lE,seval,cellsO_fn,hk,List.length_map,Int.lt_irrefl,Int.reduceEq,decide_false,decide_true])
   refine loop_i (fun i:Nat=>i≤a.length) (fun i=>⟨[(7,.int .i64 0),(8,.slc 0 1 ((a.take i).foldl addD []).length),(148,rwsV a),(149,.int .i64 a.length),(150,.int .i64 i)],[.arr 69 1 (((a.take i).foldl addD []).map rowV)]⟩) (fun i=>a.length - i) 0 (by omega) (Ent.ghost' 8 69 1 (by omega) rfl (ent [3] false)) ?_
   intro i hi
   have hlen:(((a.take i).foldl addD []).map rowV).length=((a.take i).foldl addD []).length:=List.length_map _
   have hbd:((a.take i).foldl addD []).length≤4000:=by
    have:=addD_len (a.take i) []
    rw [List.length_take] at this
    simp only [List.length_nil] at this
    omega
   by_cases hin:i<a.length
   · have hlt:((i:Int)<(a.length:Int)):=by omega
     have ht:(a.take (i+1)).foldl addD []=addD ((a.take i).foldl addD []) (a.getD i default):=by
      rw [List.take_succ_eq_append_getElem hin,List.foldl_append];simp [hin]
     have h106:ACalls E.P 106 [rwsV ((a.take i).foldl addD []),.fn (.func 107) [] [.vp [rowV (a.getD i default)]]] [] (fun r H=>r=.bool (decide (a.getD i default ∈ (a.take i).foldl addD []))∧H=[]):=by
      have:=c106 ((a.take i).foldl addD []) 107 [[rowV (a.getD i default)]] (fun x=>eqC x (a.getD i default)) fun x _=>c107 x _
      rwa [addD_any] at this
     generalize hx:a.getD i default=x at *
     generalize (a.take i).foldl addD []=D at *
     repeat' (first|(with_reducible first|(apply St.o;constructor)<;>intro _|refine And.intro (by omega) ?_|(apply Sq.o;constructor))|((with_reducible apply Sc.o true;constructor);simp only [lP,seval,IdxR_rows,hx,Int.toNat_natCast,List.length_map,hlt,decide_true,hlen,vw_rows,List.take_length];refine ⟨_,h106,?_⟩;rintro _ _ ⟨rfl,rfl⟩;simp only [lA,lP,seval,IdxR_rows,hx,Int.toNat_natCast,List.length_map,hlt,decide_true,hlen,vw_rows,List.take_length])|simp (disch:=omega) only [lE,seval,IdxR_rows,hx,Int.toNat_natCast,List.length_map,hlt,decide_true,hlen,vw_rows,List.take_length])
     · rename_i h
       have h':¬ x ∈ D:=by simpa using h
       refine back_i (i+1) (show i+1≤a.length by omega) (by omega) ?_
       simp only [ht,addD,if_neg h',List.length_append,List.length_cons,List.length_nil,Nat.zero_add]
       exact (ent [3] false (by simp only [lP,seval,hlen,pa_rows,List.map_append,List.map_cons,List.map_nil]<;>(try simp)<;>(try omega)) (by simp only [lP,seval,hlen,pa_rows,List.map_append,List.map_cons,List.map_nil]<;>(try simp)<;>(try omega)))
     · rename_i h
       have h':x ∈ D:=by simpa using h
       refine back_i (i+1) (show i+1≤a.length by omega) (by omega) ?_
       simp only [ht,addD,if_pos h']
       exact (ent [0] false (by simp only [lP,seval,hlen,pa_rows]<;>(try simp)<;>(try omega)) (by simp only [lP,seval,hlen,pa_rows]<;>(try simp)<;>(try omega)))
   · obtain rfl:i=a.length:=by omega
     rw [List.take_length] at hbd hlen ⊢
     repeat' (first|(with_reducible first|(apply St.o;constructor)<;>intro _|refine And.intro (by omega) ?_|(apply Sq.o;constructor))|simp (disch:=omega) only [lE,seval,List.length_map,Int.lt_irrefl,decide_false])
     have hdd:a.foldl addD []=distE a:=rfl
     rw [hdd] at hbd ⊢
     generalize distE a=D at *
     refine mf_to (fr':=[(7,.int .i64 0),(8,.slc 0 1 D.length)]) (H':=[.arr 69 1 (D.map rowV)]) (ent [0] false (by simp only [lP,seval,pa_rows]<;>(try simp)<;>(try omega)) (by simp only [lP,seval,pa_rows]<;>(try simp)<;>(try omega))) (mf_i ?_)
     repeat' (first|(with_reducible first|(apply St.o;constructor)<;>intro _|refine And.intro (by omega) ?_|(apply Sq.o;constructor))|simp (disch:=omega) only [lE,seval,List.length_map])
     · exfalso;omega
     · rename_i hb4
       refine mf_go (mf_i ?_)
       repeat' (first|(with_reducible first|(apply St.o;constructor)<;>intro _|refine And.intro (by omega) ?_|(apply Sq.o;constructor))|simp (disch:=omega) only [lE,seval])
       refine mf_go (mf_last ?_)
       repeat' (first|(with_reducible first|(apply St.o;constructor)<;>intro _|refine And.intro (by omega) ?_|(apply Sq.o;constructor))|simp (disch:=omega) only [lE,seval])
       exact keep_ro rfl rfl (lim_fit rfl (by omega))
set_option maxRecDepth 100000
def mc32:MC:=(.seq (.ops [pK 3 1,pY 4,pI 5 0]) (.seq (.ops [pY 6]) (.seq (.seq (.ops [pM 11 0,pG 12 11,pI 13 0]) (.block 0 (.loop (.seq (.ops [pB 14 13 12]) (.seq (.cond 14 .skip (.exit 0)) (.seq (.block 1 (.seq (.ops [pQ 15 5 11 13,pR 16 5 15,(none,.e (.alloc 8 z1)),pS 5 8 16]) (.ops [pM 17 6,pF 18 0 8,pR 19 4 18,(none,.e (.mkl 20 56 4 1 (.agg z5) [(0,.t 19)])),(none,.e (.app 21 56 4 88 (.t 17) (.t 20))),pM 6 21]))) (.ops [pA 22 13 1,pM 13 22]))))))) (.seq (.seq (.ops [pM 24 6,pR 25 14 3,pW 26 18 24 25,pM 23 26,pX 27 0 23,pX 28 1 23,pM 9 27,pM 10 28]) (.seq (.ops [pM 29 10,pD 30 29 0]) (.cond 30 (.seq (.ops [pM 31 10,pY 4,pM 5 31]) .ret) .skip))) (.seq (.ops [pM 32 0,(none,.v (.build 33 [.raw (.slice none 0 0)] [(0,1,.t 32)])),pR 34 14 3,pW 35 66 33 34,pX 36 0 35,pX 37 1 35,pM 4 36,pM 5 37]) .ret)))))
theorem ok32:FnOk E 32 38 [.tmp 4,.tmp 5] mc32:=ofk func32
set_option maxRecDepth 20000
set_option maxHeartbeats 16000000
theorem c66 (db:List DA) (hdb:∀ d ∈ db,d.right) (hrw:∀ d ∈ db,d.rows.length≤4000) (hcw:∀ d ∈ db,d.t.cols.length≤1000000) (q:QY):q.formed=true→(q.sch (db.map DA.t)).2=0 →
 ACalls E.P 66 [engV db,q.av] [] (fun r H=>r=.tup [rwsV (q.run db).1,.int .i64 (q.run db).2]∧H=[]) :=
 q_ind (p:=fun q=>q.formed=true→(q.sch (db.map DA.t)).2=0→ACalls E.P 66 [engV db,q.av] [] (fun r H=>r=.tup [rwsV (q.run db).1,.int .i64 (q.run db).2]∧H=[])) (fun q ih hf hs =>
  c66n db hdb hrw hcw q hf hs fun i hi=>ih i hi ((formed_node hf).2 _ (sub_mem hi)) ((sch_parts hs).1 _ (sub_mem hi))) q
structure DbOk (db:List DA):Prop where
 right:∀ d ∈ db,d.right
 rows:∀ d ∈ db,d.rows.length≤4000
 cols:∀ d ∈ db,d.t.cols.length≤1000000
 len:db.length≤1000000
theorem spine32:∀ fn,E.P.funcs[32]?=some fn→fn.body.map (Go.Al.spine 4)=some true:=fun fn h=>by
 have e:=func32.symm.trans h
 injection e with e
 subst e
 rfl
theorem c32 (db:List DA) (h:DbOk db) (q:QY) (hk:q.ok):ACalls E.P 32 [.view 5 (db.map DA.av),q.av] [] (fun r H=>r=.tup [rwsV (meaning db q).1,.int .i64 (meaning db q).2]∧H=[]):=by
 have hmax:=maxLen_eq
 have hlen:=h.len
 have h18:=c18 (db.map DA.t) (fun t ht=>by obtain ⟨d,hd,rfl⟩:=List.mem_map.1 ht;exact h.cols d hd) q hk
 have hme:meaning db q=if (schema (db.map DA.t) q).2≠0 then ([],(schema (db.map DA.t) q).2) else q.run db:=rfl
 have h66:(schema (db.map DA.t) q).2=0→ACalls E.P 66 [engV db,q.av] [] (fun r H=>r=.tup [rwsV (q.run db).1,.int .i64 (q.run db).2]∧H=[]):=fun h0=>by
  obtain ⟨f1,_,f2,_⟩:=schema_ok h0
  exact c66 db h.right h.rows h.cols q f1 f2
 refine ok32.acallsF hE hm (by simp) 4 spine32 fun N hN=>?_
 unfold mc32 z1 z5 pK pY pI pM pG pB pQ pR pS pF pA pW pX pD
 refine mf_i ?_
 simp only [lA,seval,q_av]
 repeat' (first|(with_reducible first|(apply St.o;constructor)<;>intro _|refine And.intro (by omega) ?_|(apply Sq.o;constructor))|simp (disch:=omega) only [lE,seval])
 refine mf_go (mf_i ?_)
 repeat' (first|(with_reducible first|(apply St.o;constructor)<;>intro _|refine And.intro (by omega) ?_|(apply Sq.o;constructor))|simp (disch:=omega) only [lE,seval])
 refine mf_go (mf_i ?_)
 repeat' (first|(with_reducible first|(apply St.o;constructor)<;>intro _|refine And.intro (by omega) ?_|(apply Sq.o;constructor))|simp (disch:=omega) only [lE,seval,List.length_map])
 refine loop_i (fun i:Nat=>i≤db.length) (fun i=>⟨[(0,.view 5 (db.map DA.av)),(3,.op 0 0),(6,.slc 1 4 i),(11,.view 5 (db.map DA.av)),(12,.int .i64 db.length),(13,.int .i64 i)],[.box q.cs,.arr 56 4 ((db.take i).map DA.tb)]⟩) (fun i=>db.length - i) 0 (by omega) (Ent.ghost' 6 56 4 (by omega) rfl (ent [0,1] false)) ?_
 intro i hi
 have hlen:(db.take i).length=i:=by simp;omega
 by_cases hin:i<db.length
 · have hlt:((i:Int)<(db.length:Int)):=by omega
   have ht:=take_map1 (f:=DA.tb) hin
   generalize hx:db.getD i default=d at *
   repeat' (first|(with_reducible first|(apply St.o;constructor)<;>intro _|refine And.intro (by omega) ?_|(apply Sq.o;constructor))|simp (disch:=omega) only [lE,seval,IdxR_das,hx,Int.toNat_natCast,List.length_map,hlt,decide_true,hlen])
   refine back_i (i+1) (show i+1≤db.length by omega) (by omega) ?_
   rw [ht]
   exact (ent [0,4] false (by simp only [lP,seval,pa_tbd,hlen,List.map_append,List.map_cons,List.map_nil,DA.tb,tb_av]<;>(try simp)<;>(try omega)) (by simp only [lP,seval,pa_tbd,hlen,List.map_append,List.map_cons,List.map_nil,DA.tb,tb_av]<;>(try simp)<;>(try omega)))
 · obtain rfl:i=db.length:=by omega
   rw [List.take_length]
   have e1:db.map DA.tb=(db.map DA.t).map TB.av:=by rw [List.map_map];rfl
   rw [e1]
   simp only [q_av] at h18 h66
   generalize schema (db.map DA.t) q=s at *
   obtain ⟨s1,s2⟩:=s
   simp only at hme h66 h18
   have hl4:((db.map DA.t).map TB.av).length=db.length:=by simp
   repeat' (first|(with_reducible first|(apply St.o;constructor)<;>intro _|refine And.intro (by omega) ?_|(apply Sq.o;constructor))|simp (disch:=omega) only [lE,seval,List.length_map,Int.lt_irrefl,decide_false])
   refine mf_to (fr':=[(0,.view 5 (db.map DA.av)),(3,.vp q.cs),(6,.view 4 ((db.map DA.t).map TB.av))]) (H':=[]) ?_ (mf_i ?_)
   · rw [← hl4]
     exact (ent [] true (by simp only [lP,seval,vw_tbs,List.take_length]<;>(try simp)<;>(try omega)) (by simp only [lP,seval,vw_tbs,List.take_length]<;>(try simp)<;>(try omega)))
   repeat' (first|(with_reducible first|(apply St.o;constructor)<;>intro _|refine And.intro (by omega) ?_|(apply Sq.o;constructor))|((with_reducible apply Sc.o false;constructor);simp only [lP,seval];refine ⟨_,h18,?_⟩;rintro _ _ ⟨rfl,rfl⟩;simp only [lA,lP,seval])|simp (disch:=omega) only [lE,seval])
   · rename_i h
     try simp only [mfQ,lA,seval]
     rw [hme]
     exact keep_re (by rw [if_pos h])
   · rename_i h
     subst h
     have h66:=h66 rfl
     rw [if_neg (by simp)] at hme
     rw [hme]
     refine mf_go (mf_last ?_)
     repeat' (first|(with_reducible first|(apply St.o;constructor)<;>intro _|refine And.intro (by omega) ?_|(apply Sq.o;constructor))|((with_reducible apply Sc.o false;constructor);simp only [lP,seval];refine ⟨_,h66,?_⟩;rintro _ _ ⟨rfl,rfl⟩;simp only [lA,lP,seval])|simp (disch:=omega) only [lE,seval])
     trace_state
     exact keep_rv rfl
set_option maxRecDepth 100000
def mc14:MC:=(.seq (.ops [pK 2 0,pK 3 1,(none,.e (.alloc 4 z0))]) (.seq (.ops [pR 5 6 2,pR 6 14 3,(none,.e (.mkl 7 33 14 1 (.agg z0) [(0,.t 6)])),(none,.v (.build 8 z0 [(0,1,.c (.int .i64 2)),(3,6,.t 5),(2,1,.t 7)])),pS 14 4 8]) .ret))
theorem ok14:FnOk E 14 9 [.cell 4 33] mc14:=ofk func14
def mc16:MC:=(.seq (.ops [pK 4 1,pK 5 2,(none,.e (.alloc 6 z3))]) (.seq (.ops [pM 7 0,pR 8 6 4,pR 9 6 5,(none,.e (.mkl 10 28 6 2 (.agg z3) [(0,.t 8),(1,.t 9)])),(none,.v (.build 11 z3 [(0,1,.t 7),(5,1,.t 10)])),pS 6 6 11]) .ret))
theorem ok16:FnOk E 16 12 [.cell 6 28] mc16:=ofk func16
def mc21:MC:=(.seq (.ops [pK 3 0,pK 4 1,pK 5 2,(none,.e (.alloc 6 z0))]) (.seq (.ops [pR 7 6 3,pR 8 14 4,pR 9 14 5,(none,.e (.mkl 10 33 14 2 (.agg z0) [(0,.t 8),(1,.t 9)])),(none,.v (.build 11 z0 [(0,1,.c (.int .i64 4)),(3,6,.t 7),(2,1,.t 10)])),pS 14 6 11]) .ret))
theorem ok21:FnOk E 21 12 [.cell 6 33] mc21:=ofk func21
abbrev q25_0:MI:=oZ 4
def mc25:MC:=(.seq (.ops [(none,q25_0)]) (.seq (.seq (.ops [pM 6 0,pG 7 6,pM 8 1,pG 9 8,(none,.v (.bin 10 .neq false (.t 7) (.t 9)))]) (.cond 10 (.seq (.ops [(none,q25_0)]) .ret) .skip)) (.seq (.seq (.ops [pI 5 0]) (.block 0 (.loop (.seq (.seq (.ops [pM 11 5,pM 12 0,pG 13 12,pB 14 11 13]) (.cond 14 .skip (.exit 0))) (.seq (.block 1 (.seq (.any false (.pure0 none (oM 17 0) (.pure0 none (oM 18 5) (.pure0 none (oQ 19 1 17 18) (.pure0 none (oL 20 19) (.pure0 none (oM 21 1) (.pure0 none (oM 22 5) (.pure0 none (oQ 23 1 21 22) (.pure0 none (oL 24 23) (.pure0 none (.v (.bin 25 .neq false (.t 20) (.t 24))) .done)))))))))) (.cond 25 (.seq (.ops [(none,q25_0)]) .ret) .skip))) (.ops [pM 15 5,pA 16 15 1,pM 5 16])))))) (.seq (.ops [(none,.v (.mov 4 (.c (.bool true))))]) .ret))))
theorem ok25:FnOk E 25 26 [.tmp 4] mc25:=ofk func25
def mc34:MC:=(.seq (.ops [(none,.e (.alloc 2 z0))]) (.seq (.ops [pM 3 0,(none,.v (.build 4 z0 [(0,1,.c (.int .i64 1)),(1,1,.t 3)])),pS 14 2 4]) .ret))
theorem ok34:FnOk E 34 5 [.cell 2 33] mc34:=ofk func34
def mc41:MC:=(.seq (.ops [(none,.e (.alloc 2 z2))]) (.seq (.ops [pM 3 0,(none,.v (.build 4 z2 [(0,1,.c (.int .i64 1)),(1,1,.t 3)])),pS 3 2 4]) .ret))
theorem ok41:FnOk E 41 5 [.cell 2 25] mc41:=ofk func41
def mc42:MC:=(.seq (.ops [(none,.e (.alloc 2 z3))]) (.seq (.ops [pM 3 0,(none,.v (.build 4 z3 [(0,1,.c (.int .i64 1)),(1,1,.t 3)])),pS 6 2 4]) .ret))
theorem ok42:FnOk E 42 5 [.cell 2 28] mc42:=ofk func42
def mc43:MC:=(.seq (.ops [(none,.e (.alloc 2 z3))]) (.seq (.ops [pM 3 0,pV 4 41 3,(none,.v (.build 5 z3 [(0,1,.c (.int .i64 2)),(2,3,.t 4)])),pS 6 2 5]) .ret))
theorem ok43:FnOk E 43 6 [.cell 2 28] mc43:=ofk func43
set_option maxRecDepth 20000
def numV (n:Int):VL:=⟨1,n,⟨#[]⟩⟩
def colX (n:Int):EX:=.mk 1 n 0 0 ⟨#[]⟩ []
def valX (n:Int):EX:=.mk 2 0 1 n ⟨#[]⟩ []
def twoX (op:Int) (a b:EX):EX:=.mk op 0 0 0 ⟨#[]⟩ [a,b]
def scanQ (t:ByteArray):QY:=.mk 1 t [] EX.zero [] [] [] [] 0
theorem c41 (n:Int):ACalls E.P 41 [.int .i64 n] [] (fun r H=>r=(numV n).av∧H=[]):=by
 refine ok41.acalls hE hm (by simp) fun N hN=>?_
 unfold mc41 z2 pM pS
 simp only [lA,seval]
 repeat' (first|(with_reducible first|(apply St.o;constructor)<;>intro _|refine And.intro (by omega) ?_|(apply Sq.o;constructor))|simp (disch:=omega) only [lE,seval,ti25])
 exact keep_i [] false (by simp) (by simp) rfl ⟨rfl,by simp only [lP,seval]⟩
theorem c42 (n:Int):ACalls E.P 42 [.int .i64 n] [] (fun r H=>r=(colX n).av∧H=[]):=by
 refine ok42.acalls hE hm (by simp) fun N hN=>?_
 unfold mc42 z3 pM pS
 simp only [lA,seval]
 repeat' (first|(with_reducible first|(apply St.o;constructor)<;>intro _|refine And.intro (by omega) ?_|(apply Sq.o;constructor))|simp (disch:=omega) only [lE,seval,ti28])
 refine keepw_i [] false (by simp) (by simp) rfl (r':=(colX n).av) ?_ ⟨rfl,by simp only [lP,seval]⟩
 simp only [lP,seval,colX,EX.av]
 exact WeakL.agg (.cons (.refl _) (.cons (.refl _) (.cons (.refl _) (.cons (.refl _) (.cons (.refl _) (.cons weak_nil (.refl _)))))))
theorem c43 (n:Int):ACalls E.P 43 [.int .i64 n] [] (fun r H=>r=(valX n).av∧H=[]):=by
 have h41:=c41 n
 simp only [numV,VL.av] at h41
 refine ok43.acalls hE hm (by simp) fun N hN=>?_
 unfold mc43 z3 pM pV pS
 simp only [lA,seval]
 repeat' (first|(with_reducible first|(apply St.o;constructor)<;>intro _|refine And.intro (by omega) ?_|(apply Sq.o;constructor))|((with_reducible apply Sc.o true;constructor);simp only [lP,seval,ti28];refine ⟨_,h41,?_⟩;rintro _ _ ⟨rfl,rfl⟩;simp only [lA,lP,seval,ti28])|simp (disch:=omega) only [lE,seval,ti28])
 refine keepw_i [] false (by simp) (by simp) rfl (r':=(valX n).av) ?_ ⟨rfl,by simp only [lP,seval]⟩
 simp only [lP,seval,valX,EX.av]
 exact WeakL.agg (.cons (.refl _) (.cons (.refl _) (.cons (.refl _) (.cons (.refl _) (.cons (.refl _) (.cons weak_nil (.refl _)))))))
theorem c16 (op:Int) (a b:EX):ACalls E.P 16 [.int .i64 op,a.av,b.av] [] (fun r H=>r=(twoX op a b).av∧H=[]):=by
 refine ok16.acalls hE hm (by simp) fun N hN=>?_
 unfold mc16 z3 pK pM pR pS
 simp only [lA,seval,av_fs]
 repeat' (first|(with_reducible apply St.o;constructor) <;> intro _|((with_reducible refine mkl_view ?_ ?_ ?_);(focus decide);(focus rfl))|(with_reducible first|refine And.intro (by omega) ?_|(apply Sq.o;constructor))|simp (disch:=omega) only [lE,seval,ti28,fillE,setAll])
 refine keep_i [] false (by simp) (by simp) rfl ⟨?_,by simp only [lP,seval]⟩
 simp only [lP,seval]
 have e:(twoX op a b).args.map EX.av=[.agg a.fs,.agg b.fs]:=by simp only [twoX,EX.args,List.map_cons,List.map_nil,av_fs]
 simp only [EX.fs,e]
 rfl
theorem c34 (t:ByteArray):ACalls E.P 34 [.str t] [] (fun r H=>r=(scanQ t).av∧H=[]):=by
 refine ok34.acalls hE hm (by simp) fun N hN=>?_
 unfold mc34 z0 pM pS
 simp only [lA,seval]
 repeat' (first|(with_reducible first|(apply St.o;constructor)<;>intro _|refine And.intro (by omega) ?_|(apply Sq.o;constructor))|simp (disch:=omega) only [lE,seval,ti33])
 refine keepw_i [] false (by simp) (by simp) rfl (r':=(scanQ t).av) ?_ ⟨rfl,by simp only [lP,seval]⟩
 rw [q_av]
 simp only [lP,seval]
 exact WeakL.agg (.cons (.refl _) (.cons (.refl _) (.cons weak_nil (.cons (.refl _) (.cons (.refl _) (.cons (.refl _) (.cons (.refl _) (.cons (.refl _) (.cons weak_nil (.cons weak_nil (.cons weak_nil (.cons weak_nil (.cons weak_nil (.refl _))))))))))))))
theorem filt_subs (e:EX) (q:QY):(filtQ e q).subs.map QY.av=[.agg q.cs]:=by simp only [filtQ,QY.subs,List.map_cons,List.map_nil,q_av]
theorem join_subs (e:EX) (p q:QY):(joinQ e p q).subs.map QY.av=[.agg p.cs,.agg q.cs]:=by simp only [joinQ,QY.subs,List.map_cons,List.map_nil,q_av]
theorem c14 (e:EX) (q:QY):ACalls E.P 14 [e.av,q.av] [] (fun r H=>r=(filtQ e q).av∧H=[]):=by
 refine ok14.acalls hE hm (by simp) fun N hN=>?_
 unfold mc14 z0 pK pR pS
 simp only [lA,seval,av_fs,q_av]
 repeat' (first|(with_reducible apply St.o;constructor) <;> intro _|((with_reducible refine mkl_view ?_ ?_ ?_);(focus decide);(focus rfl))|(with_reducible first|refine And.intro (by omega) ?_|(apply Sq.o;constructor))|simp (disch:=omega) only [lE,seval,ti33,fillE,setAll])
 refine keepw_i [] false (by simp) (by simp) rfl (r':=(filtQ e q).av) ?_ ⟨by rw [q_av],by simp only [lP,seval]⟩
 rw [q_av]
 simp only [lP,seval,QY.cs,filt_subs]
 exact WeakL.agg (.cons (.refl _) (.cons (.refl _) (.cons (.refl _) (.cons (.refl _) (.cons (.refl _) (.cons (.refl _) (.cons (.refl _) (.cons (.refl _) (.cons (.refl _) (.cons weak_nil (.cons weak_nil (.cons weak_nil (.cons weak_nil (.refl _))))))))))))))
theorem c21 (e:EX) (p q:QY):ACalls E.P 21 [e.av,p.av,q.av] [] (fun r H=>r=(joinQ e p q).av∧H=[]):=by
 refine ok21.acalls hE hm (by simp) fun N hN=>?_
 unfold mc21 z0 pK pR pS
 simp only [lA,seval,av_fs,q_av]
 repeat' (first|(with_reducible apply St.o;constructor) <;> intro _|((with_reducible refine mkl_view ?_ ?_ ?_);(focus decide);(focus rfl))|(with_reducible first|refine And.intro (by omega) ?_|(apply Sq.o;constructor))|simp (disch:=omega) only [lE,seval,ti33,fillE,setAll])
 refine keepw_i [] false (by simp) (by simp) rfl (r':=(joinQ e p q).av) ?_ ⟨by rw [q_av],by simp only [lP,seval]⟩
 rw [q_av]
 simp only [lP,seval,QY.cs,join_subs]
 exact WeakL.agg (.cons (.refl _) (.cons (.refl _) (.cons (.refl _) (.cons (.refl _) (.cons (.refl _) (.cons (.refl _) (.cons (.refl _) (.cons (.refl _) (.cons (.refl _) (.cons weak_nil (.cons weak_nil (.cons weak_nil (.cons weak_nil (.refl _))))))))))))))
theorem c25 (l m:List Int):ACalls E.P 25 [.view 1 (l.map (AV.int .i64)),.view 1 (m.map (AV.int .i64))] [] (fun r H=>r=.bool (eqC l m)∧H=[]):=by
 have hmax:=maxLen_eq
 refine ok25.acalls hE hm (by simp) fun N hN=>?_
 unfold mc25 q25_0 pM pG pI pB pA oM oL oZ oQ
 simp only [lA,seval]
 repeat' (first|(with_reducible first|(apply St.o;constructor)<;>intro _|refine And.intro (by omega) ?_|(apply Sq.o;constructor))|simp (disch:=omega) only [lE,seval,List.length_map])
 · rename_i h
   exact keep_b (eqC_false.2 fun h2=>by subst h2;omega).symm
 · rename_i h
   have hlen:l.length=m.length:=by omega
   refine loop_i (fun i:Nat=>i≤l.length∧∀ j,j<i→l.getD j default=m.getD j default) (fun i=>⟨[(0,.view 1 (l.map (AV.int .i64))),(1,.view 1 (m.map (AV.int .i64))),(5,.int .i64 i)],[]⟩) (fun i=>l.length - i) 0 ⟨by omega,by simp⟩ (ent [] false) ?_
   rintro i ⟨hi,ha⟩
   by_cases hin:i<l.length
   · have hlt:((i:Int)<(l.length:Int)):=by omega
     repeat' (first|(with_reducible first|(apply St.o;constructor)<;>intro _|refine And.intro (by omega) ?_|(apply Sq.o;constructor))|with_reducible refine any_i [] ?_|simp (disch:=omega) only [lE,seval,IdxR_ints,Int.toNat_natCast,List.length_map,hlt,decide_true])
     · rename_i h2
       have h3:¬ (l.getD i default=m.getD i default):=fun h=>by first | exact h2 h | (simp at h2 h;exact h2 h)
       exact keep_b (eqC_false.2 fun h4=>by subst h4;exact h3 rfl).symm
     · rename_i h2
       have h3:l.getD i default=m.getD i default:=by first | exact h2 | simpa using h2
       refine back_i (i+1) ⟨by omega,fun j hj=>?_⟩ (by omega) (ent [] false)
       by_cases hji:j<i
       · exact ha j hji
       · obtain rfl:j=i:=by omega
         exact h3
   · obtain rfl:i=l.length:=by omega
     repeat' (first|(with_reducible first|(apply St.o;constructor)<;>intro _|refine And.intro (by omega) ?_|(apply Sq.o;constructor))|simp (disch:=omega) only [lE,seval,List.length_map,Int.lt_irrefl,decide_false])
     exact keep_b (eqC_iff.2 (list_eqG hlen ha)).symm
end Go.Proofs.Try
