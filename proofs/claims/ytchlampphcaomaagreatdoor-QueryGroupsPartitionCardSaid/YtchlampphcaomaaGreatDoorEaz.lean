/-
 A part of the proof: see the text of the law.
-/
import Derived.Test.YtchlampphcaomaaGreatDoorPaf
import Derived.Test.YtchlampphcaomaaGreatDoorAlphaK
set_option linter.unusedSimpArgs false
set_option linter.unusedVariables false
namespace Go.Proofs.Try
open Go.Proofs.Tryz
open Go.Al
set_option maxRecDepth 100000
abbrev q13_0:List AV:=[.str ⟨#[]⟩,.int .i64 0,.bool false]
abbrev q13_1:AV:=.agg z2
abbrev q13_2:MI:=.e (.call (some 30) 41 [.c (.int .i64 1)])
abbrev q13_3:MI:=.e (.call (some 31) 41 [.c (.int .i64 7)])
abbrev q13_4:MI:=.e (.mkl 26 25 3 2 q13_1 [(0,.t 24),(1,.t 25)])
abbrev q13_5:MI:=.e (.mkl 29 25 3 2 q13_1 [(0,.t 27),(1,.t 28)])
abbrev q13_6:MI:=.e (.mkl 32 25 3 2 q13_1 [(0,.t 30),(1,.t 31)])
abbrev q13_7:AT:=.base (.alt none (.e (.mkl 33 69 1 3 (.raw (.slice none 0 0)) [(0,.t 26),(1,.t 29),(2,.t 32)])) (.base (.pure0 none (.v (.build 34 z1 [(0,4,.t 23),(4,1,.t 33)])) (.alt none (.e (.mkl 35 59 5 1 (.agg z1) [(0,.t 34)])) (.base (.pure0 none (oM 2 35) .done)) .stop))) .stop)
abbrev q13_8:AT:=.base (.alt none q13_6 q13_7 .stop)
abbrev q13_9:AT:=.base (.alt none q13_3 q13_8 .stop)
abbrev q13_10:AT:=.base (.alt none q13_5 q13_8 (.alt none q13_6 (.base (.alt none q13_5 q13_7 .stop)) .stop))
abbrev q13_11:AT:=.base (.alt none q13_4 q13_8 (.alt none q13_6 (.base (.alt none q13_4 q13_7 .stop)) .stop))
abbrev q13_12:AT:=.base (.alt none q13_5 q13_9 (.alt none q13_3 q13_10 .stop))
abbrev q13_13:AT:=.base (.alt none q13_4 q13_9 (.alt none q13_3 q13_11 .stop))
abbrev q13_14:AT:=.base (.alt none q13_5 (.base (.alt none q13_2 q13_9 .stop)) (.alt none q13_2 q13_12 .stop))
def mc13:MC:=(.seq (.ops [pZ 0]) (.seq (.ops [(none,.v (.build 19 q13_0 [(0,1,.c (.str ⟨#[97]⟩)),(1,1,.c (.int .i64 1)),(2,1,.c (.bool true))])),(none,.v (.build 20 q13_0 [(0,1,.c (.str ⟨#[98]⟩)),(1,1,.c (.int .i64 1)),(2,1,.c (.bool true))])),(none,.e (.mkl 21 88 3 2 (.agg q13_0) [(0,.t 19),(1,.t 20)])),(none,.v (.build 22 z5 [(0,1,.c (.str ⟨#[116]⟩)),(1,1,.t 21)])),(none,.e (.alloc 1 z5)),pS 4 1 22]) (.seq (.any false (.pure0 none (oR 23 4 1) (.pure0 none (.v (.build 28 z2 [])) (.alt none (.e (.call (some 24) 41 [.c (.int .i64 1)])) (.base (.alt none (.e (.call (some 25) 41 [.c (.int .i64 5)])) (.base (.alt none q13_4 (.base (.alt none (.e (.call (some 27) 41 [.c (.int .i64 2)])) q13_14 .stop)) (.alt none (.e (.call (some 27) 41 [.c (.int .i64 2)])) (.base (.alt none q13_4 q13_14 (.alt none q13_5 (.base (.alt none q13_4 (.base (.alt none q13_2 q13_9 .stop)) (.alt none q13_2 q13_13 .stop))) (.alt none q13_2 (.base (.alt none q13_4 q13_12 (.alt none q13_5 q13_13 (.alt none q13_3 (.base (.alt none q13_4 q13_10 (.alt none q13_5 q13_11 (.alt none q13_6 (.base (.alt none q13_4 (.base (.alt none q13_5 q13_7 .stop)) (.alt none q13_5 (.base (.alt none q13_4 q13_7 .stop)) .stop))) .stop)))) .stop)))) .stop)))) .stop))) .stop)) .stop)))) (.seq (.ops [pM 37 2,(none,.e (.call (some 38) 42 [.c (.int .i64 0)])),(none,.e (.call (some 39) 43 [.c (.int .i64 1)])),(none,.e (.call (some 40) 16 [.c (.int .i64 6),.t 38,.t 39])),(none,.e (.call (some 41) 34 [.c (.str ⟨#[116]⟩)])),pW 42 14 40 41,pW 43 32 37 42,pM 36 43,pX 44 0 36,pX 45 1 36,pM 3 44,pM 4 45]) (.seq (.ops [(none,.e (.mkl 46 3 1 1 (.int .i64 0) [(0,.c (.int .i64 0))])),(none,.v (.build 47 z4 [(0,1,.c (.int .i64 1))])),(none,.e (.call (some 48) 42 [.c (.int .i64 1)])),(none,.v (.build 49 z4 [(0,1,.c (.int .i64 2)),(1,6,.t 48)])),(none,.e (.mkl 50 79 7 2 (.agg z4) [(0,.t 47),(1,.t 49)])),(none,.e (.call (some 51) 34 [.c (.str ⟨#[116]⟩)])),(none,.e (.mkl 52 33 14 1 (.agg z0) [(0,.t 51)])),(none,.v (.build 53 z0 [(0,1,.c (.int .i64 5)),(10,1,.t 46),(11,1,.t 50),(2,1,.t 52)])),(none,.e (.alloc 5 z0)),pS 14 5 53]) (.seq (.ops [pM 55 2,pR 56 14 5,pW 57 32 55 56,pM 54 57,pX 58 0 54,pX 59 1 54,pM 6 58,pM 7 59]) (.seq (.ops [pM 61 2,(none,.v (.build 62 [.int .i64 0,.bool false] [(0,1,.c (.int .i64 0)),(1,1,.c (.bool true))])),(none,.e (.mkl 63 83 2 1 (.agg [.int .i64 0,.bool false]) [(0,.t 62)])),(none,.e (.call (some 64) 34 [.c (.str ⟨#[116]⟩)])),(none,.e (.mkl 65 33 14 1 (.agg z0) [(0,.t 64)])),(none,.v (.build 66 z0 [(0,1,.c (.int .i64 6)),(12,1,.t 63),(2,1,.t 65)])),pW 67 32 61 66,pM 60 67,pX 68 0 60,pX 69 1 60,pM 8 68,pM 9 69]) (.seq (.ops [pM 71 2,(none,.e (.call (some 72) 42 [.c (.int .i64 0)])),(none,.e (.call (some 73) 42 [.c (.int .i64 2)])),(none,.e (.call (some 74) 16 [.c (.int .i64 8),.t 72,.t 73])),(none,.e (.call (some 75) 34 [.c (.str ⟨#[116]⟩)])),(none,.e (.call (some 76) 34 [.c (.str ⟨#[116]⟩)])),(none,.e (.call (some 77) 21 [.t 74,.t 75,.t 76])),pW 78 32 71 77,pM 70 78,pX 79 0 70,pX 80 1 70,pM 10 79,pM 11 80]) (.seq (.ops [pM 82 2,(none,.v (.build 83 z4 [(0,1,.c (.int .i64 1))])),(none,.e (.mkl 84 79 7 1 (.agg z4) [(0,.t 83)])),(none,.e (.call (some 85) 42 [.c (.int .i64 0)])),(none,.e (.call (some 86) 43 [.c (.int .i64 9)])),(none,.e (.call (some 87) 16 [.c (.int .i64 6),.t 85,.t 86])),(none,.e (.call (some 88) 34 [.c (.str ⟨#[116]⟩)])),pW 89 14 87 88,(none,.e (.mkl 90 33 14 1 (.agg z0) [(0,.t 89)])),(none,.v (.build 91 z0 [(0,1,.c (.int .i64 5)),(11,1,.t 84),(2,1,.t 90)])),pW 92 32 82 91,pM 81 92,pX 93 0 81,pX 94 1 81,pM 12 93,pM 13 94]) (.seq (.ops [pR 96 4 1,(none,.e (.mkl 97 56 4 1 (.agg z5) [(0,.t 96)])),pR 98 14 5,pW 99 18 97 98,pM 95 99,pX 100 0 95,pX 101 1 95,pM 14 100,pM 15 101]) (.seq (.ops [pR 103 14 5,(none,.e (.call (some 104) 18 [.c (.raw (.slice none 0 0)),.t 103])),pM 102 104,pX 105 0 102,pX 106 1 102,pM 16 105,pM 17 106]) (.seq (.seq (.ops [pM 107 4,pD 108 107 0,pM 109 108,gF 109 (oM 110 7),gF 109 (oD 111 110 0),pO 112 109 111,pM 113 112,gF 113 (oM 114 9),gF 113 (oD 115 114 0),pO 116 113 115,pM 117 116,gF 117 (oM 118 11),gF 117 (oD 119 118 0),pO 120 117 119,pM 121 120,gF 121 (oM 122 13),gF 121 (oD 123 122 0),pO 124 121 123,pM 125 124,gF 125 (oM 126 15),gF 125 (oD 127 126 0),pO 128 125 127,pM 129 128,gF 129 (oM 130 17),gF 129 (oD 131 130 5),pO 132 129 131]) (.cond 132 (.seq (.ops [pZ 0]) .ret) .skip)) (.seq (.ops [pM 133 3,(none,.e (.call (some 134) 41 [.c (.int .i64 1)])),(none,.e (.call (some 135) 41 [.c (.int .i64 5)])),(none,.e (.mkl 136 25 3 2 q13_1 [(0,.t 134),(1,.t 135)])),(none,.e (.call (some 137) 41 [.c (.int .i64 1)])),(none,.e (.call (some 138) 41 [.c (.int .i64 7)])),(none,.e (.mkl 139 25 3 2 q13_1 [(0,.t 137),(1,.t 138)])),(none,.e (.mkl 140 69 1 2 (.raw (.slice none 0 0)) [(0,.t 136),(1,.t 139)])),pW 141 39 133 140,pM 142 141,gT 142 (oM 143 6),(some (142,true),.e (.call (some 144) 41 [.c (.int .i64 1)])),(some (142,true),.e (.call (some 145) 41 [.c (.int .i64 2)])),(some (142,true),.e (.call (some 146) 41 [.c (.int .i64 12)])),(some (142,true),.e (.mkl 147 25 3 3 q13_1 [(0,.t 144),(1,.t 145),(2,.t 146)])),(some (142,true),.e (.call (some 148) 41 [.c (.int .i64 2)])),(some (142,true),.e (.call (some 149) 41 [.c (.int .i64 1)])),(some (142,true),.v (.build 150 z2 [])),(some (142,true),.e (.mkl 151 25 3 3 q13_1 [(0,.t 148),(1,.t 149),(2,.t 150)])),(some (142,true),.e (.mkl 152 69 1 2 (.raw (.slice none 0 0)) [(0,.t 147),(1,.t 151)])),gT 142 (oW 153 39 143 152),pP 154 142 153,pM 155 154,gT 155 (oM 156 8),(some (155,true),.e (.call (some 157) 41 [.c (.int .i64 2)])),(some (155,true),.v (.build 158 z2 [])),(some (155,true),.e (.mkl 159 25 3 2 q13_1 [(0,.t 157),(1,.t 158)])),(some (155,true),.e (.call (some 160) 41 [.c (.int .i64 1)])),(some (155,true),.e (.call (some 161) 41 [.c (.int .i64 5)])),(some (155,true),.e (.mkl 162 25 3 2 q13_1 [(0,.t 160),(1,.t 161)])),(some (155,true),.e (.call (some 163) 41 [.c (.int .i64 1)])),(some (155,true),.e (.call (some 164) 41 [.c (.int .i64 7)])),(some (155,true),.e (.mkl 165 25 3 2 q13_1 [(0,.t 163),(1,.t 164)])),(some (155,true),.e (.mkl 166 69 1 3 (.raw (.slice none 0 0)) [(0,.t 159),(1,.t 162),(2,.t 165)])),gT 155 (oW 167 39 156 166),pP 168 155 167,pM 18 168]) (.seq (.ops [pM 169 18,pM 170 169,gT 170 (oM 171 10),(some (170,true),.e (.call (some 172) 41 [.c (.int .i64 1)])),(some (170,true),.e (.call (some 173) 41 [.c (.int .i64 5)])),(some (170,true),.e (.call (some 174) 41 [.c (.int .i64 2)])),(some (170,true),.v (.build 175 z2 [])),(some (170,true),.e (.mkl 176 25 3 4 q13_1 [(0,.t 172),(1,.t 173),(2,.t 174),(3,.t 175)])),(some (170,true),.e (.call (some 177) 41 [.c (.int .i64 1)])),(some (170,true),.e (.call (some 178) 41 [.c (.int .i64 7)])),(some (170,true),.e (.call (some 179) 41 [.c (.int .i64 2)])),(some (170,true),.v (.build 180 z2 [])),(some (170,true),.e (.mkl 181 25 3 4 q13_1 [(0,.t 177),(1,.t 178),(2,.t 179),(3,.t 180)])),(some (170,true),.e (.mkl 182 69 1 2 (.raw (.slice none 0 0)) [(0,.t 176),(1,.t 181)])),gT 170 (oW 183 39 171 182),pP 184 170 183,pM 185 184,gT 185 (oM 186 12),(some (185,true),.e (.call (some 187) 41 [.c (.int .i64 0)])),(some (185,true),.e (.mkl 188 25 3 1 q13_1 [(0,.t 187)])),(some (185,true),.e (.mkl 189 69 1 1 (.raw (.slice none 0 0)) [(0,.t 188)])),gT 185 (oW 190 39 186 189),pP 191 185 190,pM 192 191,gT 192 (oM 193 14),(some (192,true),.e (.mkl 194 3 1 3 (.int .i64 0) [(0,.c (.int .i64 1)),(1,.c (.int .i64 1)),(2,.c (.int .i64 1))])),gT 192 (oW 195 25 193 194),pP 196 192 195,pM 0 196]) .ret))))))))))))))
theorem ok13:FnOk E 13 197 [.tmp 0] mc13:=ofk func13
set_option maxRecDepth 20000
set_option maxHeartbeats 64000000
theorem okI_zero:EX.zero.okI:=by simp [EX.zero,EX.okI,EX.okIL,inI]
theorem okI_col (n:Int):(colX n).okI:=by simp [colX,EX.okI,EX.okIL,inI]
theorem okI_val (n:Int) (h:inI n):(valX n).okI:=by simp [valX,EX.okI,EX.okIL,h]
theorem okI_two (op:Int) {a b:EX} (ha:a.okI) (hb:b.okI):(twoX op a b).okI:=by simp [twoX,EX.okI,EX.okIL,inI,ha,hb]
theorem ok_scan (t:ByteArray):(scanQ t).ok:=by rw [ok_eq];simp [scanQ,QY.cond,QY.cols,QY.grp,QY.aggs,QY.subs,EX.okIL,okI_zero]
theorem ok_filt {e:EX} {q:QY} (he:e.okI) (hq:q.ok):(filtQ e q).ok:=by rw [ok_eq];simp [filtQ,QY.cond,QY.cols,QY.grp,QY.aggs,QY.subs,EX.okIL,he,hq]
theorem ok_join {e:EX} {p q:QY} (he:e.okI) (hp:p.ok) (hq:q.ok):(joinQ e p q).ok:=by rw [ok_eq];simp [joinQ,QY.cond,QY.cols,QY.grp,QY.aggs,QY.subs,EX.okIL,he,hp,hq]
theorem ok_1:exQ1.ok:=ok_filt (okI_two _ (okI_col _) (okI_val _ (by simp [inI]))) (ok_scan _)
theorem ok_g:exQg.ok:=by rw [ok_eq];simp [exQg,QY.cond,QY.cols,QY.grp,QY.aggs,QY.subs,EX.okIL,okI_zero,okI_col,ok_scan]
theorem ok_o:exQo.ok:=by rw [ok_eq];simp [exQo,QY.cond,QY.cols,QY.grp,QY.aggs,QY.subs,EX.okIL,okI_zero,ok_scan]
theorem ok_j:exQj.ok:=ok_join (okI_two _ (okI_col _) (okI_col _)) (ok_scan _) (ok_scan _)
theorem ok_n:exQn.ok:=by
 have:(filtQ (twoX 6 (colX 0) (valX 9)) (scanQ sT)).ok:=ok_filt (okI_two _ (okI_col _) (okI_val _ (by simp [inI]))) (ok_scan _)
 rw [ok_eq];simp [exQn,QY.cond,QY.cols,QY.grp,QY.aggs,QY.subs,EX.okIL,okI_zero,this]
def EX.ls (e:EX):List AV:=e.fs
def QY.ls (q:QY):List AV:=q.cs
def VL.ls (v:VL):List AV:=v.cs
theorem pa_els {H:List AObj} {l:List Nat} {bor:Bool} {n:Nat} (e:EX):e.ls.map (pa H l bor (n+1))=e.ls:=by simp [EX.ls,EX.fs,pa_int,pa_str,pa_view]
theorem pa_qls {H:List AObj} {l:List Nat} {bor:Bool} {n:Nat} (q:QY):q.ls.map (pa H l bor (n+1))=q.ls:=by simp [QY.ls,QY.cs,pa_int,pa_str,pa_view]
theorem renL_els {ρ:Nat→Nat} (e:EX):renL ρ e.ls=e.ls:=by simp [EX.ls,EX.fs,ren,renL]
theorem renL_qls {ρ:Nat→Nat} (q:QY):renL ρ q.ls=q.ls:=by simp [QY.ls,QY.cs,ren,renL]
theorem renL_vlsx {ρ:Nat→Nat} (v:VL):renL ρ v.ls=v.ls:=by simp [VL.ls,VL.cs,ren,renL]
theorem els_len (e:EX):e.ls.length=6:=rfl
theorem qls_len (q:QY):q.ls.length=14:=rfl
theorem vls_len (v:VL):v.ls.length=3:=rfl
theorem spine13:∀ fn,E.P.funcs[13]?=some fn→fn.body.map (Go.Al.spine 14)=some true:=fun fn h=>by
 have e:=func13.symm.trans h
 injection e with e
 subst e
 rfl
abbrev nilA:AV:=.raw (.slice none 0 0)
abbrev exTw:List AV:=[.str ⟨#[116]⟩,.view 3 [.agg [.str ⟨#[97]⟩,.int .i64 1,.bool true],.agg [.str ⟨#[98]⟩,.int .i64 1,.bool true]],nilA,nilA]
abbrev exDV:AV:=.view 5 (exD.map DA.av)
abbrev exDw:AV:=.view 5 [.agg (exTw++[.view 1 [.view 3 [.agg (numV 1).ls,.agg (numV 5).ls],.view 3 [.agg (numV 2).ls,.agg [.int .i64 0,.int .i64 0,.str ⟨#[]⟩]],.view 3 [.agg (numV 1).ls,.agg (numV 7).ls]]])]
def exL1:Rws:=[[numV 1,numV 5],[numV 1,numV 7]]
def exLg:Rws:=[[numV 1,numV 2,numV 12],[numV 2,numV 1,VL.null]]
def exLo:Rws:=[[numV 2,VL.null],[numV 1,numV 5],[numV 1,numV 7]]
def exLj:Rws:=[[numV 1,numV 5,numV 2,VL.null],[numV 1,numV 7,numV 2,VL.null]]
def exLn:Rws:=[[numV 0]]
abbrev exQgw:List AV:=[.int .i64 5,.str ⟨#[]⟩,.view 14 [.agg (scanQ sT).ls],.int .i64 0,.int .i64 0,.int .i64 0,.int .i64 0,.str ⟨#[]⟩,nilA,nilA,.view 1 [.int .i64 0],.view 7 [.agg [.int .i64 1,.int .i64 0,.int .i64 0,.int .i64 0,.int .i64 0,.str ⟨#[]⟩,nilA],.agg (.int .i64 2::(colX 1).ls)],nilA,.int .i64 0]
abbrev exQow:List AV:=[.int .i64 6,.str ⟨#[]⟩,.view 14 [.agg (scanQ sT).ls],.int .i64 0,.int .i64 0,.int .i64 0,.int .i64 0,.str ⟨#[]⟩,nilA,nilA,nilA,nilA,.view 2 [.agg [.int .i64 0,.bool true]],.int .i64 0]
abbrev exQnw:List AV:=[.int .i64 5,.str ⟨#[]⟩,.view 14 [.agg (filtQ (twoX 6 (colX 0) (valX 9)) (scanQ sT)).ls],.int .i64 0,.int .i64 0,.int .i64 0,.int .i64 0,.str ⟨#[]⟩,nilA,nilA,nilA,.view 7 [.agg [.int .i64 1,.int .i64 0,.int .i64 0,.int .i64 0,.int .i64 0,.str ⟨#[]⟩,nilA]],nilA,.int .i64 0]
theorem weak_ag0:Weak (.agg [.int .i64 1,.int .i64 0,.int .i64 0,.int .i64 0,.int .i64 0,.str ⟨#[]⟩,nilA]) (AG.av ⟨1,EX.zero⟩):=WeakL.agg (.cons (.refl _) (.cons (.refl _) (.cons (.refl _) (.cons (.refl _) (.cons (.refl _) (.cons (.refl _) (.cons weak_nil (.refl _))))))))
theorem exQgw_weak:WeakL exQgw exQg.cs :=
 .cons (.refl _) (.cons (.refl _) (.cons (.refl _) (.cons (.refl _) (.cons (.refl _) (.cons (.refl _) (.cons (.refl _) (.cons (.refl _) (.cons weak_nil (.cons weak_nil (.cons (.refl _) (.cons (WeakL.view (.cons weak_ag0 (.refl _))) (.cons weak_nil (.refl _)))))))))))))
theorem exQow_weak:WeakL exQow exQo.cs :=
 .cons (.refl _) (.cons (.refl _) (.cons (.refl _) (.cons (.refl _) (.cons (.refl _) (.cons (.refl _) (.cons (.refl _) (.cons (.refl _) (.cons weak_nil (.cons weak_nil (.cons weak_nil (.cons weak_nil (.refl _))))))))))))
theorem exQnw_weak:WeakL exQnw exQn.cs :=
 .cons (.refl _) (.cons (.refl _) (.cons (.refl _) (.cons (.refl _) (.cons (.refl _) (.cons (.refl _) (.cons (.refl _) (.cons (.refl _) (.cons weak_nil (.cons weak_nil (.cons weak_nil (.cons (WeakL.view (.cons weak_ag0 (.refl _))) (.cons weak_nil (.refl _)))))))))))))
theorem exD_weak:Weak exDw exDV:=WeakL.view (.cons (WeakL.agg (.cons (.refl _) (.cons (.refl _) (.cons weak_nil (.cons weak_nil (.refl _)))))) (.refl _))
theorem c13:ACalls E.P 13 [] [] (fun r H=>r=.bool true∧H=[]):=by
 have k41:∀ n:Int,ACalls E.P 41 [.int .i64 n] [] (fun r H=>r=.agg (numV n).ls∧H=[]):=fun n=>c41 n
 have k42:∀ n:Int,ACalls E.P 42 [.int .i64 n] [] (fun r H=>r=.agg (colX n).ls∧H=[]):=fun n=>c42 n
 have k43:∀ n:Int,ACalls E.P 43 [.int .i64 n] [] (fun r H=>r=.agg (valX n).ls∧H=[]):=fun n=>c43 n
 have k16:∀ op (a b:EX),ACalls E.P 16 [.int .i64 op,.agg a.ls,.agg b.ls] [] (fun r H=>r=.agg (twoX op a b).ls∧H=[]):=fun op a b=>by
  have:=c16 op a b
  simp only [av_fs] at this
  exact this
 have k34:ACalls E.P 34 [.str ⟨#[116]⟩] [] (fun r H=>r=.agg (scanQ sT).ls∧H=[]):=by
  have:=c34 sT
  rw [q_av] at this
  exact this
 have k14:∀ (e:EX) (q:QY),ACalls E.P 14 [.agg e.ls,.agg q.ls] [] (fun r H=>r=.agg (filtQ e q).ls∧H=[]):=fun e q=>by
  have:=c14 e q
  simp only [av_fs,q_av] at this
  exact this
 have k21:∀ (e:EX) (p q:QY),ACalls E.P 21 [.agg e.ls,.agg p.ls,.agg q.ls] [] (fun r H=>r=.agg (joinQ e p q).ls∧H=[]):=fun e p q=>by
  have:=c21 e p q
  simp only [av_fs,q_av] at this
  exact this
 refine ok13.acallsF hE hm (by simp) 14 spine13 fun N hN=>?_
 unfold mc13 q13_14 q13_13 q13_12 q13_11 q13_10 q13_9 q13_8 q13_7 q13_6 q13_5 q13_4 q13_3 q13_2 q13_1 q13_0 z0 z1 z2 z4 z5 pZ pS pM pW pX pR pD pO pP gF gT oM oR oD oW
 refine mf_i ?_
 simp only [lA,seval]
 refine mf_go (mf_i ?_)
 repeat' (first|(with_reducible apply St.o;constructor) <;> intro _|((with_reducible refine mkl_view ?_ ?_ ?_);(focus decide);(focus rfl))|(with_reducible first|refine And.intro (by omega) ?_|(apply Sq.o;constructor))|simp (disch:=omega) only [lE,seval,fillE,setAll])
 refine mf_go (mf_cut [(1,.op 0 0),(2,exDV)] [.box exTw] ?_ ?_)
 · skip
   repeat' (first|(with_reducible apply St.o;constructor) <;> intro _|((with_reducible refine mkl_view ?_ ?_ ?_);(focus decide);(focus rfl))|(with_reducible first|refine And.intro (by omega) ?_|(apply Sq.o;constructor))|((with_reducible apply Sc.o false;constructor);simp only [lP,seval,fillE,setAll,vls_len,renL_vlsx];refine ⟨_,k41 _,?_⟩;rintro _ _ ⟨rfl,rfl⟩;simp only [lA,lP,seval,fillE,setAll,vls_len,renL_vlsx])|simp (disch:=omega) only [lE,seval,fillE,setAll,vls_len,renL_vlsx])
   all_goals
    refine Ent.trans (s':=⟨[(1,.op 0 0),(2,exDw)],[.box exTw]⟩) (ent [0] false) ?_
    exact Ent.trans (Ent.weak 2 (y:=exDV) rfl exD_weak) (ent [0] false)
 have hm1:ACalls E.P 32 [exDV,.agg exQ1.ls] [] (fun r H=>r=.tup [rwsV exL1,.int .i64 0]∧H=[]):=by
  have:=c32 exD exD_ok exQ1 ok_1
  rw [ex_m1,q_av] at this
  exact this
 have hmj:ACalls E.P 32 [exDV,.agg exQj.ls] [] (fun r H=>r=.tup [rwsV exLj,.int .i64 0]∧H=[]):=by
  have:=c32 exD exD_ok exQj ok_j
  rw [ex_mj,q_av] at this
  exact this
 refine mf_cut [(1,.op 0 0),(2,exDV),(3,rwsV exL1),(4,.int .i64 0)] [.box exTw] ?_ ?_
 · simp only [lA,seval]
   repeat' (first|(with_reducible apply St.o;constructor) <;> intro _|((with_reducible refine mkl_view ?_ ?_ ?_);(focus decide);(focus rfl))|(with_reducible first|refine And.intro (by omega) ?_|(apply Sq.o;constructor))|((with_reducible apply Sc.o false;constructor);simp only [lP,seval,pa_els,pa_qls,renL_els,renL_qls];(first|refine ⟨_,k42 _,?_⟩|refine ⟨_,k43 _,?_⟩|refine ⟨_,k16 _ _ _,?_⟩|refine ⟨_,k34,?_⟩|refine ⟨_,k14 _ _,?_⟩|refine ⟨_,hm1,?_⟩);rintro _ _ ⟨rfl,rfl⟩;simp only [lA,lP,seval,pa_els,pa_qls,renL_els,renL_qls])|simp (disch:=omega) only [lE,seval,pa_els,pa_qls,renL_els,renL_qls])
   exact (ent [0] false)
 refine mf_cut [(1,.op 0 0),(2,exDV),(3,rwsV exL1),(4,.int .i64 0),(5,.op 1 0)] [.box exTw,.box exQgw] ?_ ?_
 · repeat' (first|(with_reducible apply St.o;constructor) <;> intro _|((with_reducible refine mkl_view ?_ ?_ ?_);(focus decide);(focus rfl))|(with_reducible first|refine And.intro (by omega) ?_|(apply Sq.o;constructor))|((with_reducible apply Sc.o false;constructor);simp only [lP,seval,fillE,setAll,pa_els,pa_qls,renL_els,renL_qls,els_len,qls_len,vls_len];(first|refine ⟨_,k42 _,?_⟩|refine ⟨_,k34,?_⟩);rintro _ _ ⟨rfl,rfl⟩;simp only [lA,lP,seval,fillE,setAll,pa_els,pa_qls,renL_els,renL_qls,els_len,qls_len,vls_len])|simp (disch:=omega) only [lE,seval,fillE,setAll,pa_els,pa_qls,renL_els,renL_qls,els_len,qls_len,vls_len])
   try refine And.intro rfl ?_
   exact (ent [0,1] false)
 have hmg:ACalls E.P 32 [exDV,.agg exQgw] [] (fun r H=>r=.tup [rwsV exLg,.int .i64 0]∧H=[]):=by
  have:=c32 exD exD_ok exQg ok_g
  rw [ex_mg,q_av] at this
  exact ACalls.weakL (.cons (.refl _) (.cons (WeakL.agg exQgw_weak) (.refl _))) this
 have hmo:ACalls E.P 32 [exDV,.agg exQow] [] (fun r H=>r=.tup [rwsV exLo,.int .i64 0]∧H=[]):=by
  have:=c32 exD exD_ok exQo ok_o
  rw [ex_mo,q_av] at this
  exact ACalls.weakL (.cons (.refl _) (.cons (WeakL.agg exQow_weak) (.refl _))) this
 have hmn:ACalls E.P 32 [exDV,.agg exQnw] [] (fun r H=>r=.tup [rwsV exLn,.int .i64 0]∧H=[]):=by
  have:=c32 exD exD_ok exQn ok_n
  rw [ex_mn,q_av] at this
  exact ACalls.weakL (.cons (.refl _) (.cons (WeakL.agg exQnw_weak) (.refl _))) this
 have hsg:ACalls E.P 18 [.view 4 [.agg exTw],.agg exQgw] [] (fun r H=>r=.tup [.view 1 [.int .i64 1,.int .i64 1,.int .i64 1],.int .i64 0]∧H=[]):=by
  have:=c18 [exT] (fun t ht=>by rw [List.mem_singleton.1 ht];decide) exQg ok_g
  rw [ex_sg,q_av] at this
  exact ACalls.weakL (.cons (WeakL.view (.cons (WeakL.agg (.cons (.refl _) (.cons (.refl _) (.cons weak_nil (.cons weak_nil (.refl _)))))) (.refl _))) (.cons (WeakL.agg exQgw_weak) (.refl _))) this
 have hsz:ACalls E.P 18 [nilA,.agg exQgw] [] (fun r H=>r=.tup [.view 1 [],.int .i64 5]∧H=[]):=by
  have:=c18 [] (fun t ht=>by simp at ht) exQg ok_g
  rw [ex_sz,q_av] at this
  exact ACalls.weakL (.cons weak_nil (.cons (WeakL.agg exQgw_weak) (.refl _))) this
 have k39:∀ l:Rws,ACalls E.P 39 [rwsV l,rwsV l] [] (fun r H=>r=.bool true∧H=[]):=fun l=>by
  have:=c39 l l
  rwa [eqC_self] at this
 have k39a:ACalls E.P 39 [rwsV exL1,.view 1 [.view 3 [.agg (numV 1).ls,.agg (numV 5).ls],.view 3 [.agg (numV 1).ls,.agg (numV 7).ls]]] [] (fun r H=>r=.bool true∧H=[]):=k39 exL1
 have k39b:ACalls E.P 39 [rwsV exLg,.view 1 [.view 3 [.agg (numV 1).ls,.agg (numV 2).ls,.agg (numV 12).ls],.view 3 [.agg (numV 2).ls,.agg (numV 1).ls,.agg [.int .i64 0,.int .i64 0,.str ⟨#[]⟩]]]] [] (fun r H=>r=.bool true∧H=[]):=k39 exLg
 have k39c:ACalls E.P 39 [rwsV exLo,.view 1 [.view 3 [.agg (numV 2).ls,.agg [.int .i64 0,.int .i64 0,.str ⟨#[]⟩]],.view 3 [.agg (numV 1).ls,.agg (numV 5).ls],.view 3 [.agg (numV 1).ls,.agg (numV 7).ls]]] [] (fun r H=>r=.bool true∧H=[]):=k39 exLo
 have k39d:ACalls E.P 39 [rwsV exLj,.view 1 [.view 3 [.agg (numV 1).ls,.agg (numV 5).ls,.agg (numV 2).ls,.agg [.int .i64 0,.int .i64 0,.str ⟨#[]⟩]],.view 3 [.agg (numV 1).ls,.agg (numV 7).ls,.agg (numV 2).ls,.agg [.int .i64 0,.int .i64 0,.str ⟨#[]⟩]]]] [] (fun r H=>r=.bool true∧H=[]):=k39 exLj
 have k39e:ACalls E.P 39 [rwsV exLn,.view 1 [.view 3 [.agg (numV 0).ls]]] [] (fun r H=>r=.bool true∧H=[]):=k39 exLn
 have k25:ACalls E.P 25 [.view 1 [.int .i64 1,.int .i64 1,.int .i64 1],.view 1 [.int .i64 1,.int .i64 1,.int .i64 1]] [] (fun r H=>r=.bool true∧H=[]):=by
  have:=c25 [1,1,1] [1,1,1]
  rwa [eqC_self] at this
 have rv:∀ l:Rws,(.view 1 (l.map rowV):AV)=rwsV l:=fun _=>rfl
 clear k39
 refine mf_cut [(1,.op 0 0),(2,exDV),(3,rwsV exL1),(4,.int .i64 0),(5,.op 1 0),(6,rwsV exLg),(7,.int .i64 0)] [.box exTw,.box exQgw] ?_ ?_
 · repeat' (first|(with_reducible apply St.o;constructor) <;> intro _|((with_reducible refine mkl_view ?_ ?_ ?_);(focus decide);(focus rfl))|(with_reducible first|refine And.intro (by omega) ?_|(apply Sq.o;constructor))|((with_reducible apply Sc.o false;constructor);simp only [lP,seval,fillE,setAll];refine ⟨_,hmg,?_⟩;rintro _ _ ⟨rfl,rfl⟩;simp only [lA,lP,seval,fillE,setAll])|simp (disch:=omega) only [lE,seval,fillE,setAll])
   try refine And.intro rfl ?_
   exact (ent [0,1] false)
 refine mf_cut [(1,.op 0 0),(3,rwsV exL1),(4,.int .i64 0),(5,.op 1 0),(6,rwsV exLg),(7,.int .i64 0),(2,exDV),(8,rwsV exLo),(9,.int .i64 0)] [.box exTw,.box exQgw] ?_ ?_
 · repeat' (first|(with_reducible apply St.o;constructor) <;> intro _|((with_reducible refine mkl_view ?_ ?_ ?_);(focus decide);(focus rfl))|(with_reducible first|refine And.intro (by omega) ?_|(apply Sq.o;constructor))|((with_reducible apply Sc.o false;constructor);simp only [lP,seval,fillE,setAll,pa_els,pa_qls,renL_els,renL_qls,els_len,qls_len,vls_len];(first|refine ⟨_,k34,?_⟩|refine ⟨_,hmo,?_⟩);rintro _ _ ⟨rfl,rfl⟩;simp only [lA,lP,seval,fillE,setAll,pa_els,pa_qls,renL_els,renL_qls,els_len,qls_len,vls_len])|simp (disch:=omega) only [lE,seval,fillE,setAll,pa_els,pa_qls,renL_els,renL_qls,els_len,qls_len,vls_len])
   try refine And.intro rfl ?_
   exact (ent [0,1] false)
 refine mf_cut [(1,.op 0 0),(3,rwsV exL1),(4,.int .i64 0),(5,.op 1 0),(6,rwsV exLg),(7,.int .i64 0),(2,exDV),(8,rwsV exLo),(9,.int .i64 0),(10,rwsV exLj),(11,.int .i64 0)] [.box exTw,.box exQgw] ?_ ?_
 · repeat' (first|(with_reducible apply St.o;constructor) <;> intro _|((with_reducible refine mkl_view ?_ ?_ ?_);(focus decide);(focus rfl))|(with_reducible first|refine And.intro (by omega) ?_|(apply Sq.o;constructor))|((with_reducible apply Sc.o false;constructor);simp only [lP,seval,fillE,setAll,pa_els,pa_qls,renL_els,renL_qls,els_len,qls_len,vls_len];(first|refine ⟨_,k42 _,?_⟩|refine ⟨_,k16 _ _ _,?_⟩|refine ⟨_,k34,?_⟩|refine ⟨_,k21 _ _ _,?_⟩|refine ⟨_,hmj,?_⟩);rintro _ _ ⟨rfl,rfl⟩;simp only [lA,lP,seval,fillE,setAll,pa_els,pa_qls,renL_els,renL_qls,els_len,qls_len,vls_len])|simp (disch:=omega) only [lE,seval,fillE,setAll,pa_els,pa_qls,renL_els,renL_qls,els_len,qls_len,vls_len])
   try refine And.intro rfl ?_
   exact (ent [0,1] false)
 refine mf_cut [(1,.op 0 0),(3,rwsV exL1),(4,.int .i64 0),(5,.op 1 0),(6,rwsV exLg),(7,.int .i64 0),(8,rwsV exLo),(9,.int .i64 0),(10,rwsV exLj),(11,.int .i64 0),(12,rwsV exLn),(13,.int .i64 0)] [.box exTw,.box exQgw] ?_ ?_
 · repeat' (first|(with_reducible apply St.o;constructor) <;> intro _|((with_reducible refine mkl_view ?_ ?_ ?_);(focus decide);(focus rfl))|(with_reducible first|refine And.intro (by omega) ?_|(apply Sq.o;constructor))|((with_reducible apply Sc.o false;constructor);simp only [lP,seval,fillE,setAll,pa_els,pa_qls,renL_els,renL_qls,els_len,qls_len,vls_len];(first|refine ⟨_,k42 _,?_⟩|refine ⟨_,k43 _,?_⟩|refine ⟨_,k16 _ _ _,?_⟩|refine ⟨_,k34,?_⟩|refine ⟨_,k14 _ _,?_⟩|refine ⟨_,hmn,?_⟩);rintro _ _ ⟨rfl,rfl⟩;simp only [lA,lP,seval,fillE,setAll,pa_els,pa_qls,renL_els,renL_qls,els_len,qls_len,vls_len])|simp (disch:=omega) only [lE,seval,fillE,setAll,pa_els,pa_qls,renL_els,renL_qls,els_len,qls_len,vls_len])
   try refine And.intro rfl ?_
   exact (ent [0,1] false)
 refine mf_cut [(1,.op 0 0),(5,.op 1 0),(3,rwsV exL1),(4,.int .i64 0),(6,rwsV exLg),(7,.int .i64 0),(8,rwsV exLo),(9,.int .i64 0),(10,rwsV exLj),(11,.int .i64 0),(12,rwsV exLn),(13,.int .i64 0),(14,.view 1 [.int .i64 1,.int .i64 1,.int .i64 1]),(15,.int .i64 0)] [.box exTw,.box exQgw] ?_ ?_
 · repeat' (first|(with_reducible apply St.o;constructor) <;> intro _|((with_reducible refine mkl_view ?_ ?_ ?_);(focus decide);(focus rfl))|(with_reducible first|refine And.intro (by omega) ?_|(apply Sq.o;constructor))|((with_reducible apply Sc.o false;constructor);simp only [lP,seval,fillE,setAll];refine ⟨_,hsg,?_⟩;rintro _ _ ⟨rfl,rfl⟩;simp only [lA,lP,seval,fillE,setAll])|simp (disch:=omega) only [lE,seval,fillE,setAll])
   try refine And.intro rfl ?_
   exact (ent [0,1] false)
 refine mf_cut [(3,rwsV exL1),(4,.int .i64 0),(6,rwsV exLg),(7,.int .i64 0),(8,rwsV exLo),(9,.int .i64 0),(10,rwsV exLj),(11,.int .i64 0),(12,rwsV exLn),(13,.int .i64 0),(14,.view 1 [.int .i64 1,.int .i64 1,.int .i64 1]),(15,.int .i64 0),(17,.int .i64 5)] [] ?_ ?_
 · repeat' (first|(with_reducible apply St.o;constructor) <;> intro _|((with_reducible refine mkl_view ?_ ?_ ?_);(focus decide);(focus rfl))|(with_reducible first|refine And.intro (by omega) ?_|(apply Sq.o;constructor))|((with_reducible apply Sc.o false;constructor);simp only [lP,seval,fillE,setAll];refine ⟨_,hsz,?_⟩;rintro _ _ ⟨rfl,rfl⟩;simp only [lA,lP,seval,fillE,setAll])|simp (disch:=omega) only [lE,seval,fillE,setAll])
   try refine And.intro rfl ?_
   exact (ent [] false)
 refine mf_cut [(3,rwsV exL1),(6,rwsV exLg),(8,rwsV exLo),(10,rwsV exLj),(12,rwsV exLn),(14,.view 1 [.int .i64 1,.int .i64 1,.int .i64 1])] [] ?_ ?_
 · repeat' (first|(with_reducible apply St.o;constructor) <;> intro _|((with_reducible refine mkl_view ?_ ?_ ?_);(focus decide);(focus rfl))|(with_reducible first|refine And.intro (by omega) ?_|(apply Sq.o;constructor))|simp (disch:=omega) only [lE,seval,Int.reduceEq,decide_true,decide_false])
   try refine And.intro rfl ?_
   exact (ent [] false)
 refine mf_cut [(10,rwsV exLj),(12,rwsV exLn),(14,.view 1 [.int .i64 1,.int .i64 1,.int .i64 1]),(18,.bool true)] [] ?_ ?_
 · repeat' (first|(with_reducible apply St.o;constructor) <;> intro _|((with_reducible refine mkl_view ?_ ?_ ?_);(focus decide);(focus rfl))|(with_reducible first|refine And.intro (by omega) ?_|(apply Sq.o;constructor))|((with_reducible apply Sc.o false;constructor);simp only [lP,seval,fillE,setAll,vls_len,renL_vlsx,rv];(first|refine ⟨_,k41 _,?_⟩|refine ⟨_,k39a,?_⟩|refine ⟨_,k39b,?_⟩|refine ⟨_,k39c,?_⟩);rintro _ _ ⟨rfl,rfl⟩;simp only [lA,lP,seval,fillE,setAll,vls_len,renL_vlsx,rv])|simp (disch:=omega) only [lE,seval,fillE,setAll,vls_len,renL_vlsx,rv])
   try refine And.intro rfl ?_
   exact (ent [] false)
 refine mf_i ?_
 repeat' (first|(with_reducible apply St.o;constructor) <;> intro _|((with_reducible refine mkl_view ?_ ?_ ?_);(focus decide);(focus rfl))|(with_reducible first|refine And.intro (by omega) ?_|(apply Sq.o;constructor))|((with_reducible apply Sc.o false;constructor);simp only [lP,seval,fillE,setAll,vls_len,renL_vlsx,rv];(first|refine ⟨_,k41 _,?_⟩|refine ⟨_,k39d,?_⟩|refine ⟨_,k39e,?_⟩|refine ⟨_,k25,?_⟩);rintro _ _ ⟨rfl,rfl⟩;simp only [lA,lP,seval,fillE,setAll,vls_len,renL_vlsx,rv])|simp (disch:=omega) only [lE,seval,fillE,setAll,vls_len,renL_vlsx,rv])
 all_goals
  refine mf_go (mf_last ?_)
  simp only [lA,seval]
  repeat' (first|(with_reducible first|(apply St.o;constructor)<;>intro _|refine And.intro (by omega) ?_|(apply Sq.o;constructor))|simp (disch:=omega) only [lE,seval])
  exact keep_b rfl
end Go.Proofs.Try
