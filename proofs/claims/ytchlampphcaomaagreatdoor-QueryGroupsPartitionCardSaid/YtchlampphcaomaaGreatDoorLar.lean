/-
 A part of the proof: see the text of the law.
-/
import Derived.Test.YtchlampphcaomaaGreatDoorLal
import Derived.Test.YtchlampphcaomaaGreatDoorPaj
import Derived.Test.YtchlampphcaomaaGreatDoorEauv
set_option linter.unusedSimpArgs false
set_option linter.unusedVariables false
namespace Go.Proofs.Try
open Go.Proofs.Tryz
open Go.Al
set_option maxRecDepth 100000
abbrev q8_0:MI:=oZ 10
def mc8:MC:=(.seq (.ops [pK 6 1,(none,q8_0)]) (.seq (.seq (.ops [pM 33 0,pR 34 14 6,(none,.e (.call (some 35) 9 [.t 33,.t 34,.c (.int .i64 12)])),pN 36 35,pM 37 36,gF 37 (oR 38 14 6),gF 37 (oV 39 10 38),(some (37,false),.v (.bin 40 .gtr false (.t 39) (.c (.int .i64 30)))),pO 41 37 40,pM 42 41,gF 42 (oR 43 14 6),gF 42 (oV 44 11 43),(some (42,false),.v (.bin 45 .gtr false (.t 44) (.c (.int .i64 2)))),pO 46 42 45,pM 47 46,gF 47 (oM 48 2),gF 47 (oG 49 48),(some (47,false),.v (.bin 50 .gtr false (.t 49) (.c (.int .i64 8)))),pO 51 47 50]) (.cond 51 (.seq (.ops [(none,.e (.call (some 52) 13 [])),pM 10 52]) .ret) .skip)) (.seq (.ops [pM 54 0,pR 55 14 6,pW 56 32 54 55,pM 53 56,pX 57 0 53,pX 58 1 53,pM 11 57,pM 12 58]) (.seq (.any false (.pure0 none (oM 60 0) (.pure0 none (oR 62 14 6) (.alt none (oV 61 17 60) (.base (.alt none (oW 63 18 61 62) (.base (.pure0 none (oM 59 63) (.pure0 none (oX 64 0 59) (.pure0 none (oX 65 1 59) (.pure0 none (oM 13 64) (.pure0 none (oM 14 65) .done)))))) .stop)) .stop)))) (.seq (.seq (.ops [pM 66 12,pD 67 66 0,pM 68 67,gF 68 (oM 69 14),gF 68 (oD 70 69 0),pO 71 68 70,pM 72 71,gF 72 (oM 73 13),gF 72 (oG 74 73),gF 72 (oE 75 74 0),pO 76 72 75,pM 77 76,gF 77 (oM 78 13),gF 77 (oG 79 78),(some (77,false),.v (.bin 80 .gtr false (.t 79) (.c (.int .i64 31)))),pO 81 77 80]) (.cond 81 (.seq (.ops [(none,.e (.call (some 82) 13 [])),pM 10 82]) .ret) .skip)) (.seq (.ops [pY 15,pY 16]) (.seq (.ops [pM 83 13,pG 84 83,(none,.e (.mk 85 4 1 1 (.bool false) (.t 84) (.t 84))),pM 17 85]) (.seq (.seq (.ops [pM 86 13,pG 87 86,pI 88 0]) (.block 0 (.loop (.seq (.ops [pB 89 88 87]) (.seq (.cond 89 .skip (.exit 0)) (.seq (.block 1 (.seq (.ops [pM 90 88,pM 18 90]) (.ops [pM 91 16,pM 92 18,(none,.e (.mkl 93 3 1 1 (.int .i64 0) [(0,.t 92)])),(none,.e (.app 94 3 1 8 (.t 91) (.t 93))),pM 16 94]))) (.ops [pA 95 88 1,pM 88 95]))))))) (.seq (.seq (.ops [pM 96 2,pG 97 96,pI 98 0]) (.block 2 (.loop (.seq (.ops [pB 99 98 97]) (.seq (.cond 99 .skip (.exit 2)) (.seq (.block 3 (.seq (.ops [pQ 100 1 96 98,pL 101 100,pM 20 101]) (.seq (.ops [pM 102 20,(none,.v (.bin 103 .geq false (.t 102) (.c (.int .i64 0)))),pM 104 103,gT 104 (oM 105 17),gT 104 (oM 106 20),gT 104 (oM 107 13),gT 104 (oG 108 107),(some (104,true),.p (.rem 109 (.t 106) (.t 108))),gT 104 (oQ 110 1 105 109),gT 104 (oL 111 110),gT 104 (oN 112 111),pP 113 104 112]) (.cond 113 (.seq (.ops [pM 114 17,pM 115 20,pM 116 13,pG 117 116,(none,.p (.rem 118 (.t 115) (.t 117))),pQ 119 1 114 118,(none,.e (.store 1 false (.t 119) (.c (.bool true))))]) (.ops [pM 120 15,pM 121 20,pM 122 13,pG 123 122,(none,.p (.rem 124 (.t 121) (.t 123))),(none,.e (.mkl 125 3 1 1 (.int .i64 0) [(0,.t 124)])),(none,.e (.app 126 3 1 8 (.t 120) (.t 125))),pM 15 126])) .skip)))) (.ops [pA 127 98 1,pM 98 127]))))))) (.seq (.ops [pR 128 14 6,(none,.e (.mkl 129 33 14 1 (.agg z0) [(0,.t 128)])),pM 21 129]) (.seq (.ops [pM 131 0,pM 132 15,(none,.v (.build 133 z4 [(0,1,.c (.int .i64 1))])),(none,.e (.mkl 134 79 7 1 (.agg z4) [(0,.t 133)])),pM 135 21,(none,.v (.build 136 z0 [(0,1,.c (.int .i64 5)),(10,1,.t 132),(11,1,.t 134),(2,1,.t 135)])),pW 137 32 131 136,pM 130 137,pX 138 0 130,pX 139 1 130,pM 22 138,pM 12 139]) (.seq (.ops [pI 23 0]) (.seq (.seq (.ops [pM 140 22,pG 141 140,pI 142 0]) (.block 4 (.loop (.seq (.ops [pB 143 142 141]) (.seq (.cond 143 .skip (.exit 4)) (.seq (.block 5 (.seq (.ops [pM 144 142,pQ 145 1 140 142,pL 146 145,pM 24 144,pM 25 146]) (.seq (.seq (.any false (.pure0 none (oM 147 25) (.pure0 none (oG 148 147) (.pure0 none (oM 149 15) (.pure0 none (oG 150 149) (.pure0 none (oA 151 150 1) (.pure0 none (.v (.bin 152 .neq false (.t 148) (.t 151))) (.pure0 none (oM 153 152) (.pure0 (some (153,false)) (oM 154 24) (.pure0 (some (153,false)) (.v (.bin 155 .gtr false (.t 154) (.c (.int .i64 0)))) (.pure0 (some (153,false)) (oM 156 155) (.pure0 (some (156,true)) (oM 157 22) (.pure0 (some (156,true)) (oM 158 24) (.pure0 (some (156,true)) (.v (.bin 159 .sub false (.t 158) (.c (.int .i64 1)))) (.pure0 (some (156,true)) (oQ 160 1 157 159) (.pure0 (some (156,true)) (oL 161 160) (.pure0 (some (156,true)) (oM 162 15) (.pure0 (some (156,true)) (oG 163 162) (.pure0 (some (156,true)) (.p (.pre 164 3 (.t 161) (some (.t 163)))) (.pure0 (some (156,true)) (oM 165 25) (.pure0 (some (156,true)) (oM 166 15) (.pure0 (some (156,true)) (oG 167 166) (.pure0 (some (156,true)) (.p (.pre 168 3 (.t 165) (some (.t 167)))) (.alt (some (156,true)) (oW 169 36 164 168) (.base (.pure0 (some (156,true)) (.v (.bin 170 .geq false (.t 169) (.c (.int .i64 0)))) (.pure0 (some (153,false)) (oP 171 156 170) (.pure0 none (oO 172 153 171) .done)))) .stop)))))))))))))))))))))))) (.cond 172 (.seq (.ops [(none,q8_0)]) .ret) .skip)) (.ops [pM 173 23,pM 174 25,pM 175 15,pG 176 175,pQ 177 3 174 176,pF 178 1 177,pL 179 178,(none,.v (.bin 180 .add false (.t 173) (.t 179))),pM 23 180])))) (.ops [pA 181 142 1,pM 142 181]))))))) (.seq (.seq (.ops [pM 182 12,pD 183 182 0,pM 184 183,gF 184 (oM 185 23),gF 184 (oM 186 11),gF 184 (oG 187 186),(some (184,false),.v (.bin 188 .neq false (.t 185) (.t 187))),pO 189 184 188]) (.cond 189 (.seq (.ops [(none,q8_0)]) .ret) .skip)) (.seq (.ops [pM 191 0,pM 192 16,pM 193 21,(none,.v (.build 194 z0 [(0,1,.c (.int .i64 5)),(10,1,.t 192),(2,1,.t 193)])),pW 195 32 191 194,pM 190 195,pX 196 0 190,pX 197 1 190,pM 26 196,pM 12 197]) (.seq (.ops [pM 199 0,pM 200 21,(none,.v (.build 201 z0 [(0,1,.c (.int .i64 8)),(2,1,.t 200)])),pW 202 32 199 201,pM 198 202,pX 203 0 198,pX 204 1 198,pM 27 203,pM 14 204]) (.seq (.seq (.ops [pM 205 12,pD 206 205 0,pM 207 206,gF 207 (oM 208 14),gF 207 (oD 209 208 0),pO 210 207 209,pM 211 210,gF 211 (oM 212 26),gF 211 (oM 213 27),gF 211 (oW 214 30 212 213),gF 211 (oN 215 214),pO 216 211 215]) (.cond 216 (.seq (.ops [(none,q8_0)]) .ret) .skip)) (.seq (.ops [(none,.e (.mkl 217 3 1 0 (.int .i64 0) [])),pM 218 16,pM 219 3,pM 220 13,pG 221 220,pW 222 37 219 221,pQ 223 1 218 222,pL 224 223,(none,.e (.mkl 225 3 1 1 (.int .i64 0) [(0,.t 224)])),(none,.e (.app 226 3 1 8 (.t 217) (.t 225))),pM 2 226]) (.seq (.ops [pM 228 0,pM 229 2,(none,.p (.idx 230 1 (.t 229) (.c (.int .i64 0)))),pL 231 230,pM 232 4,(none,.v (.build 233 [.int .i64 0,.bool false] [(0,1,.t 231),(1,1,.t 232)])),(none,.e (.mkl 234 83 2 1 (.agg [.int .i64 0,.bool false]) [(0,.t 233)])),pM 235 21,(none,.v (.build 236 z0 [(0,1,.c (.int .i64 6)),(12,1,.t 234),(2,1,.t 235)])),pW 237 32 228 236,pM 227 237,pX 238 0 227,pX 239 1 227,pM 28 238,pM 12 239]) (.seq (.seq (.ops [pI 29 1]) (.block 6 (.loop (.seq (.seq (.ops [pM 240 29,pM 241 28,pG 242 241,pB 243 240 242]) (.cond 243 .skip (.exit 6))) (.seq (.block 7 (.seq (.any false (.pure0 none (oM 246 28) (.pure0 none (oM 247 29) (.pure0 none (.v (.bin 248 .sub false (.t 247) (.c (.int .i64 1)))) (.pure0 none (oQ 249 1 246 248) (.pure0 none (oL 250 249) (.pure0 none (oM 251 2) (.pure0 none (.p (.idx 252 1 (.t 251) (.c (.int .i64 0)))) (.pure0 none (oL 253 252) (.pure0 none (oQ 254 3 250 253) (.pure0 none (oR 255 3 254) (.pure0 none (oM 256 28) (.pure0 none (oM 257 29) (.pure0 none (oQ 258 1 256 257) (.pure0 none (oL 259 258) (.pure0 none (oM 260 2) (.pure0 none (.p (.idx 261 1 (.t 260) (.c (.int .i64 0)))) (.pure0 none (oL 262 261) (.pure0 none (oQ 263 3 259 262) (.pure0 none (oR 264 3 263) (.alt none (oW 265 38 255 264) (.base (.pure0 none (oM 30 265) .done)) .stop))))))))))))))))))))) (.seq (.ops [pM 266 30,(none,.v (.bin 267 .gtr false (.t 266) (.c (.int .i64 0)))),pM 268 267,gT 268 (oM 269 4),gT 268 (oN 270 269),pP 271 268 270,pM 272 271,gF 272 (oM 273 30),(some (272,false),.v (.bin 274 .lss false (.t 273) (.c (.int .i64 0)))),gF 272 (oM 275 274),gT 275 (oM 276 4),gF 272 (oP 277 275 276),pO 278 272 277]) (.cond 278 (.seq (.ops [(none,q8_0)]) .ret) .skip)))) (.ops [pM 244 29,pA 245 244 1,pM 29 245])))))) (.seq (.seq (.ops [pM 279 12,pD 280 279 0,pM 281 280,gF 281 (oM 282 28),gF 281 (oM 283 11),gF 281 (oW 284 30 282 283),gF 281 (oN 285 284),pO 286 281 285]) (.cond 286 (.seq (.ops [(none,q8_0)]) .ret) .skip)) (.seq (.ops [pM 287 3,(none,.e (.call (some 288) 37 [.t 287,.c (.int .i64 20)])),pM 31 288]) (.seq (.ops [pM 290 0,pM 291 31,pM 292 21,(none,.v (.build 293 z0 [(0,1,.c (.int .i64 7)),(13,1,.t 291),(2,1,.t 292)])),pW 294 32 290 293,pM 289 294,pX 295 0 289,pX 296 1 289,pM 32 295,pM 12 296]) (.seq (.ops [(none,.e (.call (some 297) 13 [])),pM 298 297,gT 298 (oM 299 12),gT 298 (oE 300 299 0),pP 301 298 300,pM 302 301,gT 302 (oM 303 32),gT 302 (oM 304 11),gT 302 (oM 305 31),gT 302 (oM 306 11),gT 302 (oG 307 306),(some (302,true),.v (.min 308 [.t 305,.t 307])),(some (302,true),.p (.pre 309 1 (.t 304) (some (.t 308)))),gT 302 (oW 310 39 303 309),pP 311 302 310,pM 10 311]) .ret))))))))))))))))))))))))
theorem ok8:FnOk E 8 312 [.tmp 10] mc8:=ofk func8
set_option maxRecDepth 20000
set_option maxHeartbeats 64000000
def pickS (m:Int) (g:List Int) (c:Int):List Int:=if 0≤c∧c.tmod m ∉ g then g++[c.tmod m] else g
def pickG (m:Int) (l:List Int):List Int:=l.foldl (pickS m) []
def usedOf (n:Nat) (g:List Int):List Bool:=(List.range n).map fun (j:Nat)=>decide ((j:Int) ∈ g)
theorem pickG_nil (m:Int):pickG m []=[]:=rfl
theorem pickG_step {m:Int} {l:List Int} {i:Nat} (h:i<l.length):pickG m (l.take (i+1))=pickS m (pickG m (l.take i)) (l.getD i 0):=by
 have e:l.getD i 0=l[i]:=by simp [h]
 rw [List.take_succ_eq_append_getElem h,e,pickG,List.foldl_append]
 rfl
theorem pickS_ok {ks g:List Int} {c:Int} (hk:0<ks.length) (h:gOk ks g):gOk ks (pickS ks.length g c):=by
 unfold pickS
 split
 · rename_i h1
   refine ⟨List.nodup_append.2 ⟨h.1,by simp,fun a ha b hb e=>?_⟩,fun x hx=>?_⟩
   · rw [List.mem_singleton.1 hb] at e;subst e;exact h1.2 ha
   · rcases List.mem_append.1 hx with hx | hx
     · exact h.2 x hx
     · rw [List.mem_singleton.1 hx]
       exact ⟨Int.tmod_nonneg _ h1.1,Int.tmod_lt_of_pos _ (by omega)⟩
 · exact h
theorem pickG_ok {ks:List Int} (hk:0<ks.length) (l:List Int):gOk ks (pickG ks.length l):=by
 have:∀ (l g:List Int),gOk ks g→gOk ks (l.foldl (pickS ks.length) g):=by
  intro l
  induction l with
  | nil=>intro g h;exact h
  | cons c l ih=>intro g h;exact ih _ (pickS_ok hk h)
 exact this l [] ⟨List.nodup_nil,by simp⟩
theorem pickG_len (m:Int) (l:List Int):(pickG m l).length≤l.length:=by
 have:∀ (l g:List Int),(l.foldl (pickS m) g).length≤g.length+l.length:=by
  intro l
  induction l with
  | nil=>intro g;simp
  | cons c l ih =>
    intro g
    have h1:=ih (pickS m g c)
    have h2:(pickS m g c).length≤g.length+1:=by unfold pickS;split <;> simp
    simp only [List.foldl_cons,List.length_cons]
    omega
 simpa [pickG] using this l []
theorem usedOf_len (n:Nat) (g:List Int):(usedOf n g).length=n:=by simp [usedOf]
theorem usedOf_get {n:Nat} {g:List Int} {k:Nat} (h:k<n):((usedOf n g).map AV.bool)[k]?=some (.bool (decide ((k:Int) ∈ g))):=by simp [usedOf,h]
theorem usedOf_set {n:Nat} {g:List Int} {k:Nat}:(usedOf n g).set k true=usedOf n (g++[(k:Int)]):=by
 refine List.ext_getElem (by simp [usedOf]) fun j h1 h2=>?_
 rw [List.getElem_set]
 by_cases hjk:k=j
 · subst hjk;simp [usedOf]
 · have:¬ ((j:Int)=(k:Int)):=by omega
   simp [usedOf,hjk,this]
theorem usedOf_nil (n:Nat):usedOf n []=List.replicate n false:=by
 refine List.ext_getElem (by simp [usedOf]) fun j h1 h2=>?_
 simp [usedOf]
theorem IdxR_int1 {P:Program} {m:Nat} {N:FN} {x:Int} {d:Nat} {c:Kn}:IdxR P m N [AV.int .i64 x] 0 d c=rK P m N c d (.vp [.int .i64 x]) :=
 IdxR_ints (xs:=[x]) (n:=0) (by omega) (by simp)
theorem stE_bl {P:Program} {m:Nat} {N:FN} {fr:List (Nat × AV)} {H:List AObj} {q:Ke} {xs:List Bool} {b:Bool} {size id sz sz' n off:Nat} {E':TypeId} {cs:List AV} (hn:n<xs.length) :
 stE P m N (some (.arr E' sz' (xs.map AV.bool))) size cs (.bool b) id sz n off fr H q=(sz=sz'∧cs.length=size∧size=1∧off=0∧sz=1∧rE P m N q fr (H.set id (.arr E' sz' ((xs.set n b).map AV.bool)))):=by
 rw [stE_flat (fun _=>trivial) hn,List.map_set]
theorem allC_take (n i:Nat) (h:i<n):((allC n).take (i+1)).map (AV.int .i64)=((allC n).take i).map (AV.int .i64)++[.int .i64 i]:=by
 rw [List.take_succ_eq_append_getElem (by rw [allC_len];exact h),List.map_append]
 simp [allC]
theorem allC_get {n:Nat} {c:Int} (h0:0≤c) (h1:c<n):(allC n).getD c.toNat 0=c:=by
 have:c.toNat<n:=by omega
 simp [allC,this];omega
abbrev grpW (G:List Int) (q:QY):List AV:=[.int .i64 5,.str ⟨#[]⟩,.view 14 [.agg q.ls],.int .i64 0,.int .i64 0,.int .i64 0,.int .i64 0,.str ⟨#[]⟩,nilA,nilA,ksV G,.view 7 [.agg [.int .i64 1,.int .i64 0,.int .i64 0,.int .i64 0,.int .i64 0,.str ⟨#[]⟩,nilA]],nilA,.int .i64 0]
theorem grpW_weak (G:List Int) (q:QY):WeakL (grpW G q) (grpQ G [cntA] q).cs:=by
 have e:(grpQ G [cntA] q).cs=[.int .i64 5,.str ⟨#[]⟩,.view 14 [q.av],.int .i64 0,.int .i64 0,.int .i64 0,.int .i64 0,.str ⟨#[]⟩,.view 6 [],.view 6 [],ksV G,.view 7 [AG.av cntA],.view 2 [],.int .i64 0]:=rfl
 rw [e,q_ls]
 exact (.cons (.refl _) (.cons (.refl _) (.cons (.refl _) (.cons (.refl _) (.cons (.refl _) (.cons (.refl _) (.cons (.refl _) (.cons (.refl _) (.cons weak_nil (.cons weak_nil (.cons (.refl _) (.cons (WeakL.view (.cons weak_ag0 (.refl _))) (.cons (weak_nil) (.refl _))))))))))))))
theorem ok_grpW (G:List Int) (q:QY) (hq:q.ok) (hG:G.length≤1000):(grpQ G [cntA] q).ok:=by
 rw [ok_eq]
 refine ⟨okI_zero,trivial,?_,?_,?_,?_⟩
 · simp [grpQ,QY.grp];omega
 · simp [grpQ,QY.aggs]
 · simp [grpQ,QY.aggs,okI_zero]
 · simp [grpQ,QY.subs,hq]
theorem k32_grpW {db:List DA} (h:DbOk db) (G:List Int) (q:QY) (hq:q.ok) (hG:G.length≤1000) {R:Rws} (hR:meaning db (grpQ G [cntA] q)=(R,0)):ACalls E.P 32 [.view 5 (db.map DA.av),.agg (grpW G q)] [] (fun r H=>r=.tup [rwsV R,.int .i64 0]∧H=[]):=by
 have:=c32 db h (grpQ G [cntA] q) (ok_grpW G q hq hG)
 rw [hR,q_av] at this
 exact ACalls.weakL (.cons (.refl _) (.cons (WeakL.agg (grpW_weak G q)) (.refl _))) this
abbrev graW (G:List Int) (q:QY):List AV:=[.int .i64 5,.str ⟨#[]⟩,.view 14 [.agg q.ls],.int .i64 0,.int .i64 0,.int .i64 0,.int .i64 0,.str ⟨#[]⟩,nilA,nilA,ksV G,nilA,nilA,.int .i64 0]
theorem graW_weak (G:List Int) (q:QY):WeakL (graW G q) (grpQ G [] q).cs:=by
 have e:(grpQ G [] q).cs=[.int .i64 5,.str ⟨#[]⟩,.view 14 [q.av],.int .i64 0,.int .i64 0,.int .i64 0,.int .i64 0,.str ⟨#[]⟩,.view 6 [],.view 6 [],ksV G,.view 7 [],.view 2 [],.int .i64 0]:=rfl
 rw [e,q_ls]
 exact (.cons (.refl _) (.cons (.refl _) (.cons (.refl _) (.cons (.refl _) (.cons (.refl _) (.cons (.refl _) (.cons (.refl _) (.cons (.refl _) (.cons weak_nil (.cons weak_nil (.cons (.refl _) (.cons (weak_nil) (.cons (weak_nil) (.refl _))))))))))))))
theorem ok_graW (G:List Int) (q:QY) (hq:q.ok) (hG:G.length≤1000):(grpQ G [] q).ok:=by
 rw [ok_eq]
 refine ⟨okI_zero,trivial,?_,?_,?_,?_⟩
 · simp [grpQ,QY.grp];omega
 · simp [grpQ,QY.aggs]
 · simp [grpQ,QY.aggs,okI_zero]
 · simp [grpQ,QY.subs,hq]
theorem k32_graW {db:List DA} (h:DbOk db) (G:List Int) (q:QY) (hq:q.ok) (hG:G.length≤1000) {R:Rws} (hR:meaning db (grpQ G [] q)=(R,0)):ACalls E.P 32 [.view 5 (db.map DA.av),.agg (graW G q)] [] (fun r H=>r=.tup [rwsV R,.int .i64 0]∧H=[]):=by
 have:=c32 db h (grpQ G [] q) (ok_graW G q hq hG)
 rw [hR,q_av] at this
 exact ACalls.weakL (.cons (.refl _) (.cons (WeakL.agg (graW_weak G q)) (.refl _))) this
abbrev disW (q:QY):List AV:=[.int .i64 8,.str ⟨#[]⟩,.view 14 [.agg q.ls],.int .i64 0,.int .i64 0,.int .i64 0,.int .i64 0,.str ⟨#[]⟩,nilA,nilA,nilA,nilA,nilA,.int .i64 0]
theorem disW_weak (q:QY):WeakL (disW q) (distQ q).cs:=by
 have e:(distQ q).cs=[.int .i64 8,.str ⟨#[]⟩,.view 14 [q.av],.int .i64 0,.int .i64 0,.int .i64 0,.int .i64 0,.str ⟨#[]⟩,.view 6 [],.view 6 [],.view 1 [],.view 7 [],.view 2 [],.int .i64 0]:=rfl
 rw [e,q_ls]
 exact (.cons (.refl _) (.cons (.refl _) (.cons (.refl _) (.cons (.refl _) (.cons (.refl _) (.cons (.refl _) (.cons (.refl _) (.cons (.refl _) (.cons weak_nil (.cons weak_nil (.cons (weak_nil) (.cons (weak_nil) (.cons (weak_nil) (.refl _))))))))))))))
theorem ok_disW (q:QY) (hq:q.ok):(distQ q).ok:=by
 rw [ok_eq]
 refine ⟨okI_zero,trivial,?_,?_,?_,?_⟩
 · simp [distQ,QY.grp]
 · simp [distQ,QY.aggs]
 · simp [distQ,QY.aggs,okI_zero]
 · simp [distQ,QY.subs,hq]
theorem k32_disW {db:List DA} (h:DbOk db) (q:QY) (hq:q.ok) {R:Rws} (hR:meaning db (distQ q)=(R,0)):ACalls E.P 32 [.view 5 (db.map DA.av),.agg (disW q)] [] (fun r H=>r=.tup [rwsV R,.int .i64 0]∧H=[]):=by
 have:=c32 db h (distQ q) (ok_disW q hq)
 rw [hR,q_av] at this
 exact ACalls.weakL (.cons (.refl _) (.cons (WeakL.agg (disW_weak q)) (.refl _))) this
abbrev ordW (c:Int) (down:Bool) (q:QY):List AV:=[.int .i64 6,.str ⟨#[]⟩,.view 14 [.agg q.ls],.int .i64 0,.int .i64 0,.int .i64 0,.int .i64 0,.str ⟨#[]⟩,nilA,nilA,nilA,nilA,.view 2 [.agg [.int .i64 c,.bool down]],.int .i64 0]
theorem ordW_weak (c:Int) (down:Bool) (q:QY):WeakL (ordW c down q) (ordQ [⟨c,down⟩] q).cs:=by
 have e:(ordQ [⟨c,down⟩] q).cs=[.int .i64 6,.str ⟨#[]⟩,.view 14 [q.av],.int .i64 0,.int .i64 0,.int .i64 0,.int .i64 0,.str ⟨#[]⟩,.view 6 [],.view 6 [],.view 1 [],.view 7 [],.view 2 [.agg [.int .i64 c,.bool down]],.int .i64 0]:=rfl
 rw [e,q_ls]
 exact (.cons (.refl _) (.cons (.refl _) (.cons (.refl _) (.cons (.refl _) (.cons (.refl _) (.cons (.refl _) (.cons (.refl _) (.cons (.refl _) (.cons weak_nil (.cons weak_nil (.cons (weak_nil) (.cons (weak_nil) (.cons (.refl _) (.refl _))))))))))))))
theorem ok_ordW (c:Int) (down:Bool) (q:QY) (hq:q.ok):(ordQ [⟨c,down⟩] q).ok:=by
 rw [ok_eq]
 refine ⟨okI_zero,trivial,?_,?_,?_,?_⟩
 · simp [ordQ,QY.grp]
 · simp [ordQ,QY.aggs]
 · simp [ordQ,QY.aggs,okI_zero]
 · simp [ordQ,QY.subs,hq]
theorem k32_ordW {db:List DA} (h:DbOk db) (c:Int) (down:Bool) (q:QY) (hq:q.ok) {R:Rws} (hR:meaning db (ordQ [⟨c,down⟩] q)=(R,0)):ACalls E.P 32 [.view 5 (db.map DA.av),.agg (ordW c down q)] [] (fun r H=>r=.tup [rwsV R,.int .i64 0]∧H=[]):=by
 have:=c32 db h (ordQ [⟨c,down⟩] q) (ok_ordW c down q hq)
 rw [hR,q_av] at this
 exact ACalls.weakL (.cons (.refl _) (.cons (WeakL.agg (ordW_weak c down q)) (.refl _))) this
abbrev limW (m:Int) (q:QY):List AV:=[.int .i64 7,.str ⟨#[]⟩,.view 14 [.agg q.ls],.int .i64 0,.int .i64 0,.int .i64 0,.int .i64 0,.str ⟨#[]⟩,nilA,nilA,nilA,nilA,nilA,.int .i64 m]
theorem limW_weak (m:Int) (q:QY):WeakL (limW m q) (limQ m q).cs:=by
 have e:(limQ m q).cs=[.int .i64 7,.str ⟨#[]⟩,.view 14 [q.av],.int .i64 0,.int .i64 0,.int .i64 0,.int .i64 0,.str ⟨#[]⟩,.view 6 [],.view 6 [],.view 1 [],.view 7 [],.view 2 [],.int .i64 m]:=rfl
 rw [e,q_ls]
 exact (.cons (.refl _) (.cons (.refl _) (.cons (.refl _) (.cons (.refl _) (.cons (.refl _) (.cons (.refl _) (.cons (.refl _) (.cons (.refl _) (.cons weak_nil (.cons weak_nil (.cons (weak_nil) (.cons (weak_nil) (.cons (weak_nil) (.refl _))))))))))))))
theorem ok_limW (m:Int) (q:QY) (hq:q.ok):(limQ m q).ok:=by
 rw [ok_eq]
 refine ⟨okI_zero,trivial,?_,?_,?_,?_⟩
 · simp [limQ,QY.grp]
 · simp [limQ,QY.aggs]
 · simp [limQ,QY.aggs,okI_zero]
 · simp [limQ,QY.subs,hq]
theorem k32_limW {db:List DA} (h:DbOk db) (m:Int) (q:QY) (hq:q.ok) {R:Rws} (hR:meaning db (limQ m q)=(R,0)):ACalls E.P 32 [.view 5 (db.map DA.av),.agg (limW m q)] [] (fun r H=>r=.tup [rwsV R,.int .i64 0]∧H=[]):=by
 have:=c32 db h (limQ m q) (ok_limW m q hq)
 rw [hR,q_av] at this
 exact ACalls.weakL (.cons (.refl _) (.cons (WeakL.agg (limW_weak m q)) (.refl _))) this
theorem k32q (db:List DA) (h:DbOk db) (q:QY) (hk:q.ok):ACalls E.P 32 [.view 5 (db.map DA.av),.agg q.ls] [] (fun r H=>r=.tup [rwsV (meaning db q).1,.int .i64 (meaning db q).2]∧H=[]):=by
 have:=c32 db h q hk
 simp only [q_ls] at this
 exact this
theorem spine8:∀ fn,E.P.funcs[8]?=some fn→fn.body.map (Go.Al.spine 24)=some true:=fun fn h=>by
 have e:=func8.symm.trans h
 injection e with e
 subst e
 rfl
theorem c8 (db:List DA) (hc:∀ d ∈ db,d.t.cols.length≤5000000000000) (q:QY) (hq:q.ok) (bys:List Int) (n:Int) (down:Bool):ACalls E.P 8 [.view 5 (db.map DA.av),q.av,ksV bys,.int .i64 n,.bool down] [] (fun r H=>r=.bool true∧H=[]):=by
 have h9:=k9 db q 12 hc
 have hmax:=maxLen_eq
 refine ok8.acallsF hE hm (by simp) 24 spine8 fun N hN=>?_
 unfold mc8 q8_0 z0 z4 pK pM pR pN pO pW pX pD pY pG pI pB pA pQ pL pP pF gF gT oM oL oR oE oD oA oZ oP oO oX oN oG oQ oV oW
 simp only [q_ls]
 refine mf_i ?_
 simp only [lA,seval]
 repeat' (first|(with_reducible first|(apply St.o;constructor)<;>intro _|refine And.intro (by omega) ?_|(apply Sq.o;constructor))|simp (disch:=omega) only [lE,seval])
 refine mf_go (mf_i ?_)
 by_cases hl:lightB db q 12=true
 case neg =>
  have hl:lightB db q 12=false:=by simpa using hl
  rw [hl] at h9
  repeat' (first|(with_reducible first|(apply St.o;constructor)<;>intro _|refine And.intro (by omega) ?_|(apply Sq.o;constructor))|((with_reducible apply Sc.o false;constructor);simp only [lP,seval,pa_els,pa_qls,renL_els,renL_qls,els_len,qls_len,take_qls,take_els,setAll];(first|refine ⟨_,h9,?_⟩|refine ⟨_,c13,?_⟩);rintro _ _ ⟨rfl,rfl⟩;simp only [lA,lP,seval,pa_els,pa_qls,renL_els,renL_qls,els_len,qls_len,take_qls,take_els,setAll])|simp (disch:=omega) only [lE,seval,pa_els,pa_qls,renL_els,renL_qls,els_len,qls_len,take_qls,take_els,setAll])
  all_goals
   simp only [mfQ,lA,seval]
   repeat' (first|(with_reducible first|(apply St.o;constructor)<;>intro _|refine And.intro (by omega) ?_|(apply Sq.o;constructor))|simp (disch:=omega) only [lE,seval])
   exact keep_b rfl
 rw [hl] at h9
 have hdb:=light_ok (by omega) hl
 repeat' (first|(with_reducible first|(apply St.o;constructor)<;>intro _|refine And.intro (by omega) ?_|(apply Sq.o;constructor))|((with_reducible apply Sc.o false;constructor);simp only [lP,seval,pa_els,pa_qls,renL_els,renL_qls,els_len,qls_len,take_qls,take_els,setAll,List.length_map];(first|refine ⟨_,h9,?_⟩|refine ⟨_,k10 q,?_⟩|refine ⟨_,k11 q,?_⟩|refine ⟨_,c13,?_⟩);rintro _ _ ⟨rfl,rfl⟩;simp only [lA,lP,seval,pa_els,pa_qls,renL_els,renL_qls,els_len,qls_len,take_qls,take_els,setAll,List.length_map])|simp (disch:=omega) only [lE,seval,pa_els,pa_qls,renL_els,renL_qls,els_len,qls_len,take_qls,take_els,setAll,List.length_map])
 all_goals first
  | (refine mf_go ?_)
  | (simp only [mfQ,lA,seval]
     repeat' (first|(with_reducible first|(apply St.o;constructor)<;>intro _|refine And.intro (by omega) ?_|(apply Sq.o;constructor))|simp (disch:=omega) only [lE,seval])
     exact keep_b rfl)
 rename_i hcnt _ _ hbl
 have hcnt:IntKind.i64.wrap (q.count:Int)≤30:=by omega
 have hbl:bys.length≤8:=by omega
 have hcol:∀ t ∈ db.map DA.t,t.cols.length≤1000000:=fun t ht=>by obtain ⟨d,hd,rfl⟩:=List.mem_map.1 ht;exact hdb.cols d hd
 have hlen:=hdb.len
 have k17:=c17 db hlen
 have k18q:=k18 (db.map DA.t) hcol q hq
 have kA:=k32q db hdb q hq
 refine mf_cut [(0,.view 5 (db.map DA.av)),(2,ksV bys),(3,.int .i64 n),(4,.bool down),(6,.op 0 0),(11,rwsV (meaning db q).1),(12,.int .i64 (meaning db q).2)] [.box q.ls] ?_ ?_
 · repeat' (first|(with_reducible first|(apply St.o;constructor)<;>intro _|refine And.intro (by omega) ?_|(apply Sq.o;constructor))|((with_reducible apply Sc.o false;constructor);simp only [lP,seval,pa_els,pa_qls,renL_els,renL_qls,els_len,qls_len,take_qls,take_els,setAll];refine ⟨_,kA,?_⟩;rintro _ _ ⟨rfl,rfl⟩;simp only [lA,lP,seval,pa_els,pa_qls,renL_els,renL_qls,els_len,qls_len,take_qls,take_els,setAll])|simp (disch:=omega) only [lE,seval,pa_els,pa_qls,renL_els,renL_qls,els_len,qls_len,take_qls,take_els,setAll])
   all_goals first
    | exact (ent [0] true (by simp only [lP,seval,pa_els,pa_qls]<;>(try simp)<;>(try omega)) (by simp only [lP,seval,pa_els,pa_qls]<;>(try simp)<;>(try omega)))
    | exact ⟨rfl,(ent [0] true (by simp only [lP,seval,pa_els,pa_qls]<;>(try simp)<;>(try omega)) (by simp only [lP,seval,pa_els,pa_qls]<;>(try simp)<;>(try omega)))⟩
 refine mf_cut [(0,.view 5 (db.map DA.av)),(2,ksV bys),(3,.int .i64 n),(4,.bool down),(6,.op 0 0),(11,rwsV (meaning db q).1),(12,.int .i64 (meaning db q).2),(13,ksV (schema (db.map DA.t) q).1),(14,.int .i64 (schema (db.map DA.t) q).2)] [.box q.ls] ?_ ?_
 · repeat' (first|(with_reducible first|(apply St.o;constructor)<;>intro _|refine And.intro (by omega) ?_|(apply Sq.o;constructor))|((with_reducible apply Sc.o false;constructor);simp only [lP,seval,pa_els,pa_qls,renL_els,renL_qls,els_len,qls_len,take_qls,take_els,setAll];(first|refine ⟨_,k17,?_⟩|refine ⟨_,k18q,?_⟩);rintro _ _ ⟨rfl,rfl⟩;simp only [lA,lP,seval,pa_els,pa_qls,renL_els,renL_qls,els_len,qls_len,take_qls,take_els,setAll])|with_reducible refine any_i [] ?_|simp (disch:=omega) only [lE,seval,pa_els,pa_qls,renL_els,renL_qls,els_len,qls_len,take_qls,take_els,setAll])
   all_goals first
    | exact (ent [0] true (by simp only [lP,seval,pa_els,pa_qls]<;>(try simp)<;>(try omega)) (by simp only [lP,seval,pa_els,pa_qls]<;>(try simp)<;>(try omega)))
    | exact ⟨rfl,(ent [0] true (by simp only [lP,seval,pa_els,pa_qls]<;>(try simp)<;>(try omega)) (by simp only [lP,seval,pa_els,pa_qls]<;>(try simp)<;>(try omega)))⟩
 by_cases hm0:(meaning db q).2=0
 case neg =>
  refine mf_i ?_
  repeat' (first|(with_reducible first|(apply St.o;constructor)<;>intro _|refine And.intro (by omega) ?_|(apply Sq.o;constructor))|((with_reducible apply Sc.o false;constructor);simp only [lP,seval,hm0,ne_eq,not_false_eq_true,decide_true,decide_false,Bool.not_false,Bool.not_true];refine ⟨_,c13,?_⟩;rintro _ _ ⟨rfl,rfl⟩;simp only [lA,lP,seval,hm0,ne_eq,not_false_eq_true,decide_true,decide_false,Bool.not_false,Bool.not_true])|simp (disch:=omega) only [lE,seval,hm0,ne_eq,not_false_eq_true,decide_true,decide_false,Bool.not_false,Bool.not_true])
  all_goals
   simp only [mfQ,lA,seval]
   repeat' (first|(with_reducible first|(apply St.o;constructor)<;>intro _|refine And.intro (by omega) ?_|(apply Sq.o;constructor))|simp (disch:=omega) only [lE,seval])
   exact keep_b rfl
 have hs0:=(meaning_ok hm0).1
 have hL4:=mean_len hm0
 have hLk:∀ r ∈ (meaning db q).1,okRow (schema (db.map DA.t) q).1 r:=by
  rw [(meaning_ok hm0).2.1]
  exact rows_ok hdb.right hs0
 have mcnt:=fun g h1 h2=>mean_cnt hm0 hcnt (g:=g) h1 h2
 have mall:=fun g h1 h2 h3 h4=>mean_all hm0 hcnt (g:=g) h1 h2 h3 h4
 have mdist:=mean_dist hm0 hcnt
 have mord:=fun c h1 h2=>mean_ord hm0 hcnt (c:=c) (down:=down) h1 h2
 have mlim:=fun m h=>mean_lim hm0 hcnt (n:=m) h
 generalize (meaning db q).1=L at *
 generalize (meaning db q).2=er at *
 generalize (schema (db.map DA.t) q).1=ks at *
 generalize (schema (db.map DA.t) q).2=er2 at *
 subst hm0 hs0
 refine mf_i ?_
 repeat' (first|(with_reducible first|(apply St.o;constructor)<;>intro _|refine And.intro (by omega) ?_|(apply Sq.o;constructor))|((with_reducible apply Sc.o false;constructor);simp only [lP,seval,List.length_map,ne_eq,not_true_eq_false,decide_false,Bool.not_false,Bool.not_true];refine ⟨_,c13,?_⟩;rintro _ _ ⟨rfl,rfl⟩;simp only [lA,lP,seval,List.length_map,ne_eq,not_true_eq_false,decide_false,Bool.not_false,Bool.not_true])|simp (disch:=omega) only [lE,seval,List.length_map,ne_eq,not_true_eq_false,decide_false,Bool.not_false,Bool.not_true])
 all_goals first
  | (refine mf_go ?_)
  | (simp only [mfQ,lA,seval]
     repeat' (first|(with_reducible first|(apply St.o;constructor)<;>intro _|refine And.intro (by omega) ?_|(apply Sq.o;constructor))|simp (disch:=omega) only [lE,seval])
     exact keep_b rfl)
 rename_i hk0 hk31
 have hk0:0<ks.length:=by omega
 have hk31:ks.length≤31:=by omega
 refine mf_cut [(0,.view 5 (db.map DA.av)),(2,ksV bys),(3,.int .i64 n),(4,.bool down),(6,.op 0 0),(11,rwsV L),(13,ksV ks),(15,nilA),(16,nilA)] [.box q.ls] ?_ ?_
 · repeat' (first|(with_reducible first|(apply St.o;constructor)<;>intro _|refine And.intro (by omega) ?_|(apply Sq.o;constructor))|simp (disch:=omega) only [lE,seval])
   all_goals first
    | exact (ent [0] true (by simp only [lP,seval,pa_els,pa_qls]<;>(try simp)<;>(try omega)) (by simp only [lP,seval,pa_els,pa_qls]<;>(try simp)<;>(try omega)))
    | exact ⟨rfl,(ent [0] true (by simp only [lP,seval,pa_els,pa_qls]<;>(try simp)<;>(try omega)) (by simp only [lP,seval,pa_els,pa_qls]<;>(try simp)<;>(try omega)))⟩
 refine mf_cut [(0,.view 5 (db.map DA.av)),(2,ksV bys),(3,.int .i64 n),(4,.bool down),(6,.op 0 0),(11,rwsV L),(13,ksV ks),(15,nilA),(16,nilA),(17,.slc 1 1 ks.length)] [.box q.ls,.arr 4 1 ((usedOf ks.length []).map AV.bool)] ?_ ?_
 · repeat' (first|(with_reducible first|(apply St.o;constructor)<;>intro _|refine And.intro (by omega) ?_|(apply Sq.o;constructor))|simp (disch:=omega) only [lE,seval,List.length_map])
   all_goals first
    | exact (ent [0,1] true (by simp only [lP,seval,pa_els,pa_qls,usedOf_nil,List.map_replicate,Int.toNat_natCast,pa_bools]<;>(try simp)<;>(try omega)) (by simp only [lP,seval,pa_els,pa_qls,usedOf_nil,List.map_replicate,Int.toNat_natCast,pa_bools]<;>(try simp)<;>(try omega)))
    | exact ⟨rfl,(ent [0,1] true (by simp only [lP,seval,pa_els,pa_qls,usedOf_nil,List.map_replicate,Int.toNat_natCast,pa_bools]<;>(try simp)<;>(try omega)) (by simp only [lP,seval,pa_els,pa_qls,usedOf_nil,List.map_replicate,Int.toNat_natCast,pa_bools]<;>(try simp)<;>(try omega)))⟩
 refine mf_cut [(0,.view 5 (db.map DA.av)),(2,ksV bys),(3,.int .i64 n),(4,.bool down),(6,.op 0 0),(11,rwsV L),(13,ksV ks),(15,nilA),(16,ksV (allC ks.length)),(17,.slc 1 1 ks.length)] [.box q.ls,.arr 4 1 ((usedOf ks.length []).map AV.bool)] ?_ ?_
 · repeat' (first|(with_reducible first|(apply St.o;constructor)<;>intro _|refine And.intro (by omega) ?_|(apply Sq.o;constructor))|simp (disch:=omega) only [lE,seval,List.length_map])
   refine loop_i (fun i:Nat=>i≤ks.length) (fun i=>⟨[(0,.view 5 (db.map DA.av)),(2,ksV bys),(3,.int .i64 n),(4,.bool down),(6,.op 0 0),(11,rwsV L),(13,ksV ks),(15,nilA),(16,.slc 2 1 i),(17,.slc 1 1 ks.length),(87,.int .i64 ks.length),(88,.int .i64 i)],[.box q.ls,.arr 4 1 ((usedOf ks.length []).map AV.bool),.arr 3 1 (((allC ks.length).take i).map (AV.int .i64))]⟩) (fun i=>ks.length - i) 0 (by omega) (Ent.ghost' 16 3 1 (by omega) rfl (ent [0,1,2] false (by simp only [lP,seval,pa_els,pa_qls,pa_bools]<;>(try simp)<;>(try omega)) (by simp only [lP,seval,pa_els,pa_qls,pa_bools]<;>(try simp)<;>(try omega)))) ?_
   intro i hi
   have hlen:(((allC ks.length).take i).map (AV.int .i64)).length=i:=by simp [allC_len];omega
   by_cases hin:i<ks.length
   · have hlt:((i:Int)<(ks.length:Int)):=by omega
     have hT:=allC_take ks.length i hin
     repeat' (first|(with_reducible first|(apply St.o;constructor)<;>intro _|refine And.intro (by omega) ?_|(apply Sq.o;constructor))|simp (disch:=omega) only [lE,seval,hlen,hlt,decide_true])
     refine back_i (i+1) (by omega) (by omega) ?_
     rw [hT]
     exact (ent [0,1,4] false (by simp only [lP,seval,pa_els,pa_qls,pa_bools,pa_ints,hlen,List.map_append]<;>(try simp)<;>(try omega)) (by simp only [lP,seval,pa_els,pa_qls,pa_bools,pa_ints,hlen,List.map_append]<;>(try simp)<;>(try omega)))
   · obtain rfl:i=ks.length:=by omega
     have hta:(allC ks.length).take ks.length=allC ks.length:=List.take_of_length_le (by rw [allC_len];omega)
     rw [hta] at hlen ⊢
     repeat' (first|(with_reducible first|(apply St.o;constructor)<;>intro _|refine And.intro (by omega) ?_|(apply Sq.o;constructor))|simp (disch:=omega) only [lE,seval,Int.lt_irrefl,decide_false])
     have hal:=allC_len ks.length
     generalize allC ks.length=A at *
     all_goals first
      | exact (ent [0,1] true (by simp only [lP,seval,pa_els,pa_qls,pa_bools,vw_ints,hal,List.take_length,List.length_map]<;>(try simp)<;>(try omega)) (by simp only [lP,seval,pa_els,pa_qls,pa_bools,vw_ints,hal,List.take_length,List.length_map]<;>(try simp)<;>(try omega)))
      | exact ⟨rfl,(ent [0,1] true (by simp only [lP,seval,pa_els,pa_qls,pa_bools,vw_ints,hal,List.take_length,List.length_map]<;>(try simp)<;>(try omega)) (by simp only [lP,seval,pa_els,pa_qls,pa_bools,vw_ints,hal,List.take_length,List.length_map]<;>(try simp)<;>(try omega)))⟩
 obtain ⟨G,hG⟩:∃ G,G=pickG ks.length bys:=⟨_,rfl⟩
 have hGok:gOk ks G:=hG ▸ pickG_ok hk0 bys
 have hGl:G.length≤8:=by rw [hG];have:=pickG_len ks.length bys;omega
 refine mf_cut [(0,.view 5 (db.map DA.av)),(3,.int .i64 n),(4,.bool down),(6,.op 0 0),(11,rwsV L),(13,ksV ks),(15,ksV G),(16,ksV (allC ks.length))] [.box q.ls] ?_ ?_
 · repeat' (first|(with_reducible first|(apply St.o;constructor)<;>intro _|refine And.intro (by omega) ?_|(apply Sq.o;constructor))|simp (disch:=omega) only [lE,seval,List.length_map])
   refine loop_i (fun i:Nat=>i≤bys.length) (fun i=>⟨[(0,.view 5 (db.map DA.av)),(3,.int .i64 n),(4,.bool down),(6,.op 0 0),(11,rwsV L),(13,ksV ks),(15,.slc 2 1 (pickG ks.length (bys.take i)).length),(16,ksV (allC ks.length)),(17,.slc 1 1 ks.length),(96,ksV bys),(97,.int .i64 bys.length),(98,.int .i64 i)],[.box q.ls,.arr 4 1 ((usedOf ks.length (pickG ks.length (bys.take i))).map AV.bool),.arr 3 1 ((pickG ks.length (bys.take i)).map (AV.int .i64))]⟩) (fun i=>bys.length - i) 0 (by omega) (Ent.ghost' 15 3 1 (by omega) rfl (ent [0,1,2] false (by simp only [lP,seval,pa_els,pa_qls,pa_bools,List.take_zero,pickG_nil,List.map_nil,List.length_nil]<;>(try simp)<;>(try omega)) (by simp only [lP,seval,pa_els,pa_qls,pa_bools,List.take_zero,pickG_nil,List.map_nil,List.length_nil]<;>(try simp)<;>(try omega)))) ?_
   intro i hi
   have hgl:=pickG_len ks.length (bys.take i)
   have hul:=usedOf_len ks.length (pickG ks.length (bys.take i))
   by_cases hin:i<bys.length
   · have hlt:((i:Int)<(bys.length:Int)):=by omega
     have hS:=pickG_step (m:=ks.length) hin
     have hgl2:(bys.take i).length=i:=by simp;omega
     rw [hgl2] at hgl
     generalize pickG ks.length (bys.take i)=g at *
     generalize hx:bys.getD i 0=c at *
     by_cases h0:0≤c
     · obtain ⟨k,hk⟩:∃ k:Nat,c.tmod ks.length=(k:Int):=⟨(c.tmod ks.length).toNat,by have:=Int.tmod_nonneg (ks.length:Int) h0;omega⟩
       have hkl:k<ks.length:=by have:=Int.tmod_lt_of_pos c (show (0:Int)<ks.length by omega);omega
       have hnz:¬ (ks.length:Int)=0:=by omega
       have hget:=usedOf_get (g:=g) hkl
       have hset:=usedOf_set (n:=ks.length) (g:=g) (k:=k)
       by_cases hm:(k:Int) ∈ g
       · have hp:pickS ks.length g c=g:=by unfold pickS;rw [hk,if_neg (by simp [hm])]
         rw [hp] at hS
         rw [show decide ((k:Int) ∈ g)=true by simp [hm]] at hget
         generalize hus:usedOf ks.length g=us at *
         repeat' (first|(with_reducible first|(apply St.o;constructor)<;>intro _|refine And.intro (by omega) ?_|(apply Sq.o;constructor))|simp (disch:=omega) only [lE,seval,IdxR_ints,epR_map,hget,hx,hk,hnz,hul,Int.toNat_natCast,List.length_map,hlt,h0,decide_true,ge_iff_le,not_false_eq_true])
         all_goals
          refine back_i (i+1) (by omega) (by omega) ?_
          rw [hS,hus]
          exact (ent [0,1,2] false (by simp only [lP,seval,pa_els,pa_qls,pa_bools,pa_ints]<;>(try simp)<;>(try omega)) (by simp only [lP,seval,pa_els,pa_qls,pa_bools,pa_ints]<;>(try simp)<;>(try omega)))
       · have hp:pickS ks.length g c=g++[(k:Int)]:=by unfold pickS;rw [hk,if_pos ⟨h0,hm⟩]
         rw [hp] at hS
         rw [show decide ((k:Int) ∈ g)=false by simp [hm]] at hget
         have hul2:=usedOf_len ks.length (g++[(k:Int)])
         rw [← hset] at hul2
         generalize hus:usedOf ks.length g=us at *
         repeat' (first|(with_reducible first|(apply St.o;constructor)<;>intro _|refine And.intro (by omega) ?_|(apply Sq.o;constructor))|simp (disch:=omega) only [lE,seval,IdxR_ints,epR_map,stE_bl,hget,hx,hk,hnz,hul,Int.toNat_natCast,List.length_map,hlt,h0,decide_true,ge_iff_le,not_false_eq_true])
         all_goals
          refine back_i (i+1) (by omega) (by omega) ?_
          rw [hS,← hset]
          exact (ent [0,1,4] false (by simp only [lP,seval,pa_els,pa_qls,pa_bools,pa_ints,List.map_append,List.length_append]<;>(try simp)<;>(try omega)) (by simp only [lP,seval,pa_els,pa_qls,pa_bools,pa_ints,List.map_append,List.length_append]<;>(try simp)<;>(try omega)))
     · have hp:pickS ks.length g c=g:=by unfold pickS;rw [if_neg (fun h=>h0 h.1)]
       rw [hp] at hS
       generalize hus:usedOf ks.length g=us at *
       repeat' (first|(with_reducible first|(apply St.o;constructor)<;>intro _|refine And.intro (by omega) ?_|(apply Sq.o;constructor))|simp (disch:=omega) only [lE,seval,IdxR_ints,hx,Int.toNat_natCast,List.length_map,hlt,h0,decide_true,decide_false,ge_iff_le])
       all_goals
        refine back_i (i+1) (by omega) (by omega) ?_
        rw [hS,hus]
        exact (ent [0,1,2] false (by simp only [lP,seval,pa_els,pa_qls,pa_bools,pa_ints]<;>(try simp)<;>(try omega)) (by simp only [lP,seval,pa_els,pa_qls,pa_bools,pa_ints]<;>(try simp)<;>(try omega)))
   · obtain rfl:i=bys.length:=by omega
     rw [List.take_length,← hG]
     repeat' (first|(with_reducible first|(apply St.o;constructor)<;>intro _|refine And.intro (by omega) ?_|(apply Sq.o;constructor))|simp (disch:=omega) only [lE,seval,Int.lt_irrefl,decide_false])
     all_goals first
      | exact (ent [0] true (by simp only [lP,seval,pa_els,pa_qls,pa_bools,vw_ints,List.take_length,List.length_map]<;>(try simp)<;>(try omega)) (by simp only [lP,seval,pa_els,pa_qls,pa_bools,vw_ints,List.take_length,List.length_map]<;>(try simp)<;>(try omega)))
      | exact ⟨rfl,(ent [0] true (by simp only [lP,seval,pa_els,pa_qls,pa_bools,vw_ints,List.take_length,List.length_map]<;>(try simp)<;>(try omega)) (by simp only [lP,seval,pa_els,pa_qls,pa_bools,vw_ints,List.take_length,List.length_map]<;>(try simp)<;>(try omega)))⟩
 clear hG
 refine mf_cut [(0,.view 5 (db.map DA.av)),(3,.int .i64 n),(4,.bool down),(11,rwsV L),(13,ksV ks),(15,ksV G),(16,ksV (allC ks.length)),(21,.view 14 [.agg q.ls])] [] ?_ ?_
 · repeat' (first|(with_reducible apply St.o;constructor) <;> intro _|((with_reducible refine mkl_view ?_ ?_ ?_);(focus decide);(focus rfl))|(with_reducible first|refine And.intro (by omega) ?_|(apply Sq.o;constructor))|simp (disch:=omega) only [lE,seval,pa_els,pa_qls,renL_els,renL_qls,els_len,qls_len,take_qls,take_els,setAll,fillE])
   all_goals first
    | exact (ent [] true (by simp only [lP,seval,pa_els,pa_qls]<;>(try simp)<;>(try omega)) (by simp only [lP,seval,pa_els,pa_qls]<;>(try simp)<;>(try omega)))
    | exact ⟨rfl,(ent [] true (by simp only [lP,seval,pa_els,pa_qls]<;>(try simp)<;>(try omega)) (by simp only [lP,seval,pa_els,pa_qls]<;>(try simp)<;>(try omega)))⟩
 have m1:=k32_grpW hdb G q hq (by omega) (mcnt G hGok (by omega))
 have hC4:=cntR_len (g:=G) hL4
 have hCr:=cntR_row (g:=G) (l:=L)
 have hCn:=cntR_n (g:=G) (l:=L)
 have hCs:=cntR_sum G L
 have hCu:=cntR_up (g:=G) hLk hGok.2
 generalize cntR G L=C at *
 refine mf_cut [(0,.view 5 (db.map DA.av)),(3,.int .i64 n),(4,.bool down),(11,rwsV L),(13,ksV ks),(15,ksV G),(16,ksV (allC ks.length)),(21,.view 14 [.agg q.ls]),(22,rwsV C),(12,.int .i64 0)] [] ?_ ?_
 · repeat' (first|(with_reducible apply St.o;constructor) <;> intro _|((with_reducible refine mkl_view ?_ ?_ ?_);(focus decide);(focus rfl))|(with_reducible first|refine And.intro (by omega) ?_|(apply Sq.o;constructor))|((with_reducible apply Sc.o false;constructor);simp only [lP,seval,pa_els,pa_qls,renL_els,renL_qls,els_len,qls_len,take_qls,take_els,setAll,fillE];refine ⟨_,m1,?_⟩;rintro _ _ ⟨rfl,rfl⟩;simp only [lA,lP,seval,pa_els,pa_qls,renL_els,renL_qls,els_len,qls_len,take_qls,take_els,setAll,fillE])|simp (disch:=omega) only [lE,seval,pa_els,pa_qls,renL_els,renL_qls,els_len,qls_len,take_qls,take_els,setAll,fillE])
   all_goals first
    | exact (ent [] true (by simp only [lP,seval,pa_els,pa_qls]<;>(try simp)<;>(try omega)) (by simp only [lP,seval,pa_els,pa_qls]<;>(try simp)<;>(try omega)))
    | exact ⟨rfl,(ent [] true (by simp only [lP,seval,pa_els,pa_qls]<;>(try simp)<;>(try omega)) (by simp only [lP,seval,pa_els,pa_qls]<;>(try simp)<;>(try omega)))⟩
 refine mf_cut [(0,.view 5 (db.map DA.av)),(3,.int .i64 n),(4,.bool down),(11,rwsV L),(13,ksV ks),(15,ksV G),(16,ksV (allC ks.length)),(21,.view 14 [.agg q.ls]),(22,rwsV C),(12,.int .i64 0),(23,.int .i64 0)] [] ?_ ?_
 · repeat' (first|(with_reducible first|(apply St.o;constructor)<;>intro _|refine And.intro (by omega) ?_|(apply Sq.o;constructor))|simp (disch:=omega) only [lE,seval])
   all_goals first
    | exact (ent [] true (by simp only [lP,seval,pa_els,pa_qls]<;>(try simp)<;>(try omega)) (by simp only [lP,seval,pa_els,pa_qls]<;>(try simp)<;>(try omega)))
    | exact ⟨rfl,(ent [] true (by simp only [lP,seval,pa_els,pa_qls]<;>(try simp)<;>(try omega)) (by simp only [lP,seval,pa_els,pa_qls]<;>(try simp)<;>(try omega)))⟩
 refine mf_cut [(0,.view 5 (db.map DA.av)),(3,.int .i64 n),(4,.bool down),(11,rwsV L),(13,ksV ks),(16,ksV (allC ks.length)),(21,.view 14 [.agg q.ls]),(12,.int .i64 0),(23,.int .i64 L.length)] [] ?_ ?_
 · repeat' (first|(with_reducible first|(apply St.o;constructor)<;>intro _|refine And.intro (by omega) ?_|(apply Sq.o;constructor))|simp (disch:=omega) only [lE,seval,List.length_map])
   have hsum:∀ i,i≤C.length→0≤((C.take i).map fun r=>(r.getD G.length default).n).sum∧((C.take i).map fun r=>(r.getD G.length default).n).sum≤L.length:=fun i hi=>by
    have h1:((C.take i).map fun r=>(r.getD G.length default).n).sum+((C.drop i).map fun r=>(r.getD G.length default).n).sum=L.length:=by
     rw [← hCs,← List.sum_append,← List.map_append,List.take_append_drop]
    have h2:∀ l:Rws,(∀ r ∈ l,0≤(r.getD G.length default).n)→0≤(l.map fun r=>(r.getD G.length default).n).sum:=fun l=>by
     induction l with
     | nil=>intro _;simp
     | cons x l ih =>
       intro h
       have:=h x (by simp)
       have:=ih fun y hy=>h y (by simp [hy])
       simp only [List.map_cons,List.sum_cons];omega
    have h3:=h2 (C.take i) fun r hr=>hCn r (List.mem_of_mem_take hr)
    have h4:=h2 (C.drop i) fun r hr=>hCn r (List.mem_of_mem_drop hr)
    omega
   refine loop_i (fun i:Nat=>i≤C.length) (fun i=>⟨[(0,.view 5 (db.map DA.av)),(3,.int .i64 n),(4,.bool down),(11,rwsV L),(13,ksV ks),(15,ksV G),(16,ksV (allC ks.length)),(21,.view 14 [.agg q.ls]),(22,rwsV C),(12,.int .i64 0),(23,.int .i64 ((C.take i).map fun r=>(r.getD G.length default).n).sum),(140,rwsV C),(141,.int .i64 C.length),(142,.int .i64 i)],[]⟩) (fun i=>C.length - i) 0 (by omega) (ent [] false (by simp only [lP,seval,List.take_zero,List.map_nil,List.sum_nil]<;>(try simp)<;>(try omega)) (by simp only [lP,seval,List.take_zero,List.map_nil,List.sum_nil]<;>(try simp)<;>(try omega))) ?_
   intro i hi
   by_cases hin:i<C.length
   · have hlt:((i:Int)<(C.length:Int)):=by omega
     have hmem:C.getD i default ∈ C:=by simp [hin]
     have hr1:=hCr _ hmem
     have hg1:((G.length+1:Nat):Int)=(G.length:Int)+1:=by omega
     have hn1:=hCn _ hmem
     have s0:=hsum i hi
     have s1:=hsum (i+1) hin
     have hS:((C.take (i+1)).map fun r=>(r.getD G.length default).n).sum=((C.take i).map fun r=>(r.getD G.length default).n).sum+((C.getD i default).getD G.length default).n:=by
      have e:C.getD i default=C[i]:=by simp [hin]
      rw [List.take_succ_eq_append_getElem hin,e,List.map_append,List.sum_append]
      simp
     rw [hS] at s1
     have h36:=c36 ((C.getD (i - 1) default).take G.length) ((C.getD i default).take G.length)
     have hup:0<i→lex19 ((C.getD (i - 1) default).take G.length) ((C.getD i default).take G.length)<0:=fun h=>by
      have:=List.pairwise_iff_getElem.1 hCu (i - 1) i (by omega) hin (by omega)
      simpa [hin,show i - 1<C.length by omega] using this
     have hr0:0<i→(C.getD (i - 1) default).length=G.length+1:=fun h=>hCr _ (by simp [show i - 1<C.length by omega])
     have hi1:0<i→((i:Int) - 1).toNat=i - 1:=fun h=>by omega
     generalize ((C.take i).map fun r=>(r.getD G.length default).n).sum=S at *
     generalize hx:C.getD i default=x at *
     generalize hy:C.getD (i - 1) default=y at *
     generalize lex19 (y.take G.length) (x.take G.length)=lx at *
     rcases Nat.eq_zero_or_pos i with rfl | hpos
     · have hlt0:(0:Int)<(C.length:Int):=by omega
       repeat' (first|(with_reducible first|(apply St.o;constructor)<;>intro _|refine And.intro (by omega) ?_|(apply Sq.o;constructor))|with_reducible refine any_i [] ?_|simp (disch:=omega) only [lE,seval,IdxR_rows,IdxR_vls,hx,hr1,Int.toNat_natCast,Int.toNat_zero,List.length_map,hlt,decide_true,decide_false,Int.lt_irrefl,ne_eq,not_true_eq_false,gt_iff_lt,hlt0,hg1])
       all_goals
        refine back_i (0+1) (by omega) (by omega) ?_
        rw [hS]
        exact (ent [] false)
     · have hip:(0:Int)<(i:Int):=by omega
       have hup:=hup hpos
       have hr0:=hr0 hpos
       have hi1:=hi1 hpos
       have hge:¬ (0≤lx):=by omega
       have hxw : .view 3 ((x.map VL.av).take G.length)=rowV (x.take G.length):=by rw [← List.map_take]
       have hyw : .view 3 ((y.map VL.av).take G.length)=rowV (y.take G.length):=by rw [← List.map_take]
       repeat' (first|(with_reducible first|(apply St.o;constructor)<;>intro _|refine And.intro (by omega) ?_|(apply Sq.o;constructor))|((with_reducible apply Sc.o false;constructor);simp only [lP,seval,IdxR_rows,IdxR_vls,hx,hy,hr0,hr1,hg1,hi1,hip,hge,← List.map_take,Int.toNat_natCast,List.length_map,hlt,decide_true,decide_false,ne_eq,not_true_eq_false,gt_iff_lt,ge_iff_le];refine ⟨_,h36,?_⟩;rintro _ _ ⟨rfl,rfl⟩;simp only [lA,lP,seval,IdxR_rows,IdxR_vls,hx,hy,hr0,hr1,hg1,hi1,hip,hge,← List.map_take,Int.toNat_natCast,List.length_map,hlt,decide_true,decide_false,ne_eq,not_true_eq_false,gt_iff_lt,ge_iff_le])|with_reducible refine any_i [] ?_|simp (disch:=omega) only [lE,seval,IdxR_rows,IdxR_vls,hx,hy,hr0,hr1,hg1,hi1,hip,hge,← List.map_take,Int.toNat_natCast,List.length_map,hlt,decide_true,decide_false,ne_eq,not_true_eq_false,gt_iff_lt,ge_iff_le])
       all_goals
        refine back_i (i+1) (by omega) (by omega) ?_
        rw [hS]
        exact (ent [] false)
   · obtain rfl:i=C.length:=by omega
     rw [List.take_length,hCs]
     repeat' (first|(with_reducible first|(apply St.o;constructor)<;>intro _|refine And.intro (by omega) ?_|(apply Sq.o;constructor))|simp (disch:=omega) only [lE,seval,Int.lt_irrefl,decide_false])
     all_goals first
      | exact (ent [] true)
      | exact ⟨rfl,(ent [] true)⟩
 clear hCs hCu hCn hCr
 refine mf_i ?_
 repeat' (first|(with_reducible first|(apply St.o;constructor)<;>intro _|refine And.intro (by omega) ?_|(apply Sq.o;constructor))|simp (disch:=omega) only [lE,seval,List.length_map,ne_eq,not_true_eq_false,decide_false])
 refine mf_go ?_
 have hAn:allC ks.length≠[]:=fun h=>by have:=allC_len ks.length;rw [h] at this;simp at this;omega
 obtain ⟨R,mR,hR4,hRp⟩:=mall (allC ks.length) allC_ok (by rw [allC_len];exact hk31) hAn fun r hr=>allC_key (hLk r hr).1
 have m2:=k32_graW hdb (allC ks.length) q hq (by rw [allC_len];omega) mR
 have m3:=k32_disW hdb q hq mdist
 have hD4:=distE_len L
 have h30:=c30 R (distE L) (by omega) (by omega)
 rw [eqC_iff.2 ((bag_iff _ _).2 hRp)] at h30
 refine mf_cut [(0,.view 5 (db.map DA.av)),(3,.int .i64 n),(4,.bool down),(11,rwsV L),(13,ksV ks),(16,ksV (allC ks.length)),(21,.view 14 [.agg q.ls]),(26,rwsV R),(12,.int .i64 0)] [] ?_ ?_
 · repeat' (first|(with_reducible apply St.o;constructor) <;> intro _|((with_reducible refine mkl_view ?_ ?_ ?_);(focus decide);(focus rfl))|(with_reducible first|refine And.intro (by omega) ?_|(apply Sq.o;constructor))|((with_reducible apply Sc.o false;constructor);simp only [lP,seval,pa_els,pa_qls,renL_els,renL_qls,els_len,qls_len,take_qls,take_els,setAll,fillE];refine ⟨_,m2,?_⟩;rintro _ _ ⟨rfl,rfl⟩;simp only [lA,lP,seval,pa_els,pa_qls,renL_els,renL_qls,els_len,qls_len,take_qls,take_els,setAll,fillE])|simp (disch:=omega) only [lE,seval,pa_els,pa_qls,renL_els,renL_qls,els_len,qls_len,take_qls,take_els,setAll,fillE])
   all_goals first
    | exact (ent [] true (by simp only [lP,seval,pa_els,pa_qls]<;>(try simp)<;>(try omega)) (by simp only [lP,seval,pa_els,pa_qls]<;>(try simp)<;>(try omega)))
    | exact ⟨rfl,(ent [] true (by simp only [lP,seval,pa_els,pa_qls]<;>(try simp)<;>(try omega)) (by simp only [lP,seval,pa_els,pa_qls]<;>(try simp)<;>(try omega)))⟩
 refine mf_cut [(0,.view 5 (db.map DA.av)),(3,.int .i64 n),(4,.bool down),(11,rwsV L),(13,ksV ks),(16,ksV (allC ks.length)),(21,.view 14 [.agg q.ls]),(26,rwsV R),(12,.int .i64 0),(27,rwsV (distE L)),(14,.int .i64 0)] [] ?_ ?_
 · repeat' (first|(with_reducible apply St.o;constructor) <;> intro _|((with_reducible refine mkl_view ?_ ?_ ?_);(focus decide);(focus rfl))|(with_reducible first|refine And.intro (by omega) ?_|(apply Sq.o;constructor))|((with_reducible apply Sc.o false;constructor);simp only [lP,seval,pa_els,pa_qls,renL_els,renL_qls,els_len,qls_len,take_qls,take_els,setAll,fillE];refine ⟨_,m3,?_⟩;rintro _ _ ⟨rfl,rfl⟩;simp only [lA,lP,seval,pa_els,pa_qls,renL_els,renL_qls,els_len,qls_len,take_qls,take_els,setAll,fillE])|simp (disch:=omega) only [lE,seval,pa_els,pa_qls,renL_els,renL_qls,els_len,qls_len,take_qls,take_els,setAll,fillE])
   all_goals first
    | exact (ent [] true (by simp only [lP,seval,pa_els,pa_qls]<;>(try simp)<;>(try omega)) (by simp only [lP,seval,pa_els,pa_qls]<;>(try simp)<;>(try omega)))
    | exact ⟨rfl,(ent [] true (by simp only [lP,seval,pa_els,pa_qls]<;>(try simp)<;>(try omega)) (by simp only [lP,seval,pa_els,pa_qls]<;>(try simp)<;>(try omega)))⟩
 refine mf_cut [(0,.view 5 (db.map DA.av)),(3,.int .i64 n),(4,.bool down),(11,rwsV L),(13,ksV ks),(16,ksV (allC ks.length)),(21,.view 14 [.agg q.ls])] [] ?_ ?_
 · repeat' (first|(with_reducible first|(apply St.o;constructor)<;>intro _|refine And.intro (by omega) ?_|(apply Sq.o;constructor))|((with_reducible apply Sc.o false;constructor);simp only [lP,seval,ne_eq,not_true_eq_false,decide_false,Bool.not_true];refine ⟨_,h30,?_⟩;rintro _ _ ⟨rfl,rfl⟩;simp only [lA,lP,seval,ne_eq,not_true_eq_false,decide_false,Bool.not_true])|simp (disch:=omega) only [lE,seval,ne_eq,not_true_eq_false,decide_false,Bool.not_true])
   all_goals first
    | exact (ent [] true (by simp only [lP,seval,pa_els,pa_qls]<;>(try simp)<;>(try omega)) (by simp only [lP,seval,pa_els,pa_qls]<;>(try simp)<;>(try omega)))
    | exact ⟨rfl,(ent [] true (by simp only [lP,seval,pa_els,pa_qls]<;>(try simp)<;>(try omega)) (by simp only [lP,seval,pa_els,pa_qls]<;>(try simp)<;>(try omega)))⟩
 obtain ⟨hc0,hc1⟩:=leastR_rg (n:=n) (m:=ks.length) (by omega) (by omega)
 have h37:=c37 n ks.length (by omega)
 have hAg:=allC_get hc0 hc1
 have hAl:=allC_len ks.length
 have mO:=mord _ hc0 hc1
 have hOu:=stab_up (down:=down) hLk hc0 hc1
 generalize leastR n ks.length=c at *
 refine mf_cut [(0,.view 5 (db.map DA.av)),(2,.view 1 [.int .i64 c]),(3,.int .i64 n),(4,.bool down),(11,rwsV L),(13,ksV ks),(21,.view 14 [.agg q.ls])] [] ?_ ?_
 · repeat' (first|(with_reducible apply St.o;constructor) <;> intro _|((with_reducible refine mkl_view ?_ ?_ ?_);(focus decide);(focus rfl))|(with_reducible first|refine And.intro (by omega) ?_|(apply Sq.o;constructor))|((with_reducible apply Sc.o false;constructor);simp only [lP,seval,IdxR_ints,hAg,hAl,fillE,setAll,List.length_map];refine ⟨_,h37,?_⟩;rintro _ _ ⟨rfl,rfl⟩;simp only [lA,lP,seval,IdxR_ints,hAg,hAl,fillE,setAll,List.length_map])|simp (disch:=omega) only [lE,seval,IdxR_ints,hAg,hAl,fillE,setAll,List.length_map])
   all_goals first
    | exact (ent [] true (by simp only [lP,seval,vw_int,List.map_cons,List.map_nil,List.take]<;>(try simp)<;>(try omega)) (by simp only [lP,seval,vw_int,List.map_cons,List.map_nil,List.take]<;>(try simp)<;>(try omega)))
    | exact ⟨rfl,(ent [] true (by simp only [lP,seval,vw_int,List.map_cons,List.map_nil,List.take]<;>(try simp)<;>(try omega)) (by simp only [lP,seval,vw_int,List.map_cons,List.map_nil,List.take]<;>(try simp)<;>(try omega)))⟩
 have m4:=k32_ordW hdb c down q hq mO
 have hOp:(stab (ordC [⟨c,down⟩]) L).Perm L:=stab_perm L
 generalize stab (ordC [⟨c,down⟩]) L=O at *
 have hOl:=hOp.length_eq
 have hOr:∀ r ∈ O,r.length=ks.length:=fun r hr=>(hLk r (hOp.mem_iff.1 hr)).1
 refine mf_cut [(0,.view 5 (db.map DA.av)),(2,.view 1 [.int .i64 c]),(3,.int .i64 n),(4,.bool down),(11,rwsV L),(21,.view 14 [.agg q.ls]),(28,rwsV O),(12,.int .i64 0)] [] ?_ ?_
 · repeat' (first|(with_reducible apply St.o;constructor) <;> intro _|((with_reducible refine mkl_view ?_ ?_ ?_);(focus decide);(focus rfl))|(with_reducible first|refine And.intro (by omega) ?_|(apply Sq.o;constructor))|((with_reducible apply Sc.o false;constructor);simp only [lP,seval,IdxR_int1,pa_els,pa_qls,renL_els,renL_qls,els_len,qls_len,take_qls,take_els,setAll,fillE];refine ⟨_,m4,?_⟩;rintro _ _ ⟨rfl,rfl⟩;simp only [lA,lP,seval,IdxR_int1,pa_els,pa_qls,renL_els,renL_qls,els_len,qls_len,take_qls,take_els,setAll,fillE])|simp (disch:=omega) only [lE,seval,IdxR_int1,pa_els,pa_qls,renL_els,renL_qls,els_len,qls_len,take_qls,take_els,setAll,fillE])
   all_goals first
    | exact (ent [] true (by simp only [lP,seval,pa_els,pa_qls]<;>(try simp)<;>(try omega)) (by simp only [lP,seval,pa_els,pa_qls]<;>(try simp)<;>(try omega)))
    | exact ⟨rfl,(ent [] true (by simp only [lP,seval,pa_els,pa_qls]<;>(try simp)<;>(try omega)) (by simp only [lP,seval,pa_els,pa_qls]<;>(try simp)<;>(try omega)))⟩
 have h30:=c30 O L (by omega) (by omega)
 rw [eqC_iff.2 ((bag_iff _ _).2 hOp)] at h30
 refine mf_cut [(0,.view 5 (db.map DA.av)),(3,.int .i64 n),(11,rwsV L),(21,.view 14 [.agg q.ls]),(28,rwsV O),(12,.int .i64 0)] [] ?_ ?_
 · repeat' (first|(with_reducible first|(apply St.o;constructor)<;>intro _|refine And.intro (by omega) ?_|(apply Sq.o;constructor))|simp (disch:=omega) only [lE,seval])
   refine loop_i (fun i:Nat=>1≤i) (fun i=>⟨[(0,.view 5 (db.map DA.av)),(2,.view 1 [.int .i64 c]),(3,.int .i64 n),(4,.bool down),(11,rwsV L),(21,.view 14 [.agg q.ls]),(28,rwsV O),(12,.int .i64 0),(29,.int .i64 i)],[]⟩) (fun i=>O.length - i) 1 (by omega) (ent [] false) ?_
   intro i hi
   by_cases hin:i<O.length
   · have hlt:((i:Int)<(O.length:Int)):=by omega
     have hi1:((i:Int) - 1).toNat=i - 1:=by omega
     have hu:=List.pairwise_iff_getElem.1 hOu (i - 1) i (by omega) hin (by omega)
     have e1:O.getD (i - 1) default=O[i - 1]:=by simp [show i - 1<O.length by omega]
     have e2:O.getD i default=O[i]:=by simp [hin]
     have r1:=hOr (O.getD (i - 1) default) (by rw [e1];exact List.getElem_mem _)
     have r2:=hOr (O.getD i default) (by rw [e2];exact List.getElem_mem _)
     rw [← e1,← e2] at hu
     generalize hx:O.getD i default=x at *
     generalize hy:O.getD (i - 1) default=y at *
     have h38:=c38 (y.getD c.toNat default) (x.getD c.toNat default)
     simp only [VL.av] at h38
     generalize (y.getD c.toNat default).cmp19 (x.getD c.toNat default)=v at *
     cases down with
     | true =>
       have hu:=hu.1 rfl
       have hv:¬ v<0:=by omega
       repeat' (first|(with_reducible first|(apply St.o;constructor)<;>intro _|refine And.intro (by omega) ?_|(apply Sq.o;constructor))|((with_reducible apply Sc.o false;constructor);simp only [lP,seval,IdxR_rows,IdxR_vls,IdxR_int1,hx,hy,r1,r2,hi1,hv,VL.cs,Int.toNat_natCast,List.length_map,hlt,decide_true,decide_false,Bool.not_true,Bool.not_false];refine ⟨_,h38,?_⟩;rintro _ _ ⟨rfl,rfl⟩;simp only [lA,lP,seval,IdxR_rows,IdxR_vls,IdxR_int1,hx,hy,r1,r2,hi1,hv,VL.cs,Int.toNat_natCast,List.length_map,hlt,decide_true,decide_false,Bool.not_true,Bool.not_false])|with_reducible refine any_i [] ?_|simp (disch:=omega) only [lE,seval,IdxR_rows,IdxR_vls,IdxR_int1,hx,hy,r1,r2,hi1,hv,VL.cs,Int.toNat_natCast,List.length_map,hlt,decide_true,decide_false,Bool.not_true,Bool.not_false])
       all_goals (refine back_i (i+1) (by omega) (by omega) (ent [] false))
     | false =>
       have hu:=hu.2 rfl
       have hv:¬ 0<v:=by omega
       repeat' (first|(with_reducible first|(apply St.o;constructor)<;>intro _|refine And.intro (by omega) ?_|(apply Sq.o;constructor))|((with_reducible apply Sc.o false;constructor);simp only [lP,seval,IdxR_rows,IdxR_vls,IdxR_int1,hx,hy,r1,r2,hi1,hv,VL.cs,Int.toNat_natCast,List.length_map,hlt,decide_true,decide_false,Bool.not_true,Bool.not_false,gt_iff_lt];refine ⟨_,h38,?_⟩;rintro _ _ ⟨rfl,rfl⟩;simp only [lA,lP,seval,IdxR_rows,IdxR_vls,IdxR_int1,hx,hy,r1,r2,hi1,hv,VL.cs,Int.toNat_natCast,List.length_map,hlt,decide_true,decide_false,Bool.not_true,Bool.not_false,gt_iff_lt])|with_reducible refine any_i [] ?_|simp (disch:=omega) only [lE,seval,IdxR_rows,IdxR_vls,IdxR_int1,hx,hy,r1,r2,hi1,hv,VL.cs,Int.toNat_natCast,List.length_map,hlt,decide_true,decide_false,Bool.not_true,Bool.not_false,gt_iff_lt])
       all_goals (refine back_i (i+1) (by omega) (by omega) (ent [] false))
   · have hlt:¬ ((i:Int)<(O.length:Int)):=by omega
     repeat' (first|(with_reducible first|(apply St.o;constructor)<;>intro _|refine And.intro (by omega) ?_|(apply Sq.o;constructor))|simp (disch:=omega) only [lE,seval,List.length_map,hlt,decide_false])
     all_goals first
      | exact (ent [] true)
      | exact ⟨rfl,(ent [] true)⟩
 refine mf_cut [(0,.view 5 (db.map DA.av)),(3,.int .i64 n),(11,rwsV L),(21,.view 14 [.agg q.ls])] [] ?_ ?_
 · repeat' (first|(with_reducible first|(apply St.o;constructor)<;>intro _|refine And.intro (by omega) ?_|(apply Sq.o;constructor))|((with_reducible apply Sc.o false;constructor);simp only [lP,seval,ne_eq,not_true_eq_false,decide_false,Bool.not_true];refine ⟨_,h30,?_⟩;rintro _ _ ⟨rfl,rfl⟩;simp only [lA,lP,seval,ne_eq,not_true_eq_false,decide_false,Bool.not_true])|simp (disch:=omega) only [lE,seval,ne_eq,not_true_eq_false,decide_false,Bool.not_true])
   all_goals first
    | exact (ent [] true (by simp only [lP,seval,pa_els,pa_qls]<;>(try simp)<;>(try omega)) (by simp only [lP,seval,pa_els,pa_qls]<;>(try simp)<;>(try omega)))
    | exact ⟨rfl,(ent [] true (by simp only [lP,seval,pa_els,pa_qls]<;>(try simp)<;>(try omega)) (by simp only [lP,seval,pa_els,pa_qls]<;>(try simp)<;>(try omega)))⟩
 obtain ⟨hm0,hm1⟩:=leastR_rg (n:=n) (m:=20) (by omega) (by omega)
 have h37:=c37 n 20 (by omega)
 have mL:=mlim _ hm0
 generalize leastR n 20=m at *
 have m5:=k32_limW hdb m q hq mL
 have h39:=c39 (L.take m.toNat) (L.take (if (L.length:Int)<m then (L.length:Int) else m).toNat)
 have hlt:L.take (if (L.length:Int)<m then (L.length:Int) else m).toNat=L.take m.toNat:=by
  split
  · rw [Int.toNat_natCast,List.take_length,List.take_of_length_le (by omega)]
  · rfl
 rw [hlt,eqC_self] at h39
 refine mf_cut [(0,.view 5 (db.map DA.av)),(3,.int .i64 n),(11,rwsV L),(21,.view 14 [.agg q.ls]),(31,.int .i64 m)] [] ?_ ?_
 · repeat' (first|(with_reducible first|(apply St.o;constructor)<;>intro _|refine And.intro (by omega) ?_|(apply Sq.o;constructor))|((with_reducible apply Sc.o false;constructor);simp only [lP,seval];refine ⟨_,h37,?_⟩;rintro _ _ ⟨rfl,rfl⟩;simp only [lA,lP,seval])|simp (disch:=omega) only [lE,seval])
   all_goals first
    | exact (ent [] true (by simp only [lP,seval,pa_els,pa_qls]<;>(try simp)<;>(try omega)) (by simp only [lP,seval,pa_els,pa_qls]<;>(try simp)<;>(try omega)))
    | exact ⟨rfl,(ent [] true (by simp only [lP,seval,pa_els,pa_qls]<;>(try simp)<;>(try omega)) (by simp only [lP,seval,pa_els,pa_qls]<;>(try simp)<;>(try omega)))⟩
 refine mf_cut [(11,rwsV L),(31,.int .i64 m),(32,rwsV (L.take m.toNat)),(12,.int .i64 0)] [] ?_ ?_
 · repeat' (first|(with_reducible apply St.o;constructor) <;> intro _|((with_reducible refine mkl_view ?_ ?_ ?_);(focus decide);(focus rfl))|(with_reducible first|refine And.intro (by omega) ?_|(apply Sq.o;constructor))|((with_reducible apply Sc.o false;constructor);simp only [lP,seval,pa_els,pa_qls,renL_els,renL_qls,els_len,qls_len,take_qls,take_els,setAll,fillE];refine ⟨_,m5,?_⟩;rintro _ _ ⟨rfl,rfl⟩;simp only [lA,lP,seval,pa_els,pa_qls,renL_els,renL_qls,els_len,qls_len,take_qls,take_els,setAll,fillE])|simp (disch:=omega) only [lE,seval,pa_els,pa_qls,renL_els,renL_qls,els_len,qls_len,take_qls,take_els,setAll,fillE])
   all_goals first
    | exact (ent [] true (by simp only [lP,seval,pa_els,pa_qls]<;>(try simp)<;>(try omega)) (by simp only [lP,seval,pa_els,pa_qls]<;>(try simp)<;>(try omega)))
    | exact ⟨rfl,(ent [] true (by simp only [lP,seval,pa_els,pa_qls]<;>(try simp)<;>(try omega)) (by simp only [lP,seval,pa_els,pa_qls]<;>(try simp)<;>(try omega)))⟩
 refine mf_i ?_
 repeat' (first|(with_reducible first|(apply St.o;constructor)<;>intro _|refine And.intro (by omega) ?_|(apply Sq.o;constructor))|((with_reducible apply Sc.o false;constructor);simp only [lP,seval,List.length_map,← List.map_take,hlt,decide_true];(first|refine ⟨_,c13,?_⟩|refine ⟨_,h39,?_⟩);rintro _ _ ⟨rfl,rfl⟩;simp only [lA,lP,seval,List.length_map,← List.map_take,hlt,decide_true])|simp (disch:=omega) only [lE,seval,List.length_map,← List.map_take,hlt,decide_true])
 all_goals
  refine mf_go (mf_last ?_)
  simp only [lA,seval]
  repeat' (first|(with_reducible first|(apply St.o;constructor)<;>intro _|refine And.intro (by omega) ?_|(apply Sq.o;constructor))|simp (disch:=omega) only [lE,seval])
  exact keep_b rfl
end Go.Proofs.Try
