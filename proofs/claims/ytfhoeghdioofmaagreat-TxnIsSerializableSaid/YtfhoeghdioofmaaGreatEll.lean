/-
 A part of the proof.
-/
import Derived.Test.YtfhoeghdioofmaaGreatEkk
set_option linter.unusedSimpArgs false
set_option linter.unusedVariables false
namespace Go.Proofs.Try
open Go.Al
set_option maxRecDepth 100000
set_option maxHeartbeats 16000000
section
variable {s:SR} {H:List AObj} {N:Nat}
theorem d50 (hs:s.At H) (hok:OkS N s.ts) (hN:N<100000) (mode:Int):ACalls E.P 50 [.op s.X 0,.int .i64 mode] H (fun r H'=>r=.tup [.int .i64 (beginS s.ts mode).1.n,.int .i64 (beginS s.ts mode).1.e]/\∃ s',Upd s s' H H'/\s'.ts=(beginS s.ts mode).2) :=
 c50 hs (by have:=hok.sr.2.1;omega) (by have:=hok.bN;simp only [SR.ts] at this;omega) (by have:=hok.b0;simpa [SR.ts] using this) mode
theorem okm (hok:OkS N s.ts) {tx:Int}:∀ a,getM s.act tx=some a->OkT a.x/\a.x.log.length<=N:=fun a ha=>hok.sr.1 a (SR.act_mem (getM_mem ha))
theorem d51 (hs:s.At H) (hok:OkS N s.ts) (tx tab row:Int):ACalls E.P 51 [.op s.X 0,.int .i64 tx,.int .i64 tab,.int .i64 row] H (fun r H'=>r=.int .i64 (readS s.ts tx tab row).1/\∃ s',Upd s s' H H'/\s'.ts=(readS s.ts tx tab row).2) :=
 c51 hs tx tab row (fun a ha p hp=>fit_of ((okm hok a ha).1.rows p hp)) (fun a ha=>(okm hok a ha).1.nodup)
theorem d27 (hs:s.At H) (hok:OkS N s.ts) (hN:N<100000) (tx:Int) (w:WR) (hv:w.vals.length<=4398046510976):ACalls E.P 27 [.op s.X 0,.int .i64 tx,w.av] H (fun r H'=>r=.int .i64 (writeS s.ts tx w).1/\∃ s',Upd s s' H H'/\s'.ts=(writeS s.ts tx w).2) :=
 c27 hs tx w (fun a ha=>by have:=(okm hok a ha).2;omega) (fun a ha=>(okm hok a ha).1.fit) hv
theorem d52 (hs:s.At H) (hok:OkS N s.ts) (tx:Int):ACalls E.P 52 [.op s.X 0,.int .i64 tx] H (fun r H'=>r=(commitS s.ts tx).1.tupA/\∃ s',Upd s s' H H'/\s'.ts=(commitS s.ts tx).2) :=
 c52 hs (by have:=hok.sr.2.1;omega) (by have:=hok.sr.2.2;omega) (fun a ha=>(hok.sr.1 a ha).1) tx
theorem d53 (hs:s.At H) (hok:OkS N s.ts) (a:Int):ACalls E.P 53 [.op s.X 0,.int .i64 a] H (fun r H'=>r=.int .i64 (publishS s.ts a).1/\∃ s',Upd s s' H H'/\s'.ts=(publishS s.ts a).2) :=
 c53 hs (by have:=hok.sr.2.1;omega) a
theorem d54 (hs:s.At H) (hok:OkS N s.ts) (tx:Int):ACalls E.P 54 [.op s.X 0,.int .i64 tx] H (fun r H'=>r=.int .i64 (abortS s.ts tx).1/\∃ s',Upd s s' H H'/\s'.ts=(abortS s.ts tx).2) :=
 c54 hs (by have:=hok.sr.2.1;omega) tx
theorem d14 (hs:s.At H) (hok:OkS N s.ts):ACalls E.P 14 [.op s.X 0] H (fun r H'=>∃ n,r=.slc n 6 (histS s.ts).length/\H.length<=n/\H'[n]?=some (.arr 43 6 ((histS s.ts).map accA))/\Ext H H'):=by
 have hhl:(histS s.ts).length=s.all.length:=by simp [histS,histL,allS_ts]
 rw [hhl]
 exact c14 hs (by have:=hok.sr.2.1;omega) (by have:=hok.sr.2.2;omega) (fun a ha=>(hok.sr.1 a ha).1)
theorem flat_acc (x:Acc):∀ (γ:Gm) (σ:Sg) v,RepV γ σ (accA x) v->RepV γ [] (accA x) v:=flatA_agg (flatA_cons (fun _ _ _ h=>h) (flatA_cons (fun _ _ _ h=>h) (flatA_cons (fun _ _ _ h=>h) (flatA_cons (fun _ _ _ h=>h) (flatA_cons (fun _ _ _ h=>h) (flatA_cons (fun _ _ _ h=>h) flatA_nil))))))
theorem d14v (hs:s.At H) (hok:OkS N s.ts):ACalls E.P 14 [.op s.X 0] H (fun r H'=>r=.view 6 ((histS s.ts).map accA)/\Ext H H'):=by
 refine ACalls.lendR ((d14 hs hok).mono ?_)
 rintro r H' ⟨n,rfl,hn,hH,hx⟩
 exact ⟨n,43,6,(histS s.ts).map accA,by rw [List.length_map],hH,flatA_map flat_acc _,rfl,hx.trans (O':=fun i=>i=n) (Stay.set rfl) fun i hi e=>by omega⟩
def snapT (o:Option TX):AV:=match o with | some t=>.tup [.int .i64 t.snap,.int .i64 0] | none=>.tup [.int .i64 0,.int .i64 273]
theorem d18 (hs:s.At H) (tx:Int):ACalls E.P 18 [.op s.X 0,.int .i64 tx] H (fun r H'=>r=snapT (getT s.ts tx)/\H'=H):=by
 refine (c18 hs tx).mono ?_
 rintro r H' ⟨rfl,rfl⟩
 refine ⟨?_,rfl⟩
 rw [getT_ts]
 cases getM s.act tx <;> rfl
end
theorem okS_new (last:Int):OkS 0 ⟨last,last,0,[],[]⟩:=⟨by simp,by simp,by simp,by simp [allS]⟩
def xw (n:Int):WR:=⟨0,n,false,[]⟩
def u0:TS:=⟨4,4,0,[],[]⟩
def u1:TS:=⟨4,4,1,[],[(1,⟨1,4,false,0,[],[],[]⟩)]⟩
def u2:TS:=⟨4,4,2,[],[(1,⟨1,4,false,0,[],[],[]⟩),(2,⟨1,4,false,0,[],[],[]⟩)]⟩
def u3:TS:=⟨4,4,3,[],[(1,⟨1,4,false,0,[],[],[]⟩),(2,⟨1,4,false,0,[],[],[]⟩),(3,⟨2,4,false,0,[],[],[]⟩)]⟩
def u4:TS:=⟨4,4,3,[],[(1,⟨1,4,false,0,[],[(0,7)],[]⟩),(2,⟨1,4,false,0,[],[],[]⟩),(3,⟨2,4,false,0,[],[],[]⟩)]⟩
def u5:TS:=⟨4,4,3,[],[(1,⟨1,4,false,0,[xw 8],[(0,7)],[]⟩),(2,⟨1,4,false,0,[],[],[]⟩),(3,⟨2,4,false,0,[],[],[]⟩)]⟩
def u6:TS:=⟨4,4,3,[],[(1,⟨1,4,false,0,[xw 8],[(0,7)],[]⟩),(2,⟨1,4,false,0,[],[],[0]⟩),(3,⟨2,4,false,0,[],[],[]⟩)]⟩
def u7:TS:=⟨4,4,3,[],[(1,⟨1,4,false,0,[xw 8],[(0,7)],[]⟩),(2,⟨1,4,false,0,[xw 7],[],[0]⟩),(3,⟨2,4,false,0,[],[],[]⟩)]⟩
def u8:TS:=⟨5,4,3,[⟨1,4,true,5,[xw 8],[(0,7)],[]⟩],[(2,⟨1,4,false,0,[xw 7],[],[0]⟩),(3,⟨2,4,false,0,[],[],[]⟩)]⟩
def u9:TS:=⟨5,4,3,[⟨1,4,true,5,[xw 8],[(0,7)],[]⟩],[(3,⟨2,4,false,0,[],[],[]⟩)]⟩
def u10:TS:=⟨5,4,4,[⟨1,4,true,5,[xw 8],[(0,7)],[]⟩],[(3,⟨2,4,false,0,[],[],[]⟩),(4,⟨0,4,false,0,[],[],[]⟩)]⟩
def u11:TS:=⟨5,5,4,[⟨1,4,true,5,[xw 8],[(0,7)],[]⟩],[(3,⟨2,4,false,0,[],[],[]⟩),(4,⟨0,4,false,0,[],[],[]⟩)]⟩
def u12:TS:=⟨5,5,5,[⟨1,4,true,5,[xw 8],[(0,7)],[]⟩],[(3,⟨2,4,false,0,[],[],[]⟩),(4,⟨0,4,false,0,[],[],[]⟩),(5,⟨0,5,false,0,[],[],[]⟩)]⟩
def u13:TS:=⟨5,5,5,[⟨1,4,true,5,[xw 8],[(0,7)],[]⟩],[(3,⟨2,4,false,0,[],[],[]⟩),(4,⟨0,4,false,0,[xw 8],[],[]⟩),(5,⟨0,5,false,0,[],[],[]⟩)]⟩
def u14:TS:=⟨5,5,5,[⟨1,4,true,5,[xw 8],[(0,7)],[]⟩],[(3,⟨2,4,false,0,[],[],[]⟩),(5,⟨0,5,false,0,[],[],[]⟩)]⟩
def u15:TS:=⟨5,5,5,[],[(5,⟨0,5,false,0,[],[],[]⟩)]⟩
def u16:TS:=⟨5,5,5,[],[]⟩
def h7:List Acc:=[⟨1,4,false,0,[7],[8]⟩,⟨1,4,false,0,[8],[7]⟩,⟨2,4,false,0,[],[]⟩]
def h8:List Acc:=[⟨1,4,true,5,[7],[8]⟩,⟨1,4,false,0,[8],[7]⟩,⟨2,4,false,0,[],[]⟩]
def h13:List Acc:=[⟨1,4,true,5,[7],[8]⟩,⟨2,4,false,0,[],[]⟩,⟨0,4,false,0,[],[8]⟩,⟨0,5,false,0,[],[]⟩]
theorem v1:beginS u0 1=(⟨1,[],0⟩,u1):=rfl
theorem v2:beginS u1 1=(⟨2,[],0⟩,u2):=rfl
theorem v3:beginS u2 2=(⟨3,[],0⟩,u3):=rfl
theorem v4:readS u3 1 0 7=(0,u4):=rfl
theorem v5:writeS u4 1 (xw 8)=(0,u5):=rfl
theorem v6:readS u5 2 0 0=(0,u6):=rfl
theorem v7:writeS u6 2 (xw 7)=(0,u7):=rfl
theorem v7b:writeS u7 3 (xw 1)=(270,u7):=rfl
theorem hh7:histS u7=h7:=rfl
theorem hh8:histS u8=h8:=rfl
theorem hh13:histS u13=h13:=rfl
theorem ck7:checkS h7=0:=check_of (by decide) (by decide) (by decide)
theorem ck8:checkS h8=0:=check_of (by decide) (by decide) (by decide)
theorem ck13:checkS h13=0:=check_of (by decide) (by decide) (by decide)
theorem no_lost {h:List Acc} {n:Nat} (hd:∀ k,k<h.length->(at' h k).done=true->Meet (at' h n).writes (at' h k).writes->¬ (at' h n).snap<(at' h k).stamp):¬ LostW h n:=by
 rintro ⟨k,hk,h1,h2,h3⟩
 exact hd k hk h1 h2 h3
theorem ad7:admitS h7 0=(5,0):=by
 rw [admitS,if_neg (by rw [ck7];decide),if_neg (by decide)]
 refine admitN_ok (by decide) (no_lost (by decide)) fun h=>?_
 obtain ⟨a,b,c,ha,hb,hc,hd,_⟩:=h.2
 have:∀ a,a<3->∀ b,b<3->∀ c,c<3->¬ Dang (withS h7 0 (stampS h7 0)) a b c:=by decide
 exact this a ha b hb c hc hd
theorem ad8:admitS h8 1=(0,272):=by
 rw [admitS,if_neg (by rw [ck8];decide),if_neg (by decide)]
 exact admitN_dang (by decide) (no_lost (by decide)) rfl ⟨0,1,0,by decide,by decide,by decide,by decide,by decide⟩
theorem ad13:admitS h13 2=(0,271):=by
 rw [admitS,if_neg (by rw [ck13];decide),if_neg (by decide)]
 show admitN h13 2=_
 rw [admitN,if_neg (by decide),if_pos]
 exact ⟨0,by decide,by decide,by decide,by decide⟩
theorem commit_err {s:TS} {tx:Int} {t:TX} {h:List Acc} {i:Nat} {x e:Int} (hg:getT s tx=some t) (hh:histS s=h) (hi:idxT s tx=i) (ha:admitS h i=(x,e)) (he:e≠0):commitS s tx=(⟨0,[],e⟩,forgetS (delT s tx)):=by
 unfold commitS
 rw [hg]
 simp only
 rw [hh,hi,ha,if_pos he]
theorem commit_ok {s:TS} {tx:Int} {t:TX} {h:List Acc} {i:Nat} {x:Int} (hg:getT s tx=some t) (hh:histS s=h) (hi:idxT s tx=i) (ha:admitS h i=(x,0)):commitS s tx=(⟨x,lastW t.log,0⟩,forgetS { delT s tx with last:=if 0<x then x else s.last,kept:=s.kept++[{ t with done:=true,stamp:=x }] }):=by
 unfold commitS
 rw [hg]
 simp only
 rw [hh,hi,ha,if_neg (by simp)]
theorem v8:commitS u7 1=(⟨5,[xw 8],0⟩,u8):=(commit_ok (t:=⟨1,4,false,0,[xw 8],[(0,7)],[]⟩) rfl hh7 (i:=0) rfl ad7).trans rfl
theorem v9:commitS u8 2=(⟨0,[],272⟩,u9):=(commit_err (t:=⟨1,4,false,0,[xw 7],[],[0]⟩) rfl hh8 (i:=1) rfl ad8 (by decide)).trans rfl
theorem v10:beginS u9 0=(⟨4,[],0⟩,u10):=rfl
theorem v11:publishS u10 5=(0,u11):=rfl
theorem v12:beginS u11 0=(⟨5,[],0⟩,u12):=rfl
theorem v13:writeS u12 4 (xw 8)=(0,u13):=rfl
theorem v14:commitS u13 4=(⟨0,[],271⟩,u14):=(commit_err (t:=⟨0,4,false,0,[xw 8],[],[]⟩) rfl hh13 (i:=2) rfl ad13 (by decide)).trans rfl
theorem v14b:abortS u14 4=(273,u14):=rfl
theorem v15:abortS u14 3=(0,u15):=rfl
theorem v16:abortS u15 5=(0,u16):=rfl
open Go.Proofs.Tryz
abbrev q12_0:MI:=oZ 0
def mc12:MC:=(.seq (.ops [(none,q12_0)]) (.seq (.ops [(none,.e (.call (some 23) 11 [.c (.int .i64 4)])),pM 1 23]) (.seq (.seq (.ops [pM 24 1,(none,.v (.eq 25 false .ptr (.t 24) (.c (.raw (.pointer none))))),pM 26 25,(some (26,false),.e (.call (some 27) 11 [.c (.int .i64 (-1))])),(some (26,false),.v (.eq 28 true .ptr (.t 27) (.c (.raw (.pointer none))))),pO 29 26 28]) (.cond 29 (.seq (.ops [(none,q12_0)]) .ret) .skip)) (.seq (.ops [pM 31 1,(none,.e (.call (some 32) 50 [.t 31,.c (.int .i64 1)])),pM 30 32,pX 33 0 30,pX 34 1 30,pM 2 33,pM 3 34]) (.seq (.ops [pM 36 1,(none,.e (.call (some 37) 50 [.t 36,.c (.int .i64 1)])),pM 35 37,pX 38 0 35,pX 39 1 35,pM 4 38,pM 5 39]) (.seq (.ops [pM 41 1,(none,.e (.call (some 42) 50 [.t 41,.c (.int .i64 2)])),pM 40 42,pX 43 0 40,pX 44 1 40,pM 6 43,pM 7 44]) (.seq (.ops [pM 45 1,pM 46 2,(none,.e (.call (some 47) 51 [.t 45,.t 46,.c (.int .i64 0),.c (.int .i64 7)])),pE 48 47 0,pM 49 48,gT 49 (oM 50 1),gT 49 (oM 51 2),(some (49,true),.v (.build 52 z1 [(1,1,.c (.int .i64 8))])),(some (49,true),.e (.call (some 53) 27 [.t 50,.t 51,.t 52])),gT 49 (oE 54 53 0),pP 55 49 54,pM 56 55,gT 56 (oM 57 1),gT 56 (oM 58 4),(some (56,true),.e (.call (some 59) 51 [.t 57,.t 58,.c (.int .i64 0),.c (.int .i64 0)])),gT 56 (oE 60 59 0),pP 61 56 60,pM 62 61,gT 62 (oM 63 1),gT 62 (oM 64 4),(some (62,true),.v (.build 65 z1 [(1,1,.c (.int .i64 7))])),(some (62,true),.e (.call (some 66) 27 [.t 63,.t 64,.t 65])),gT 62 (oE 67 66 0),pP 68 62 67,pM 69 68,gT 69 (oM 70 1),gT 69 (oM 71 6),(some (69,true),.v (.build 72 z1 [(1,1,.c (.int .i64 1))])),(some (69,true),.e (.call (some 73) 27 [.t 70,.t 71,.t 72])),gT 69 (oE 74 73 270),pP 75 69 74,pM 8 75]) (.seq (.seq (.ops [pM 76 3,pD 77 76 0,pM 78 77,gF 78 (oM 79 5),gF 78 (oD 80 79 0),pO 81 78 80,pM 82 81,gF 82 (oM 83 7),gF 82 (oD 84 83 0),pO 85 82 84,pM 86 85,gF 86 (oM 87 8),gF 86 (oN 88 87),pO 89 86 88,pM 90 89,gF 90 (oM 91 2),gF 90 (oD 92 91 1),pO 93 90 92,pM 94 93,gF 94 (oM 95 4),gF 94 (oD 96 95 2),pO 97 94 96,pM 98 97,gF 98 (oM 99 6),gF 98 (oD 100 99 3),pO 101 98 100]) (.cond 101 (.seq (.ops [(none,q12_0)]) .ret) .skip)) (.seq (.ops [pM 103 1,pM 104 2,pW 105 52 103 104,pM 102 105,pX 106 0 102,pX 107 1 102,pX 108 2 102,pM 9 106,pM 10 107,pM 3 108]) (.seq (.ops [pM 109 1,pV 110 14 109,pM 11 110]) (.seq (.ops [pM 112 1,pM 113 4,pW 114 52 112 113,pM 111 114,pX 115 0 111,pX 116 1 111,pX 117 2 111,pM 5 117]) (.seq (.ops [pM 119 1,(none,.e (.call (some 120) 50 [.t 119,.c (.int .i64 0)])),pM 118 120,pX 121 0 118,pX 122 1 118,pM 12 121,pM 13 122]) (.seq (.ops [pM 124 1,pM 125 12,pW 126 18 124 125,pM 123 126,pX 127 0 123,pX 128 1 123,pM 14 127,pM 15 128]) (.seq (.ops [pM 129 1,(none,.e (.call (some 130) 53 [.t 129,.c (.int .i64 5)])),pM 16 130]) (.seq (.ops [pM 132 1,(none,.e (.call (some 133) 50 [.t 132,.c (.int .i64 0)])),pM 131 133,pX 134 0 131,pX 135 1 131,pM 17 134,pM 18 135]) (.seq (.ops [pM 137 1,pM 138 17,pW 139 18 137 138,pM 136 139,pX 140 0 136,pX 141 1 136,pM 19 140,pM 20 141]) (.seq (.ops [pM 142 1,pM 143 12,(none,.v (.build 144 z1 [(1,1,.c (.int .i64 8))])),(none,.e (.call (some 145) 27 [.t 142,.t 143,.t 144])),pM 21 145]) (.seq (.ops [pM 147 1,pM 148 12,pW 149 52 147 148,pM 146 149,pX 150 0 146,pX 151 1 146,pX 152 2 146,pM 7 152]) (.seq (.ops [pM 153 1,pM 154 12,pW 155 54 153 154,pM 22 155]) (.seq (.ops [pM 156 1,pM 157 6,pW 158 54 156 157]) (.seq (.ops [pM 159 1,pM 160 17,pW 161 54 159 160]) (.seq (.seq (.ops [pM 162 9,pD 163 162 5,pM 164 163,gF 164 (oM 165 10),gF 164 (oG 166 165),gF 164 (oD 167 166 1),pO 168 164 167,pM 169 168,gF 169 (oM 170 3),gF 169 (oD 171 170 0),pO 172 169 171,pM 173 172,gF 173 (oM 174 5),gF 173 (oD 175 174 272),pO 176 173 175,pM 177 176,gF 177 (oM 178 7),gF 177 (oD 179 178 271),pO 180 177 179,pM 181 180,gF 181 (oM 182 22),gF 181 (oD 183 182 273),pO 184 181 183,pM 185 184,gF 185 (oM 186 14),gF 185 (oD 187 186 4),pO 188 185 187,pM 189 188,gF 189 (oM 190 19),gF 189 (oD 191 190 5),pO 192 189 191,pM 193 192,gF 193 (oM 194 16),gF 193 (oD 195 194 0),pO 196 193 195,pM 197 196,gF 197 (oM 198 21),gF 197 (oD 199 198 0),pO 200 197 199,pM 201 200,gF 201 (oM 202 1),gF 201 (oV 203 14 202),gF 201 (oG 204 203),gF 201 (oD 205 204 0),pO 206 201 205]) (.cond 206 (.seq (.ops [(none,q12_0)]) .ret) .skip)) (.seq (.ops [pM 207 11,pG 208 207,pE 209 208 3,pM 210 209,gT 210 (oM 211 11),(some (210,true),.p (.pre 212 6 (.t 211) (some (.c (.int .i64 1))))),(some (210,true),.e (.mkl 213 3 1 1 (.int .i64 0) [(0,.c (.int .i64 7))])),(some (210,true),.e (.mkl 214 3 1 1 (.int .i64 0) [(0,.c (.int .i64 8))])),(some (210,true),.v (.build 215 z0 [(0,1,.c (.int .i64 1)),(1,1,.c (.int .i64 4)),(2,1,.c (.bool true)),(3,1,.c (.int .i64 5)),(4,1,.t 213),(5,1,.t 214)])),(some (210,true),.e (.mkl 216 43 6 1 (.agg z0) [(0,.t 215)])),gT 210 (oW 217 38 212 216),pP 218 210 217,pM 219 218,(some (219,true),.e (.call (some 220) 46 [.c (.int .i64 1),.c (.int .i64 2)])),gT 219 (oE 221 220 2147483650),pP 222 219 221,pM 0 222]) .ret)))))))))))))))))))))))
theorem ok12:FnOk E 12 223 [.tmp 0] mc12:=ofk func12
set_option maxHeartbeats 40000000
theorem w0:OkS 0 u0:=okS_new 4
theorem w1:OkS 1 u1:=by have:=w0.begin 1;rw [v1] at this;exact this
theorem w2:OkS 2 u2:=by have:=w1.begin 1;rw [v2] at this;exact this
theorem w3:OkS 3 u3:=by have:=w2.begin 2;rw [v3] at this;exact this
theorem w4:OkS 4 u4:=by have:=w3.read 1 0 7;rw [v4] at this;exact this
theorem w5:OkS 5 u5:=by have:=w4.write (by omega) 1 (xw 8);rw [v5] at this;exact this
theorem w6:OkS 6 u6:=by have:=w5.read 2 0 0;rw [v6] at this;exact this
theorem w7:OkS 7 u7:=by have:=w6.write (by omega) 2 (xw 7);rw [v7] at this;exact this
theorem w8:OkS 7 u8:=by have:=w7.commit 1;rw [v8] at this;exact this
theorem w9:OkS 7 u9:=by have:=w8.commit 2;rw [v9] at this;exact this
theorem w10:OkS 8 u10:=by have:=w9.begin 0;rw [v10] at this;exact this
theorem w11:OkS 8 u11:=by have:=w10.publish 5;rw [v11] at this;exact this
theorem w12:OkS 9 u12:=by have:=w11.begin 0;rw [v12] at this;exact this
theorem w13:OkS 10 u13:=by have:=w12.write (by omega) 4 (xw 8);rw [v13] at this;exact this
theorem w14:OkS 10 u14:=by have:=w13.commit 4;rw [v14] at this;exact this
theorem w15:OkS 10 u15:=by have:=w14.abort 3;rw [v15] at this;exact this
theorem w16:OkS 10 u16:=by have:=w15.abort 5;rw [v16] at this;exact this
section
variable {s:SR} {H:List AObj} {X:Nat}
def TsAt (X:Nat) (H:List AObj) (u:TS):Prop:=∃ s:SR,s.At H/\s.X=X/\s.ts=u
theorem TsAt.box {H:List AObj} {u:TS} (h:TsAt X H u):∃ cs,H[X]?=some (.box cs):=by
 obtain ⟨s,h1,rfl,_⟩:=h
 exact ⟨_,h1.box⟩
theorem TsAt.upd {s s':SR} {H H':List AObj} {u:TS} (hX:s.X=X) (hu:Upd s s' H H') (ht:s'.ts=u):TsAt X H' u:=⟨s',hu.at',hu.x.trans hX,ht⟩
theorem t50 {u u':TS} {N:Nat} {n e mode:Int} {w:List WR} (h:TsAt X H u) (hok:OkS N u) (hN:N<100000) (hv:beginS u mode=(⟨n,w,e⟩,u')):ACalls E.P 50 [.op X 0,.int .i64 mode] H (fun r H'=>r=.tup [.int .i64 n,.int .i64 e]/\TsAt X H' u'):=by
 obtain ⟨s,hs,rfl,rfl⟩:=h
 refine (d50 hs hok hN mode).mono ?_
 rintro r H' ⟨rfl,s',hu,ht⟩
 rw [hv] at ht ⊢
 exact ⟨rfl,.upd rfl hu ht⟩
theorem t51 {u u':TS} {N:Nat} {tx tab row e:Int} (h:TsAt X H u) (hok:OkS N u) (hv:readS u tx tab row=(e,u')):ACalls E.P 51 [.op X 0,.int .i64 tx,.int .i64 tab,.int .i64 row] H (fun r H'=>r=.int .i64 e/\TsAt X H' u'):=by
 obtain ⟨s,hs,rfl,rfl⟩:=h
 refine (d51 hs hok tx tab row).mono ?_
 rintro r H' ⟨rfl,s',hu,ht⟩
 rw [hv] at ht ⊢
 exact ⟨rfl,.upd rfl hu ht⟩
theorem t27 {u u':TS} {N:Nat} {tx e:Int} {w:WR} (h:TsAt X H u) (hok:OkS N u) (hN:N<100000) (hl:w.vals.length<=4398046510976) (hv:writeS u tx w=(e,u')):ACalls E.P 27 [.op X 0,.int .i64 tx,w.av] H (fun r H'=>r=.int .i64 e/\TsAt X H' u'):=by
 obtain ⟨s,hs,rfl,rfl⟩:=h
 refine (d27 hs hok hN tx w hl).mono ?_
 rintro r H' ⟨rfl,s',hu,ht⟩
 rw [hv] at ht ⊢
 exact ⟨rfl,.upd rfl hu ht⟩
theorem t52 {u u':TS} {N:Nat} {tx:Int} {R:RS} (h:TsAt X H u) (hok:OkS N u) (hv:commitS u tx=(R,u')):ACalls E.P 52 [.op X 0,.int .i64 tx] H (fun r H'=>r=R.tupA/\TsAt X H' u'):=by
 obtain ⟨s,hs,rfl,rfl⟩:=h
 refine (d52 hs hok tx).mono ?_
 rintro r H' ⟨rfl,s',hu,ht⟩
 rw [hv] at ht ⊢
 exact ⟨rfl,.upd rfl hu ht⟩
theorem t53 {u u':TS} {N:Nat} {a e:Int} (h:TsAt X H u) (hok:OkS N u) (hv:publishS u a=(e,u')):ACalls E.P 53 [.op X 0,.int .i64 a] H (fun r H'=>r=.int .i64 e/\TsAt X H' u'):=by
 obtain ⟨s,hs,rfl,rfl⟩:=h
 refine (d53 hs hok a).mono ?_
 rintro r H' ⟨rfl,s',hu,ht⟩
 rw [hv] at ht ⊢
 exact ⟨rfl,.upd rfl hu ht⟩
theorem t54 {u u':TS} {N:Nat} {tx e:Int} (h:TsAt X H u) (hok:OkS N u) (hv:abortS u tx=(e,u')):ACalls E.P 54 [.op X 0,.int .i64 tx] H (fun r H'=>r=.int .i64 e/\TsAt X H' u'):=by
 obtain ⟨s,hs,rfl,rfl⟩:=h
 refine (d54 hs hok tx).mono ?_
 rintro r H' ⟨rfl,s',hu,ht⟩
 rw [hv] at ht ⊢
 exact ⟨rfl,.upd rfl hu ht⟩
theorem t14 {u:TS} {N:Nat} (h:TsAt X H u) (hok:OkS N u):ACalls E.P 14 [.op X 0] H (fun r H'=>r=.view 6 ((histS u).map accA)/\TsAt X H' u):=by
 obtain ⟨s,hs,rfl,rfl⟩:=h
 refine (d14v hs hok).mono ?_
 rintro r H' ⟨rfl,hx⟩
 exact ⟨rfl,s,hs.ext hx,rfl,rfl⟩
theorem t18 {u:TS} (h:TsAt X H u) (tx:Int):ACalls E.P 18 [.op X 0,.int .i64 tx] H (fun r H'=>r=snapT (getT u tx)/\TsAt X H' u):=by
 obtain ⟨s,hs,rfl,rfl⟩:=h
 refine (d18 hs tx).mono ?_
 rintro r H' ⟨rfl,rfl⟩
 exact ⟨rfl,s,hs,rfl,rfl⟩
end
theorem ACalls.weakA {P:Program} {f:FuncId} {args args':List AV} {H:List AObj} {Q:AV->List AObj->Prop} (hw:WeakL args args') (h:ACalls P f args' H Q):ACalls P f args H Q:=⟨h.1,fun γ σ w vs hi hv=>h.2 γ σ w vs hi (hw _ _ _ hv)⟩
theorem t27x {u u':TS} {N:Nat} {tx e n:Int} {X:Nat} {H:List AObj} (h:TsAt X H u) (hok:OkS N u) (hN:N<100000) (hv:writeS u tx (xw n)=(e,u')):ACalls E.P 27 [.op X 0,.int .i64 tx,.agg [.int .i64 0,.int .i64 n,.bool false,.raw (.slice none 0 0)]] H (fun r H'=>r=.int .i64 e/\TsAt X H' u') :=
 ACalls.weakA (.cons (.refl _) (.cons (.refl _) (.cons (WeakL.agg (.cons (.refl _) (.cons (.refl _) (.cons (.refl _) (.cons weak_nil (.refl _)))))) (.refl _)))) (t27 h hok hN (by simp [xw]) hv)
theorem c12:ACalls E.P 12 [] [] (fun r H=>r=.bool true/\H=[]):=by
 refine ok12.acalls hE hm (by simp) fun N hN=>?_
 unfold mc12 q12_0 z0 z1 pM pO pX pE pP pD pW pV pG gT gF oM oE oD oZ oN oG oV oW
 simp only [lA,seval]
 repeat' (first|(with_reducible first|(apply St.o;constructor)<;>intro _|refine ai ?_|(apply Sq.o;constructor))|simp (disch:=omega) only [lE,seval])
 refine callW_i (c11 4) ?_
 rintro r H0 (⟨hn,_⟩ | ⟨_,s0,hs0,rfl,ht0,hx0,hi0⟩)
 . exact absurd (show okLast 4 by unfold okLast;omega) hn
 have a0:TsAt s0.X H0 u0:=⟨s0,hs0,rfl,ht0⟩
 generalize s0.X=X at *
 clear hs0 ht0 hx0 hi0
 obtain ⟨cs0,b0⟩:=a0.box
 repeat' (first|(with_reducible first|(apply St.o;constructor)<;>intro _|refine ai ?_|(apply Sq.o;constructor))|simp (disch:=omega) only [lE,seval,b0,isNil,Go.Al.ptrEq])
 refine callW_i (c11 (-1)) ?_
 rintro r H1 (⟨_,rfl,rfl⟩ | ⟨hn,_⟩)
 rotate_left
 . exact absurd hn (by unfold okLast;omega)
 repeat' (first|(with_reducible first|(apply St.o;constructor)<;>intro _|refine ai ?_|(apply Sq.o;constructor))|simp (disch:=omega) only [lE,seval,isNil,Go.Al.ptrEq])
 refine callW_i (t50 a0 w0 (by omega) v1) ?_
 rintro _ H1 ⟨rfl,a1⟩
 repeat' (first|(with_reducible first|(apply St.o;constructor)<;>intro _|refine ai ?_|(apply Sq.o;constructor))|simp (disch:=omega) only [lE,seval])
 refine callW_i (t50 a1 w1 (by omega) v2) ?_
 rintro _ H2 ⟨rfl,a2⟩
 repeat' (first|(with_reducible first|(apply St.o;constructor)<;>intro _|refine ai ?_|(apply Sq.o;constructor))|simp (disch:=omega) only [lE,seval])
 refine callW_i (t50 a2 w2 (by omega) v3) ?_
 rintro _ H3 ⟨rfl,a3⟩
 repeat' (first|(with_reducible first|(apply St.o;constructor)<;>intro _|refine ai ?_|(apply Sq.o;constructor))|simp (disch:=omega) only [lE,seval])
 refine callW_i (t51 a3 w3 v4) ?_
 rintro _ H4 ⟨rfl,a4⟩
 repeat' (first|(with_reducible first|(apply St.o;constructor)<;>intro _|refine ai ?_|(apply Sq.o;constructor))|simp (disch:=omega) only [lE,seval])
 refine callW_i (t27x a4 w4 (by omega) v5) ?_
 rintro _ H5 ⟨rfl,a5⟩
 repeat' (first|(with_reducible first|(apply St.o;constructor)<;>intro _|refine ai ?_|(apply Sq.o;constructor))|simp (disch:=omega) only [lE,seval])
 refine callW_i (t51 a5 w5 v6) ?_
 rintro _ H6 ⟨rfl,a6⟩
 repeat' (first|(with_reducible first|(apply St.o;constructor)<;>intro _|refine ai ?_|(apply Sq.o;constructor))|simp (disch:=omega) only [lE,seval])
 refine callW_i (t27x a6 w6 (by omega) v7) ?_
 rintro _ H7 ⟨rfl,a7⟩
 repeat' (first|(with_reducible first|(apply St.o;constructor)<;>intro _|refine ai ?_|(apply Sq.o;constructor))|simp (disch:=omega) only [lE,seval])
 refine callW_i (t27x a7 w7 (by omega) v7b) ?_
 rintro _ H8 ⟨rfl,a8⟩
 repeat' (first|(with_reducible first|(apply St.o;constructor)<;>intro _|refine ai ?_|(apply Sq.o;constructor))|simp (disch:=omega) only [lE,seval])
 refine callW_i (t52 a8 w7 v8) ?_
 rintro _ H9 ⟨rfl,a9⟩
 simp only [RS.tupA]
 repeat' (first|(with_reducible first|(apply St.o;constructor)<;>intro _|refine ai ?_|(apply Sq.o;constructor))|simp (disch:=omega) only [lE,seval])
 refine callW_i (t14 a9 w8) ?_
 rintro _ H10 ⟨rfl,a10⟩
 repeat' (first|(with_reducible first|(apply St.o;constructor)<;>intro _|refine ai ?_|(apply Sq.o;constructor))|simp (disch:=omega) only [lE,seval])
 refine callW_i (t52 a10 w8 v9) ?_
 rintro _ H11 ⟨rfl,a11⟩
 simp only [RS.tupA]
 repeat' (first|(with_reducible first|(apply St.o;constructor)<;>intro _|refine ai ?_|(apply Sq.o;constructor))|simp (disch:=omega) only [lE,seval])
 refine callW_i (t50 a11 w9 (by omega) v10) ?_
 rintro _ H12 ⟨rfl,a12⟩
 repeat' (first|(with_reducible first|(apply St.o;constructor)<;>intro _|refine ai ?_|(apply Sq.o;constructor))|simp (disch:=omega) only [lE,seval])
 refine callW_i (t18 a12 4) ?_
 rintro _ H13 ⟨rfl,a13⟩
 rw [show getT u10 4=some ⟨0,4,false,0,[],[],[]⟩ from rfl]
 simp only [snapT]
 repeat' (first|(with_reducible first|(apply St.o;constructor)<;>intro _|refine ai ?_|(apply Sq.o;constructor))|simp (disch:=omega) only [lE,seval])
 refine callW_i (t53 a13 w10 v11) ?_
 rintro _ H14 ⟨rfl,a14⟩
 repeat' (first|(with_reducible first|(apply St.o;constructor)<;>intro _|refine ai ?_|(apply Sq.o;constructor))|simp (disch:=omega) only [lE,seval])
 refine callW_i (t50 a14 w11 (by omega) v12) ?_
 rintro _ H15 ⟨rfl,a15⟩
 repeat' (first|(with_reducible first|(apply St.o;constructor)<;>intro _|refine ai ?_|(apply Sq.o;constructor))|simp (disch:=omega) only [lE,seval])
 refine callW_i (t18 a15 5) ?_
 rintro _ H16 ⟨rfl,a16⟩
 rw [show getT u12 5=some ⟨0,5,false,0,[],[],[]⟩ from rfl]
 simp only [snapT]
 repeat' (first|(with_reducible first|(apply St.o;constructor)<;>intro _|refine ai ?_|(apply Sq.o;constructor))|simp (disch:=omega) only [lE,seval])
 refine callW_i (t27x a16 w12 (by omega) v13) ?_
 rintro _ H17 ⟨rfl,a17⟩
 repeat' (first|(with_reducible first|(apply St.o;constructor)<;>intro _|refine ai ?_|(apply Sq.o;constructor))|simp (disch:=omega) only [lE,seval])
 refine callW_i (t52 a17 w13 v14) ?_
 rintro _ H18 ⟨rfl,a18⟩
 simp only [RS.tupA]
 repeat' (first|(with_reducible first|(apply St.o;constructor)<;>intro _|refine ai ?_|(apply Sq.o;constructor))|simp (disch:=omega) only [lE,seval])
 refine callW_i (t54 a18 w14 v14b) ?_
 rintro _ H19 ⟨rfl,a19⟩
 repeat' (first|(with_reducible first|(apply St.o;constructor)<;>intro _|refine ai ?_|(apply Sq.o;constructor))|simp (disch:=omega) only [lE,seval])
 refine callW_i (t54 a19 w14 v15) ?_
 rintro _ H20 ⟨rfl,a20⟩
 repeat' (first|(with_reducible first|(apply St.o;constructor)<;>intro _|refine ai ?_|(apply Sq.o;constructor))|simp (disch:=omega) only [lE,seval])
 refine callW_i (t54 a20 w15 v16) ?_
 rintro _ H21 ⟨rfl,a21⟩
 have hlen:∀ w:WR,(List.map WR.av [w]).length=1:=fun _=>rfl
 repeat' (first|(with_reducible first|(apply St.o;constructor)<;>intro _|refine ai ?_|(apply Sq.o;constructor))|simp (disch:=omega) only [lE,seval,hlen])
 refine callW_i (t14 a21 w16) ?_
 rintro _ H22 ⟨rfl,a22⟩
 have e16:(histS u16).map accA=[]:=rfl
 have e8:(histS u8).map accA=h8.map accA:=rfl
 have c38':=c38 (h8.take 1) [⟨1,4,true,5,[7],[8]⟩]
 have c46':=c46 1 2 (by omega) (by omega)
 rw [e16,e8]
 repeat' (first|(with_reducible apply St.o;constructor) <;> intro _|((with_reducible refine mkl_view ?_ ?_ ?_);(focus decide);(focus rfl))|(with_reducible first|refine ai ?_|(apply Sq.o;constructor))|((with_reducible apply Sc.o true;constructor);simp only [lP,seval,List.length_nil,List.length_map];(first|refine ⟨_,c38',?_⟩|refine ⟨_,c46',?_⟩);rintro _ _ ⟨rfl,rfl⟩;simp only [lA,lP,seval,List.length_nil,List.length_map])|simp (disch:=omega) only [lE,seval,List.length_nil,List.length_map])
 . exact keep_b rfl
 . rename_i h;exact absurd rfl h
 . rename_i h;exact absurd rfl h
end Go.Proofs.Try
