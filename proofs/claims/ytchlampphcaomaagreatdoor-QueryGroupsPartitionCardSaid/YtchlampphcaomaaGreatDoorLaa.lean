/-
 A part of the proof: see the text of the law.
-/
import Derived.Test.YtchlampphcaomaaGreatDoorEaz
set_option linter.unusedSimpArgs false
set_option linter.unusedVariables false
namespace Go.Proofs.Try
open Go.Proofs.Tryz
open Go.Al
set_option maxRecDepth 100000
set_option maxRecDepth 20000
set_option maxHeartbeats 64000000
theorem light_ok {db:List DA} {q:QY} {m:Int} (hm:m≤12) (h:lightB db q m=true):DbOk db:=by
 have h1:fewB db m=true:=by
  simp only [lightB,Bool.and_eq_true] at h
  exact h.1.1
 simp only [fewB,decide_eq_true_eq] at h1
 exact ⟨fun d hd=>(h1.2 d hd).1,fun d hd=>by have:=(h1.2 d hd).2.2;omega,fun d hd=>by have:=(h1.2 d hd).2.1;omega,by omega⟩
theorem k14 (e:EX) (q:QY):ACalls E.P 14 [.agg e.ls,.agg q.ls] [] (fun r H=>r=.agg (filtQ e q).ls∧H=[]):=by
 have:=c14 e q
 simp only [av_fs,q_av] at this
 exact this
theorem k16 (op:Int) (a b:EX):ACalls E.P 16 [.int .i64 op,.agg a.ls,.agg b.ls] [] (fun r H=>r=.agg (twoX op a b).ls∧H=[]):=by
 have:=c16 op a b
 simp only [av_fs] at this
 exact this
theorem k9 (db:List DA) (q:QY) (m:Int) (hc:∀ d ∈ db,d.t.cols.length≤5000000000000):ACalls E.P 9 [.view 5 (db.map DA.av),.agg q.ls,.int .i64 m] [] (fun r H=>r=.bool (lightB db q m)∧H=[]):=by
 have:=c9 db q m hc
 rw [q_av] at this
 exact this
theorem k10 (q:QY):ACalls E.P 10 [.agg q.ls] [] (fun r H=>r=.int .i64 (IntKind.i64.wrap q.count)∧H=[]):=by
 have:=c10 q
 rw [q_av] at this
 exact this
theorem k11 (q:QY):ACalls E.P 11 [.agg q.ls] [] (fun r H=>r=.int .i64 (IntKind.i64.wrap q.joins)∧H=[]):=by
 have:=c11 q
 rw [q_av] at this
 exact this
theorem take_qls (q:QY):q.ls.take 14=q.ls:=rfl
theorem take_els (e:EX):e.ls.take 6=e.ls:=rfl
theorem q_ls (q:QY):q.av=.agg q.ls:=q_av q
theorem e_ls (e:EX):e.av=.agg e.ls:=av_fs e
end Go.Proofs.Try
