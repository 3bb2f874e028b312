/-
 A part of the proof: see the text of the law.
-/
import Derived.Test.YtchlampphcaomaaGreatDoorPai
set_option linter.unusedSimpArgs false
set_option linter.unusedVariables false
namespace Go.Proofs.Try
open Go.Proofs.Tryz
open Go.Al
set_option maxRecDepth 20000
set_option maxHeartbeats 4000000
def leastR (n m:Int):Int:=(IntKind.i64.wrap (n.tmod m+m)).tmod m
def lex19:List VL→List VL→Int
 | [],[]=>0
 | [],_::_=>-1
 | _::_,[]=>1
 | a::l,b::m=>if a.cmp19 b=0 then lex19 l m else a.cmp19 b
theorem lex19_step {l m:List VL} {i:Nat} (hl:i<l.length) (hm:i<m.length):lex19 (l.drop i) (m.drop i)=if (l.getD i default).cmp19 (m.getD i default)=0 then lex19 (l.drop (i+1)) (m.drop (i+1)) else (l.getD i default).cmp19 (m.getD i default):=by
 rw [List.drop_eq_getElem_cons hl,List.drop_eq_getElem_cons hm,lex19]
 simp [List.getD_eq_getElem?_getD,hl,hm]
theorem lex19_end {l m:List VL} {i:Nat} (hl:i≤l.length) (hm:i≤m.length) (h:¬ (i<l.length∧i<m.length)):lex19 (l.drop i) (m.drop i)=sgn l.length m.length:=by
 by_cases h1:i<l.length
 · have h2:m.length=i:=by omega
   rw [List.drop_eq_getElem_cons h1,List.drop_eq_nil_of_le (by omega:m.length≤i),lex19]
   unfold sgn;rw [if_neg (by omega)]
   first | rw [if_pos (by omega)] | (simp;omega)
 · have h3:l.length=i:=by omega
   rw [List.drop_eq_nil_of_le (by omega:l.length≤i)]
   by_cases h2:i<m.length
   · rw [List.drop_eq_getElem_cons h2,lex19]
     unfold sgn;rw [if_pos (by omega)]
   · rw [List.drop_eq_nil_of_le (by omega:m.length≤i),lex19]
     unfold sgn;rw [if_neg (by omega)]
     first | rw [if_neg (by omega)] | (simp;omega)
end Go.Proofs.Try
