/- Walks of functions that the claim reaches, and plain facts of them. Conditions: those in the statements. -/
import Derived.Test.YtgdbgfjhenobdaaGreatDoorJmValj
set_option linter.unusedSimpArgs false
set_option linter.unusedVariables false
namespace Go.Proofs.YtgdbgfjhenobdaaGreatDoor
open Go.RowKit
def cmpZ:List Int→List Int→Int
 |[],[]=>0
 |[],_::_=>-1
 |_::_,[]=>1
 |a::aa,b::bb=>if a<b then -1 else if b<a then 1 else cmpZ aa bb
def lessZ:List Int→List Int→Bool
 |[],[]=>false
 |[],_::_=>true
 |_::_,[]=>false
 |a::aa,b::bb=>if a=b then lessZ aa bb else decide (a<b)
theorem lessZ_cmp:∀(a b:List Int),lessZ a b=decide (cmpZ a b<0)
 |[],[]=>rfl
 |[],_::_=>rfl
 |_::_,[]=>rfl
 |a::aa,b::bb=>by
  simp only[lessZ,cmpZ]
  by_cases h:a=b
  ·subst h;simp[lessZ_cmp aa bb]
  ·rw[if_neg h]
   by_cases h1:a<b
   ·simp[h1]
   ·have:b<a:=by omega
    simp[h1,this]
end Go.Proofs.YtgdbgfjhenobdaaGreatDoor
