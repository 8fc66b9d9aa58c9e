/- Walks of functions that the claim reaches, and plain facts of them. Conditions: those in the statements. -/
import Derived.Test.YtgdbgfjhenobdaaGreatDoorJmOoDj
set_option linter.unusedSimpArgs false
set_option linter.unusedVariables false
namespace Go.Proofs.YtgdbgfjhenobdaaGreatDoor
open Go.RowKit
theorem stsC_app (l:List Stm)(x:Stm):stsC (l++[x])=stsC l++[stC x]:=by simp[stsC_map]
theorem stsC_len (l:List Stm):(stsC l).length=l.length:=by simp[stsC_map]
attribute [go_sem] stsC_len
def Own.off (o:Own)(x:Nat):Prop:=∀b,o=.at_ b→b≠x
structure Mth where
 stat:Bool
 nm:List UInt8
 pars:List (List UInt8)
 body:List Stm
structure Cls where
 nm:List UInt8
 par:List UInt8
 mths:List Mth
def mthC (m:Mth):List VV:=[.bool m.stat,.str m.nm,strsV m.pars,stsV m.body]
def clsC (c:Cls):List VV:=[.str c.nm,.str c.par,.lst (c.mths.map mthC) .no]
def clsV (c:Cls):VV:=.agg (clsC c)
def mthsP (e:Nat):Nat→List Mth→List Sgn→Nat→PR (List Mth)
 |0,_,_,_=>.error (0,0)
 |f+1,out,L,n=>
  if isT L 0 [125] then .ok (out,L.tail,n)
  else bnd (roomP e L n out.length 32 (namedB L || isT L 0 [115,116,97,116,105,99])) fun _ L n=>
   bnd (nameP e (if isT L 0 [115,116,97,116,105,99] then L.tail else L) n) fun x L' n=>bnd (namesP e L' n) fun ps L' n=>
   bnd (blockP e (3 * L'.length+3) 0 L' n) fun b L' n=>mthsP e f (out++[⟨isT L 0 [115,116,97,116,105,99],x,ps,b⟩]) L' n
def classP (e:Nat)(L:List Sgn)(n:Nat):PR Cls:=
 bnd (mustP e L n [99,108,97,115,115]) fun _ L n=>bnd (nameP e L n) fun x L n=>
 bnd (if isT L 0 [101,120,116,101,110,100,115] then bnd (nameP e L.tail n) fun y L n=>.ok (y,L,n)else .ok ([],L,n)) fun y L n=>
 bnd (mustP e L n [123]) fun _ L n=>bnd (mthsP e (L.length+1) [] L n) fun ms L n=>.ok (⟨x,y,ms⟩,L,n)
end Go.Proofs.YtgdbgfjhenobdaaGreatDoor
