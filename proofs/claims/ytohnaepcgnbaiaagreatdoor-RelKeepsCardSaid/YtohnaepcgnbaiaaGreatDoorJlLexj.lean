/- Walks. Conditions: in the statements. -/
import Derived.Test.YtohnaepcgnbaiaaGreatDoorJlFacts
import Derived.Lib.Bytealg
set_option linter.unusedSimpArgs false
set_option linter.unusedVariables false
namespace Go.Proofs.YtohnaepcgnbaiaaGreatDoor
open Go.RowKit
theorem sb {a b:Bool}(h:a=b):some (VV.bool a)=some (VV.bool b):=by rw[h]
theorem Wk.tup {xs ys:Tb}(hl:xs.length=ys.length)(h:∀(j:Nat) (x y:VV),xs[j]?=some x->ys[j]?=some y->Wk x y):Wk (.tup xs) (.tup ys):=by
 intro G v hv
 cases hv with
 |tup vs xs hs hR=>
  refine .tup vs ys (hs.trans hl) fun j v y hv hy=>?_
  have hlt:j<xs.length:=by rw[hl];exact(x_.1 hy).1
  exact h j _ y (m_ hlt) hy G v (hR j v _ hv (m_ hlt))
structure Sgn where
 kind:Nat
 text:TT
 at_:Nat
def xa (e:Nat):List Sgn->Nat
 |[]=>e
 |x::_=>x.at_
abbrev PR (α:Type):=Except (Nat×Nat) (α×List Sgn×Nat)
def strC (x:TT):Tb:=[.str x]
def Nm (l:TV):VV:=.lst (l.map strC) .no
inductive WkL:Tb->Tb->Prop
 |nil:WkL [] []
 |same (x:VV) {xs ys:Tb} (h:WkL xs ys):WkL (x::xs) (x::ys)
 |lst (l:Ta) (o:Own) {xs ys:Tb} (h:WkL xs ys):WkL (.lst l o::xs) (.lst l .no::ys)
inductive Stm where
 |mk (kind:Int) (dst src cls nm:TT) (args:TV) (one two:List Stm)
mutual
def stC:Stm->Tb
 |.mk k d s c m ar o t=>[.int .i64 k,.str d,.str s,.str c,.str m,Nm ar,.lst (G8 o) .no,.lst (G8 t) .no]
def G8:List Stm->Ta
 |[]=>[]
 |x::l=>stC x::G8 l
end
theorem set_free {s:St}{b x:Nat}{T:TypeId}{xs:Tb}(h:(s.set b (.obj T xs)) x=.free):(x=b)=False/\(b=x)=False/\s x=.free:=by
 simp only[St.set]at h
 split at h
 ·cases h
 ·rename_i hb;exact⟨eq_false hb,eq_false (Ne.symm hb),h⟩
end Go.Proofs.YtohnaepcgnbaiaaGreatDoor
