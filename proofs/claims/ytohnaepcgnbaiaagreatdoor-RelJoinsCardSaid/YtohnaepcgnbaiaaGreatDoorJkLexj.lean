/- Walks of functions that the claim reaches, and plain facts of them. Conditions: those in the statements. -/
import Derived.Test.YtohnaepcgnbaiaaGreatDoorJkFacts
import Derived.Lib.Bytealg
set_option linter.unusedSimpArgs false
set_option linter.unusedVariables false
namespace Go.Proofs.YtohnaepcgnbaiaaGreatDoor
open Go.RowKit
theorem sb {a b:Bool}(h:a=b):some (VV.bool a)=some (VV.bool b):=by rw[h]
theorem Wk.tup {xs ys:List VV}(hl:xs.length=ys.length)(h:∀(j:Nat) (x y:VV),xs[j]?=some x->ys[j]?=some y->Wk x y):Wk (.tup xs) (.tup ys):=by
 intro G v hv
 cases hv with
 |tup vs xs hs hR=>
  refine .tup vs ys (hs.trans hl) fun j v y hv hy=>?_
  have hlt:j<xs.length:=by rw[hl];exact(x_.1 hy).1
  exact h j _ y (m_ hlt) hy G v (hR j v _ hv (m_ hlt))
structure Sgn where
 kind:Nat
 text:List UInt8
 at_:Nat
def xa (e:Nat):List Sgn->Nat
 |[]=>e
 |x::_=>x.at_
abbrev PR (α:Type):=Except (Nat×Nat) (α×List Sgn×Nat)
def strC (x:List UInt8):List VV:=[.str x]
def Nm (l:List (List UInt8)):VV:=.lst (l.map strC) .no
inductive WkL:List VV->List VV->Prop
 |nil:WkL [] []
 |same (x:VV) {xs ys:List VV} (h:WkL xs ys):WkL (x::xs) (x::ys)
 |lst (l:List (List VV)) (o:Own) {xs ys:List VV} (h:WkL xs ys):WkL (.lst l o::xs) (.lst l .no::ys)
theorem WkL.len {xs ys:List VV}(h:WkL xs ys):xs.length=ys.length:=by
 induction h with
 |nil=>rfl
 |same x h ih=>simp[ih]
 |lst l o h ih=>simp[ih]
theorem WkL.get {xs ys:List VV}(h:WkL xs ys):∀(j:Nat) (y:VV),ys[j]?=some y->∃x,xs[j]?=some x/\Wk x y/\(x.one=true->y.one=true):=by
 induction h with
 |nil=>intro j y hy;simp at hy
 |same x h ih=>
  intro j y hy
  cases j with
  |zero=>simp at hy;subst hy;exact⟨x,rfl,Wk.refl _,id⟩
  |succ j=>simpa using ih j y (by simpa using hy)
 |lst l o h ih=>
  intro j y hy
  cases j with
  |zero=>simp at hy;subst hy;exact⟨_,rfl,Wk.lst _ _,id⟩
  |succ j=>simpa using ih j y (by simpa using hy)
theorem Wk.agg {xs ys:List VV}(h:WkL xs ys):Wk (.agg xs) (.agg ys):=by
 intro G v hv
 cases hv with
 |agg vs xs hs h1 hR=>
  refine .agg vs ys (hs.trans h.len) (fun y hy=>?_) fun j v y hv hy=>?_
  ·obtain⟨j,hj,e⟩:=List.mem_iff_getElem.1 hy
   obtain⟨x,hx,_,hw⟩:=h.get j y (by rw[<- e];exact m_ hj)
   exact hw (h1 x (y_ hx))
  ·obtain⟨x,hx,hw,_⟩:=h.get j y hy
   exact hw G v (hR j v x hv hx)
inductive Stm where
 |mk (kind:Int) (dst src cls nm:List UInt8) (args:List (List UInt8)) (one two:List Stm)
mutual
def stC:Stm->List VV
 |.mk k d s c m ar o t=>[.int .i64 k,.str d,.str s,.str c,.str m,Nm ar,.lst (G8 o) .no,.lst (G8 t) .no]
def G8:List Stm->List (List VV)
 |[]=>[]
 |x::l=>stC x::G8 l
end
theorem set_free {s:St}{b x:Nat}{T:TypeId}{xs:List VV}(h:(s.set b (.obj T xs)) x=.free):(x=b)=False/\(b=x)=False/\s x=.free:=by
 simp only[St.set]at h
 split at h
 ·cases h
 ·rename_i hb;exact⟨eq_false hb,eq_false (Ne.symm hb),h⟩
end Go.Proofs.YtohnaepcgnbaiaaGreatDoor
