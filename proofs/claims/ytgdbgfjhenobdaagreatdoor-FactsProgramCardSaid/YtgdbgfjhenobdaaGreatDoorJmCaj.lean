/- Walks of functions that the claim reaches, and plain facts of them. Conditions: those in the statements. -/
import Derived.Test.YtgdbgfjhenobdaaGreatDoorJmOsj
import Derived.Test.YtgdbgfjhenobdaaGreatDoorJmYaj
set_option linter.unusedSimpArgs false
set_option linter.unusedVariables false
set_option maxRecDepth 100000
namespace Go.Proofs.YtgdbgfjhenobdaaGreatDoor
open Go.RowKit
def selfT:List UInt8:=[116,104,105,115]
def retT:List UInt8:=[114,101,116,117,114,110]
def atC (x:List Cls)(n:List UInt8):Option Nat:=ixT n (x.map (·.nm))
def ownI (c:Cls)(n:List UInt8):Option Nat:=ixT n (c.mths.map (·.nm))
def ownM (c:Cls)(n:List UInt8):Option Mth:=(ownI c n).bind fun j=>c.mths[j]?
def chainN (x:List Cls):Nat→List UInt8→List Nat×Bool
 |0,_=>([],false)
 |f+1,n=>if n=[] then([],true)else match atC x n with
  |none=>([],false)
  |some k=>(k::(chainN x f ((x[k]?.map (·.par)).getD [])).1,(chainN x f ((x[k]?.map (·.par)).getD [])).2)
def upN (x:List Cls)(n:List UInt8):List Nat×Bool:=chainN x (x.length+1) n
def startN (x:List Cls)(k:Nat):Nat:=((x.take k).map (·.mths.length)).sum
def hitN (x:List Cls)(n:List UInt8)(st:Bool)(k:Nat):Option (Nat×Mth):=
 match x[k]? with
 |none=>none
 |some c=>match ownI c n with
  |none=>none
  |some j=>match c.mths[j]? with
   |none=>none
   |some m=>if m.stat=st then some (startN x k+j,m)else none
def firstN (x:List Cls)(n:List UInt8)(st:Bool):List Nat→Option (Nat×Mth)
 |[]=>none
 |k::l=>match hitN x n st k with
  |some r=>some r
  |none=>firstN x n st l
def lookN (x:List Cls)(cls n:List UInt8)(st:Bool):Option (Nat×Mth):=firstN x n st (upN x cls).1
def parsB (ps:List (List UInt8)):Bool:=(List.range ps.length).all fun i=>match ps[i]? with|some p=>decide (p≠selfT) && decide (ixT p ps=some i)|none=>true
def fitB (x:List Cls)(m:Mth)(k:Nat):Bool:=match x[k]? with
 |none=>true
 |some c=>match ownM c m.nm with|none=>true|some y=>y.stat == m.stat && decide (y.pars.length=m.pars.length)
def hdOk (x:List Cls)(c:Cls)(j:Nat)(m:Mth):Bool:=decide (ownI c m.nm=some j) && (parsB m.pars && (upN x c.par).1.all (fitB x m))
def calledB (x:List Cls)(n:List UInt8)(many:Nat):Bool:=x.any fun c=>match ownM c n with|none=>false|some m=>!m.stat && decide (m.pars.length=many)
mutual
def preS:Stm→List Stm
 |.mk k d s c m ar o t=>.mk k d s c m ar o t::(preL o++preL t)
def preL:List Stm→List Stm
 |[]=>[]
 |x::l=>preS x++preL l
end
def stmR (x:List Cls)(st:Bool):Stm→Bool
 |.mk k d s c n ar _ _=>!((decide (d=selfT) && decide (k≠4)) || (st && (decide (d=selfT) || decide (s=selfT) || ar.any fun a=>decide (a=selfT)))) &&
   (if k=1 then(atC x n).isSome else if k=6 then(match lookN x c n true with|none=>false|some y=>decide (y.2.pars.length=ar.length))else if k=5 then calledB x n ar.length else true)
def bodyR (x:List Cls)(m:Mth):Bool:=(preL m.body).all (stmR x m.stat)
def mthsR (x:List Cls)(c:Cls):Bool:=(List.range c.mths.length).all fun j=>match c.mths[j]? with|some m=>hdOk x c j m && bodyR x m|none=>true
def mainR (x:List Cls):Bool:=match atC x [77,97,105,110]with
 |none=>false
 |some k=>match x[k]? with
  |none=>false
  |some c=>match ownM c [109,97,105,110]with|none=>false|some m=>m.stat && decide (m.pars.length=0)
def rightE (x:List Cls):Int:=
 if checkB x=false then 1
 else if ¬ (x.map (·.nm)).Nodup then 160
 else if (x.all fun c=>(upN x c.nm).2)=false then 160
 else if x.all (mthsR x)=false then 160
 else if mainR x=false then 160 else 0
def addS (l:List (List UInt8))(t:List UInt8):List (List UInt8):=if t=[]∨t∈l then l else l++[t]
def addsS (l ts:List (List UInt8)):List (List UInt8):=ts.foldl addS l
def stTxt:Stm→List (List UInt8)
 |.mk _ d s _ _ ar _ _=>d::s::ar
structure Nms where
 mths:List (List UInt8)
 vars:List (List UInt8)
 sites:List (List UInt8)
 calls:List (List UInt8)
 owner:List Nat
 home:List Nat
 main:Nat
 fields:List (List UInt8)
 names:List (List UInt8)
def stmN (txt:List UInt8)(n:Nat)(q:Nms×List (List UInt8)):Stm→Nms×List (List UInt8)
 |.mk k d s c m ar o t=>
  let v:=addsS q.2 (d::s::ar)
  if k=1 then({ q.1 with sites:=q.1.sites++[m] },v)
  else if k=5 then({ q.1 with calls:=q.1.calls++[txt],home:=q.1.home++[n],names:=addS q.1.names m },v)
  else if k=6 then({ q.1 with calls:=q.1.calls++[txt],home:=q.1.home++[n] },v)
  else if k=3∨k=4 then({ q.1 with fields:=addS q.1.fields m },v)
  else(q.1,v)
def mthT (c:Cls)(m:Mth):List UInt8:=c.nm++[58,58]++m.nm
def vars0 (m:Mth):List (List UInt8):=addsS (addsS (if m.stat=true then [] else addsS [] [selfT]) m.pars) [retT]
def mthN (c:Cls)(q:Nms)(m:Mth):Nms:=
 let n:=q.mths.length
 let q1:Nms:={ q with mths:=q.mths++[mthT c m],main:=if mthT c m=[77,97,105,110,58,58,109,97,105,110] then n else q.main }
 let r:=(preL m.body).foldl (stmN (mthT c m) n) (q1,vars0 m)
 { r.1 with vars:=r.1.vars++r.2.map (fun v=>mthT c m++[46]++v),owner:=r.1.owner++r.2.map (fun _=>n) }
def clsN (q:Nms)(c:Cls):Nms:=c.mths.foldl (mthN c) q
def namesN (x:List Cls):Nms:=x.foldl clsN ⟨[],[],[],[],[],[],0,[],[]⟩
theorem ixT_get {k:List UInt8}{l:List (List UInt8)}{i:Nat}(h:ixT k l=some i):l[i]?=some k:=ixT_lt h
structure Right (x:List Cls):Prop where
 chk:checkB x=true
 nod:(x.map (·.nm)).Nodup
 up:∀c,c∈x→(upN x c.nm).2=true
 mth:∀c,c∈x→∀(j:Nat) (m:Mth),c.mths[j]?=some m→hdOk x c j m=true∧bodyR x m=true
 main:mainR x=true
theorem start_le {x:List Cls}{i:Nat}{c:Cls}(hi:x[i]?=some c):startN x (i+1)=startN x i+c.mths.length:=by
 unfold startN
 rw[utake hi,List.map_append,List.sum_append]
 simp
def nms0:Nms:=⟨[],[],[],[],[],[],0,[],[]⟩
theorem atC_get {x:List Cls}{n:List UInt8}{k:Nat}(h:atC x n=some k):∃c,x[k]?=some c∧c.nm=n:=by
 have:=ixT_get h
 rw[List.getElem?_map]at this
 obtain⟨c,h1,h2⟩:=Option.map_eq_some_iff.1 this
 exact⟨c,h1,h2⟩
section
variable {x y : List Cls} (hp : x.Perm y) (hn : (x.map (·.nm)).Nodup)
include hp hn
end
section
variable {x y : List Cls} (hp : x.Perm y) (hn : (x.map (·.nm)).Nodup)
include hp hn
end
structure OwnI (q:Nms):Prop where
 lv:q.owner.length=q.vars.length
 lh:q.home.length=q.calls.length
 ov:∀(i k:Nat) (v:List UInt8),q.owner[i]?=some k→q.vars[i]?=some v→∃t w,q.mths[k]?=some t∧v=t++46::w∧w≠[]
 os:∀(i a b:Nat),q.owner[i]?=some a→q.owner[i+1]?=some b→a≤b
 oc:∀(i k:Nat) (v:List UInt8),q.home[i]?=some k→q.calls[i]?=some v→q.mths[k]?=some v
 hs:∀(i a b:Nat),q.home[i]?=some a→q.home[i+1]?=some b→a≤b
 ot:∀k,k∈q.owner→k<q.mths.length
 ht:∀k,k∈q.home→k<q.mths.length
 nv:∀(i:Nat) (u v:List UInt8),q.vars[i]?=some u→q.vars[i+1]?=some v→u≠v
end Go.Proofs.YtgdbgfjhenobdaaGreatDoor
