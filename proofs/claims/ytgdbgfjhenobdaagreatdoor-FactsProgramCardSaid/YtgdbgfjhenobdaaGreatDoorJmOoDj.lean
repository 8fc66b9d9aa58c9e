/- Walks of functions that the claim reaches, and plain facts of them. Conditions: those in the statements. -/
import Derived.Test.YtgdbgfjhenobdaaGreatDoorJmLexj
set_option linter.unusedSimpArgs false
set_option linter.unusedVariables false
namespace Go.Proofs.YtgdbgfjhenobdaaGreatDoor
open Go.RowKit
def plainP (e:Nat)(L:List Sgn)(n:Nat):PR Stm:=
 bnd (nameP e L n) fun first L n=>
 if isT L 0 [61] then
  if isT L.tail 0 [110,101,119] then bnd (nameP e L.tail.tail n) fun x L n=>.ok (.mk 1 first [] [] x [] [] [],L,n)
  else bnd (nameP e L.tail n) fun src L n=>
   if isT L 0 [46]=true∨isT L 0 [58,58]=true then bnd (callP e first src true L n) fun y L n=>.ok (y,L,n)
   else .ok (.mk 2 first src [] [] [] [] [],L,n)
 else if isT L 0 [46]=true∧isT L 2 [61]=true then
  bnd (mustP e L n [46]) fun _ L n=>bnd (nameP e L n) fun x L n=>bnd (mustP e L n [61]) fun _ L n=>bnd (nameP e L n) fun src L n=>
   .ok (.mk 4 first src [] x [] [] [],L,n)
 else bnd (callP e [] first false L n) fun y L n=>.ok (y,L,n)
theorem stC_len (x:Stm):(stC x).length=8:=by cases x;unfold stC;rfl
theorem stC_all (x:Stm):(stC x).all VV.one=true:=by cases x;unfold stC;rfl
theorem stC_take (x:Stm):(stC x).take 8=stC x:=by cases x;unfold stC;rfl
attribute [go_sem] stC_len stC_all stC_take
theorem bnd_inv {α β:Type}{x:PR α}{k:α→List Sgn→Nat→PR β}{r:β×List Sgn×Nat}(h:bnd x k=.ok r):∃a L n,x=.ok (a,L,n)∧k a L n=.ok r:=by
 cases x with
 |error y=>cases h
 |ok v=>obtain⟨a,L,n⟩:=v;exact⟨a,L,n,rfl,h⟩
theorem ok_inj {α:Type}{a a':α}{L L':List Sgn}{n n':Nat}(h:(Except.ok (a,L,n):PR α)=.ok (a',L',n')):a=a'∧L=L'∧n=n':=by
 injection h with h;injection h with h1 h2;injection h2 with h2 h3;exact⟨h1,h2,h3⟩
theorem tail_len {L:List Sgn}{t:List UInt8}(h:isT L 0 t=true):L.tail.length+1=L.length:=by
 cases L with
 |nil=>simp[isT]at h
 |cons x L=>simp
theorem namesGo_len {e:Nat}:∀(f:Nat) (out:List (List UInt8)) (L:List Sgn) (n:Nat) (r:List (List UInt8)) (L':List Sgn) (n':Nat),namesGo e f out L n=.ok (r,L',n')→L'.length≤L.length∧n'=n
 |0,out,L,n,r,L',n',h=>by
  obtain⟨_,rfl,rfl⟩:=ok_inj h
  exact⟨Nat.le_refl _,rfl⟩
 |f+1,out,L,n,r,L',n',h=>by
  simp only[namesGo]at h
  split at h
  ·obtain⟨_,rfl,rfl⟩:=ok_inj h
   exact⟨by simp,rfl⟩
  ·replace h:=bnd_inv h
   obtain⟨_,L1,n1,h1,h⟩:=h
   have e1:L1.length≤L.length∧n1=n:=by
    split at h1
    ·have:=mustP_len h1;exact⟨by omega,this.2⟩
    ·obtain⟨_,rfl,rfl⟩:=ok_inj h1;exact⟨Nat.le_refl _,rfl⟩
   replace h:=bnd_inv h
   obtain⟨_,L2,n2,h2,h⟩:=h
   obtain⟨rfl,rfl⟩:=roomP_eq h2
   replace h:=bnd_inv h
   obtain⟨x,L3,n3,h3,h⟩:=h
   have e3:=nameP_len h3
   have:=namesGo_len f _ _ _ _ _ _ h
   omega
theorem namesP_len {e:Nat}{L L':List Sgn}{n n':Nat}{r:List (List UInt8)}(h:namesP e L n=.ok (r,L',n')):L'.length+1≤L.length∧n'=n:=by
 replace h:=bnd_inv h
 obtain⟨_,L1,n1,h1,h⟩:=h
 have e1:=mustP_len h1
 have:=namesGo_len _ _ _ _ _ _ _ h
 omega
theorem callP_len {e:Nat}{L L':List Sgn}{n n':Nat}{d m:List UInt8}{b:Bool}{r:Stm}(h:callP e d m b L n=.ok (r,L',n')):L'.length+1≤L.length∧n'=n:=by
 unfold callP at h
 split at h
 ·rename_i ht
  replace h:=bnd_inv h
  obtain⟨x,L1,n1,h1,h⟩:=h
  replace h:=bnd_inv h
  obtain⟨x2,L2,n2,h2,h⟩:=h
  obtain⟨_,rfl,rfl⟩:=ok_inj h
  have e1:=nameP_len h1
  have e2:=namesP_len h2
  have:=tail_len ht
  omega
 ·replace h:=bnd_inv h
  obtain⟨x,L1,n1,h1,h⟩:=h
  replace h:=bnd_inv h
  obtain⟨x2,L2,n2,h2,h⟩:=h
  have e1:=mustP_len h1
  have e2:=nameP_len h2
  split at h
  ·obtain⟨_,rfl,rfl⟩:=ok_inj h
   omega
  ·replace h:=bnd_inv h
   obtain⟨x3,L3,n3,h3,h⟩:=h
   obtain⟨_,rfl,rfl⟩:=ok_inj h
   have e3:=namesP_len h3
   omega
theorem plainP_len {e:Nat}{L L':List Sgn}{n n':Nat}{r:Stm}(h:plainP e L n=.ok (r,L',n')):L'.length+1≤L.length∧n'=n:=by
 replace h:=bnd_inv h
 obtain⟨x,L1,n1,h1,h⟩:=h
 have e1:=nameP_len h1
 split at h
 ·rename_i ht
  have t1:=tail_len ht
  split at h
  ·rename_i ht2
   have t2:=tail_len ht2
   replace h:=bnd_inv h
   obtain⟨x2,L2,n2,h2,h⟩:=h
   obtain⟨_,rfl,rfl⟩:=ok_inj h
   have e2:=nameP_len h2
   omega
  ·replace h:=bnd_inv h
   obtain⟨x2,L2,n2,h2,h⟩:=h
   have e2:=nameP_len h2
   split at h
   ·replace h:=bnd_inv h
    obtain⟨x3,L3,n3,h3,h⟩:=h
    obtain⟨_,rfl,rfl⟩:=ok_inj h
    have e3:=callP_len h3
    omega
   ·obtain⟨_,rfl,rfl⟩:=ok_inj h
    omega
 ·split at h
  ·replace h:=bnd_inv h
   obtain⟨x2,L2,n2,h2,h⟩:=h
   replace h:=bnd_inv h
   obtain⟨x3,L3,n3,h3,h⟩:=h
   replace h:=bnd_inv h
   obtain⟨x4,L4,n4,h4,h⟩:=h
   replace h:=bnd_inv h
   obtain⟨x5,L5,n5,h5,h⟩:=h
   obtain⟨_,rfl,rfl⟩:=ok_inj h
   have e2:=mustP_len h2
   have e3:=nameP_len h3
   have e4:=mustP_len h4
   have e5:=nameP_len h5
   omega
  ·replace h:=bnd_inv h
   obtain⟨x3,L3,n3,h3,h⟩:=h
   obtain⟨_,rfl,rfl⟩:=ok_inj h
   have e3:=callP_len h3
   omega
def begB (L:List Sgn):Bool:=namedB L || isT L 0 [105,102] || isT L 0 [108,111,111,112] || isT L 0 [114,101,116,117,114,110]
mutual
def stmtP (e:Nat):Nat→Nat→List Sgn→Nat→PR Stm
 |0,_,L,n=>.error (0,0)
 |f+1,deep,L,n=>
  bnd (roomP e L n n 1024 (begB L)) fun _ L n=>
  if isT L 0 [105,102] then
   bnd (blockP e f deep L.tail (n+1)) fun one L n=>bnd (mustP e L n [101,108,115,101]) fun _ L n=>bnd (blockP e f deep L n) fun two L n=>.ok (.mk 8 [] [] [] [] [] one two,L,n)
  else if isT L 0 [108,111,111,112] then bnd (blockP e f deep L.tail (n+1)) fun one L n=>.ok (.mk 9 [] [] [] [] [] one [],L,n)
  else if isT L 0 [114,101,116,117,114,110] then bnd (nameP e L.tail (n+1)) fun x L n=>bnd (mustP e L n [59]) fun _ L n=>.ok (.mk 7 [] x [] [] [] [] [],L,n)
  else bnd (plainP e L (n+1)) fun y L n=>bnd (mustP e L n [59]) fun _ L n=>.ok (y,L,n)
def blockP (e:Nat):Nat→Nat→List Sgn→Nat→PR (List Stm)
 |0,_,L,n=>.error (0,0)
 |f+1,deep,L,n=>
  bnd (roomP e L n deep 8 (isT L 0 [123])) fun _ L n=>bnd (mustP e L n [123]) fun _ L n=>stmtsP e f deep [] L n
def stmtsP (e:Nat):Nat→Nat→List Stm→List Sgn→Nat→PR (List Stm)
 |0,_,_,L,n=>.error (0,0)
 |f+1,deep,out,L,n=>
  if isT L 0 [125] then .ok (out,L.tail,n)
  else bnd (stmtP e f (deep+1) L n) fun x L n=>stmtsP e f deep (out++[x]) L n
end
def Shr {α:Type}(x:PR α)(L:List Sgn)(n:Nat):Prop:=∀a L' n',x=.ok (a,L',n')→L'.length+1≤L.length∧n'+L'.length≤n+L.length
theorem parse_len (e:Nat):∀f:Nat,(∀deep L n,Shr (stmtP e f deep L n) L n)∧(∀deep L n,Shr (blockP e f deep L n) L n)∧(∀deep out L n,Shr (stmtsP e f deep out L n) L n)
 |0=>⟨fun _ _ _ _ _ _ h=>(by simp only[stmtP]at h;cases h),fun _ _ _ _ _ _ h=>(by simp only[blockP]at h;cases h),fun _ _ _ _ _ _ _ h=>(by simp only[stmtsP]at h;cases h)⟩
 |f+1=>by
  obtain⟨i1,i2,i3⟩:=parse_len e f
  refine⟨fun deep L n a L' n' h=>?_,fun deep L n a L' n' h=>?_,fun deep out L n a L' n' h=>?_⟩
  ·simp only[stmtP]at h
   replace h:=bnd_inv h
   obtain⟨_,L1,n1,h1,h⟩:=h
   obtain⟨rfl,rfl⟩:=roomP_eq h1
   split at h
   ·rename_i ht
    have t1:=tail_len ht
    replace h:=bnd_inv h
    obtain⟨x2,L2,n2,h2,h⟩:=h
    replace h:=bnd_inv h
    obtain⟨x3,L3,n3,h3,h⟩:=h
    replace h:=bnd_inv h
    obtain⟨x4,L4,n4,h4,h⟩:=h
    obtain⟨_,rfl,rfl⟩:=ok_inj h
    have e2:=i2 _ _ _ _ _ _ h2
    have e3:=mustP_len h3
    have e4:=i2 _ _ _ _ _ _ h4
    omega
   ·split at h
    ·rename_i ht
     have t1:=tail_len ht
     replace h:=bnd_inv h
     obtain⟨x2,L2,n2,h2,h⟩:=h
     obtain⟨_,rfl,rfl⟩:=ok_inj h
     have e2:=i2 _ _ _ _ _ _ h2
     omega
    ·split at h
     ·rename_i ht
      have t1:=tail_len ht
      replace h:=bnd_inv h
      obtain⟨x2,L2,n2,h2,h⟩:=h
      replace h:=bnd_inv h
      obtain⟨x3,L3,n3,h3,h⟩:=h
      obtain⟨_,rfl,rfl⟩:=ok_inj h
      have e2:=nameP_len h2
      have e3:=mustP_len h3
      omega
     ·replace h:=bnd_inv h
      obtain⟨x2,L2,n2,h2,h⟩:=h
      replace h:=bnd_inv h
      obtain⟨x3,L3,n3,h3,h⟩:=h
      obtain⟨_,rfl,rfl⟩:=ok_inj h
      have e2:=plainP_len h2
      have e3:=mustP_len h3
      omega
  ·simp only[blockP]at h
   replace h:=bnd_inv h
   obtain⟨_,L1,n1,h1,h⟩:=h
   obtain⟨rfl,rfl⟩:=roomP_eq h1
   replace h:=bnd_inv h
   obtain⟨_,L2,n2,h2,h⟩:=h
   have e2:=mustP_len h2
   have e3:=i3 _ _ _ _ _ _ _ h
   omega
  ·simp only[stmtsP]at h
   split at h
   ·rename_i ht
    obtain⟨_,rfl,rfl⟩:=ok_inj h
    have:=tail_len ht
    omega
   ·replace h:=bnd_inv h
    obtain⟨_,L2,n2,h2,h⟩:=h
    have e2:=i1 _ _ _ _ _ _ h2
    have e3:=i3 _ _ _ _ _ _ _ h
    omega
def stsV (l:List Stm):VV:=.lst (stsC l) .no
end Go.Proofs.YtgdbgfjhenobdaaGreatDoor
