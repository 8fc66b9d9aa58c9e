/- Walks of functions that the claim reaches, and plain facts of them. Conditions: those in the statements. -/
import Derived.Test.YtohnaepcgnbaiaaGreatDoorJkIuj
set_option linter.unusedSimpArgs false
set_option linter.unusedVariables false
set_option maxRecDepth 100000
namespace Go.Proofs.YtohnaepcgnbaiaaGreatDoor
open Go.RowKit
abbrev clT:TypeId:=155
structure EqI (s:St) (c o q:Nat) (KK:OB) (b3 b4 b5 b8 a b2 i:Nat) (s':St) (ow:Own) (bs:List Nat):Prop where
 keep:∀z,s z≠.free->s' z=s z
 h3:s' b3=.obj 63 [.ptr c 0]
 h4:s' b4=.obj 3 [.int .i64 a]
 h5:s' b5=.obj 3 [.int .i64 b2]
 h8:s' b8=.obj 57 [.ptr KK.o 0]
 bx:∀j x,bs[j]?=some x->s' x=.obj 3 [.int .i64 (j:Nat)]
 len:bs.length=i
 own:(i=0/\ow=.full)\/∃y,ow=.at_ y/\s' y=.vec clT 1 (i+1)/\s y=.free
theorem sQ {S:St}{o o2:Own}{n:Nat}{T:TypeId}(h:OwnOk (S.disown o) o2 (n+1)) :
  ∃y2,o2=.at_ y2/\((S.disown o).own o2 T 1 (n+1)) y2=.vec T 1 (n+1)/\(∀z,S z≠.free->(∀y,o=.at_ y->z≠y)->((S.disown o).own o2 T 1 (n+1)) z=S z)/\(S y2=.free\/o=.at_ y2):=by
 cases o2 with
 |no=>exact h.elim
 |full=>exact absurd h (by simp[OwnOk])
 |at_ y2=>
  have h2:(S.disown o) y2=.free:=h
  refine⟨y2,rfl,q_ _ _ _,fun z hz hy=>?_,?_⟩
  ·have e1:(S.disown o) z=S z:=by
    cases o with
    |at_ y=>exact j_ _ _ (hy y rfl)
    |_=>rfl
   have e2:z≠y2:=fun e=>by rw[<- e,e1]at h2;exact hz h2
   exact(j_ _ _ e2).trans e1
  ·cases o with
   |at_ y=>
    by_cases e:y2=y
    ·exact .inr (by rw[e])
    ·left
     have:(S.set y .free) y2=.free:=h2
     rwa [j_ _ _ e]at this
   |_=>exact .inl h2
theorem EqI.step {s:St}{c o q:Nat}{KK:OB}{b3 b4 b5 b8 a b2 i:Nat}{s' S u:St}{ow ow2:Own}{bs:List Nat}{b:Nat}(h:EqI s c o q KK b3 b4 b5 b8 a b2 i s' ow bs)(hb:s' b=.free)(hS:S=s'.set b (.obj 3 [.int .i64 (i:Nat)]))
  (hu:∀z,S z≠.free->(∀y,ow=.at_ y->z≠y)->u z=S z) (hy:∃y2,ow2=.at_ y2/\u y2=.vec clT 1 (i+1+1)/\(S y2=.free\/ow=.at_ y2)):EqI s c o q KK b3 b4 b5 b8 a b2 (i+1) u ow2 (bs++[b]):=by
 have old:∀z,s' z≠.free->(∀T sz n,s' z≠.vec T sz n)->u z=s' z:=fun z hz hv=>by
  have e:S z=s' z:=by rw[hS];exact j_ _ _ (nef hb hz).1
  rw[<- e]
  refine hu z (by rw[e];exact hz) fun y hy e2=>?_
  rcases h.own with ⟨_,h1⟩|⟨y',h1,h2,_⟩
  ·rw[h1]at hy;cases hy
  ·rw[h1]at hy
   injection hy with hy
   rw[e2,<- hy]at hv
   exact hv _ _ _ h2
 obtain⟨y2,e1,e2,e3⟩:=hy
 refine⟨fun z hz=>?_,(old _ (by rw[h.h3];simp) (by rw[h.h3];simp)).trans h.h3,(old _ (by rw[h.h4];simp) (by rw[h.h4];simp)).trans h.h4,(old _ (by rw[h.h5];simp) (by rw[h.h5];simp)).trans h.h5,(old _ (by rw[h.h8];simp) (by rw[h.h8];simp)).trans h.h8,fun j x hj=>?_,by rw[p_,h.len];rfl,.inr ⟨y2,e1,e2,?_⟩⟩
 ·have hk:=h.keep z hz
  have e:S z=s' z:=by rw[hS];exact j_ _ _ (nef hb (by rw[hk];exact hz)).1
  rw[<- hk,<- e]
  refine hu z (by rw[e,hk];exact hz) fun y hy e2=>?_
  rcases h.own with ⟨_,h1⟩|⟨y',h1,_,h3⟩
  ·rw[h1]at hy;cases hy
  ·rw[h1]at hy
   injection hy with hy
   rw[e2,<- hy]at hz
   exact hz h3
 ·rcases Nat.lt_or_ge j bs.length with hl|hl
  ·rw[g_ hl]at hj
   have h1:=h.bx j x hj
   exact(old _ (by rw[h1];simp) (by rw[h1];simp)).trans h1
  ·rw[h_ hl]at hj
   have hj0:j - bs.length=0:=by
    have:=(x_.1 hj).1
    simp at this
    exact this
   rw[hj0]at hj
   simp at hj
   subst hj
   have hji:j=i:=by rw[<- h.len];omega
   have hSb:S b=.obj 3 [.int .i64 (i:Nat)]:=by rw[hS];exact q_ _ _ _
   rw[hji,<- hSb]
   refine hu b (by rw[hSb];simp) fun y hy e2=>?_
   rcases h.own with ⟨_,h1⟩|⟨y',h1,h2,h3⟩
   ·rw[h1]at hy;cases hy
   ·rw[h1]at hy
    injection hy with hy
    rw[e2,<- hy,h2]at hb
    cases hb
 ·rcases e3 with e|e
  ·by_cases hf:s y2=.free
   ·exact hf
   ·have hk:=h.keep y2 hf
    have e4:S y2=s' y2:=by rw[hS];exact j_ _ _ (nef hb (by rw[hk];exact hf)).1
    rw[e4,hk]at e
    exact absurd e hf
  ·rcases h.own with ⟨_,h1⟩|⟨y',h1,_,h3⟩
   ·rw[h1]at e;cases e
   ·rw[h1]at e
    injection e with e
    rw[<- e]
    exact h3
abbrev BF:=(Nat->Bool)->Bool
def Is (n:Nat)(ns:List Tr)(g:BF)(k:Nat):Prop:=treeT n g∈ns/\ixF n ns g=k
structure Ch (s:St) (K:OB) (q c n B:Nat) (ns:List Tr) (ds:List (List UInt8×Nat)) (at_:List (List Nat)) (s':St) (K':OB) (ns':List Tr) (N':Nat):Prop where
 cm:CMem s' K' q c n B ns' ds at_
 kp:OKeep s s' K K'
 pre:∃l,ns'=ns++l
 cnt:CntN ns' N'
abbrev OiA:=St×OB×List Tr×Nat
structure OiR (s:St) (K:OB) (q c n B:Nat) (ns:List Tr) (ds:List (List UInt8×Nat)) (at_:List (List Nat)) (ns':List Tr) (N2:Nat) (g:BF) (a:OiA):Prop where
 ch:Ch s K q c n B ns ds at_ a.1 a.2.1 a.2.2.1 N2
 is:Is n a.2.2.1 g a.2.2.2
 on:∀f k,Is n ns' f k->Is n a.2.2.1 f k
section
variable {s : St} {K : OB} {q c n B : Nat} {ns : List Tr} {ds : List (List UInt8 × Nat)} {at_ : List (List Nat)} {s' : St} {K' : OB} {ns' : List Tr} {N' N2 : Nat} {f g : BF} {kf kg k : Nat} {S : List Nat}
theorem Ch.refl (h:CMem s K q c n B ns ds at_)(hc:CntN ns N'):Ch s K q c n B ns ds at_ s K ns N':=⟨h,.refl _ _,⟨[],by simp⟩,hc⟩
theorem Ch.mono (h:Ch s K q c n B ns ds at_ s' K' ns' N')(hN:N'<=N2):Ch s K q c n B ns ds at_ s' K' ns' N2:=⟨h.cm,h.kp,h.pre,h.cnt.mono hN⟩
theorem Is.on {ns1:List Tr}(h:Is n ns' f k)(hp:∃l,ns1=ns'++l):Is n ns1 f k:=by
 obtain⟨a,b⟩:=bn hp h.1
 exact⟨a,(show ixF n ns1 f=ixF n ns' f from b).trans h.2⟩
theorem Ch.fin (h:Ch s K q c n B ns ds at_ s' K' ns' N')(hi:Is n ns' g k):OpF s K n B ns N' g (s',K',ns')/\ixF n ns' g=k:=⟨⟨h.cm.om,h.pre,hi.1,h.cnt,h.kp⟩,hi.2⟩
variable (hc : Ch s K q c n B ns ds at_ s' K' ns' N') (hS : ∀ v, v ∈ S -> v < n) (hk : S.length <= k) (hf : Is n ns' f kf) (hg : Is n ns' g kg) (df : DepF S f) (dg : DepF S g)
include hc hS hk hf df
include hg dg
end
theorem Is.zero {s:St}{K:OB}{n B:Nat}{ns:List Tr}(h:OMem s K n B ns):Is n ns (fun _=>false) 0:=⟨h.c0.1.1,h.c0.1.2⟩
theorem Is.one {s:St}{K:OB}{n B:Nat}{ns:List Tr}(h:OMem s K n B ns):Is n ns (fun _=>true) 1:=⟨h.c0.2.1,h.c0.2.2⟩
def jw (w:Nat)(more:Int):Nat:=(more % 2 ^ w).toNat
theorem Fc (w:Nat)(more:Int):jw w more<2 ^ w:=by
 unfold jw
 have h1:=Int.emod_lt_of_pos more (show (0:Int)<2 ^ w by exact Int.pow_pos (by omega))
 have h2:=Int.emod_nonneg more (show (2:Int) ^ w≠0 by exact Int.ne_of_gt (Int.pow_pos (by omega)))
 have hp:((2:Int) ^ w)=((2 ^ w:Nat):Int):=by simp
 rw[hp]at h1 h2
 omega
theorem rI {w:Nat}(hw:w<=61)(more:Int):bF .and .i64 more (IntKind.i64.wrap (((2 ^ w:Nat):Int) - 1))=some (.int .i64 (jw w more:Nat)):=by
 have hp:((2:Int) ^ w)=((2 ^ w:Nat):Int):=by simp
 have hle:2 ^ w<=2 ^ 61:=Nat.pow_le_pow_right (by omega) hw
 have hpos:0<2 ^ w:=Nat.two_pow_pos w
 have e:IntKind.i64.wrap (((2 ^ w:Nat):Int) - 1)=2 ^ w - 1:=by
  rw[hp]
  generalize 2 ^ w=P at *
  rw[bT (by omega) (by omega)]
 show some (VV.int .i64 (jv .i64 more _))=_
 rw[e,kC more w (by omega)]
 unfold jw
 have h2:=Int.emod_nonneg more (show (2:Int) ^ w≠0 by exact Int.ne_of_gt (Int.pow_pos (by omega)))
 congr 2
 omega
end Go.Proofs.YtohnaepcgnbaiaaGreatDoor
