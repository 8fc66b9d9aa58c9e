/- Walks of functions, and plain facts. Conditions: those in the statements. -/
import Derived.Test.YteldpmgepfaiiaaGreatDoorQsZm
set_option linter.unusedSimpArgs false
set_option linter.unusedVariables false
set_option maxRecDepth 100000
namespace Go.Proofs.YteldpmgepfaiiaaGreatDoor
open Go.RowKit
abbrev Occ:=Trm×List UInt8
def iE (dz:List UInt8->Int):Scp->List Occ->Except Int Scp
 |x,[]=>.ok x
 |x,o::l=>eb (ep dz x o.1 o.2) fun x=>iE dz x l
theorem nk (dz:List UInt8->Int):∀(ts:List Trm) (ds:List (List UInt8)) (x:Scp),c5 dz x ts ds=iE dz x (ts.zip ds)
 |[],ds,x=>by simp[c5,iE]
 |t::ts,[],x=>by simp[c5,iE]
 |t::ts,d::ds,x=>by
  simp only[c5,iE,List.zip_cons_cons]
  cases ep dz x t d with
  |error e=>rfl
  |ok y=>exact nk dz ts ds y
theorem kG (dz:List UInt8->Int):∀(l m:List Occ) (x:Scp),iE dz x (l++m)=eb (iE dz x l) fun x=>iE dz x m
 |[],m,x=>rfl
 |o::l,m,x=>by
  simp only[List.cons_append,iE]
  cases ep dz x o.1 o.2 with
  |error e=>rfl
  |ok y=>exact kG dz l m y
def Jm (p:Pgm)(a:Atm):List (List UInt8):=match cO p.decls a.rel with
 |none=>[]
 |some k=>match p.decls[k]? with
  |none=>[]
  |some d=>d.doms
def rZ (p:Pgm)(a:Atm):Prop:=∃k d,cO p.decls a.rel=some k/\p.decls[k]?=some d/\a.ts.length=d.doms.length
def jK (p:Pgm)(a:Atm):List Occ:=a.ts.zip (Jm p a)
theorem lN {p:Pgm}{a:Atm}(h:rZ p a)(x:Scp):bU p x a=iE (da p.doms) x (jK p a):=by
 obtain⟨k,d,h1,h2,h3⟩:=h
 unfold bU jK Jm
 simp only[h1,h2]
 rw[if_neg (by omega),nk]
theorem ko {p:Pgm}:∀{l:List Atm} (h:∀a,a∈l->rZ p a) (x:Scp),cL p x l=iE (da p.doms) x (l.flatMap (jK p))
 |[],h,x=>rfl
 |a::l,h,x=>by
  simp only[cL,List.flatMap_cons]
  rw[kG,lN (h a (by simp))]
  cases iE (da p.doms) x (jK p a)with
  |error e=>rfl
  |ok y=>exact ko (fun b hb=>h b (by simp[hb])) y
structure ScWf (x:Scp) (A:List UInt8->List UInt8):Prop where
 len:x.ds.length=x.vs.length
 nd:x.vs.Nodup
 as_:∀(i:Nat) (v:List UInt8),x.vs[i]?=some v->x.ds[i]?=some (A v)
structure OccOk (dz:List UInt8->Int) (A:List UInt8->List UInt8) (l:List Occ):Prop where
 num:∀o,o∈l->o.1.var=false->o.1.n<dz o.2
 var:∀o,o∈l->o.1.var=true->o.2=A o.1.nm
theorem vp {dz:List UInt8->Int}{A:List UInt8->List UInt8}:∀{l:List Occ} {x:Scp},ScWf x A->OccOk dz A l->∃y,iE dz x l=.ok y/\ScWf y A/\∀v,v∈y.vs↔v∈x.vs\/∃o,o∈l/\o.1.var=true/\o.1.nm=v
 |[],x,hx,h=>⟨x,rfl,hx,fun v=>⟨.inl,fun h=>h.elim id fun⟨o,ho,_⟩=>by cases ho⟩⟩
 |o::l,x,hx,h=>by
  have h':OccOk dz A l:=⟨fun o ho=>h.num o (by simp[ho]),fun o ho=>h.var o (by simp[ho])⟩
  have key:∃z,ep dz x o.1 o.2=.ok z/\ScWf z A/\∀v,v∈z.vs↔v∈x.vs\/(o.1.var=true/\o.1.nm=v):=by
   unfold ep
   by_cases hv:o.1.var=false
   ·rw[if_pos hv,if_neg (by have:=h.num o (by simp) hv;omega)]
    exact⟨x,rfl,hx,fun v=>⟨.inl,fun h=>h.elim id fun h=>by rw[hv]at h;cases h.1⟩⟩
   ·have hv':o.1.var=true:=by simpa using hv
    have ho:=h.var o (by simp) hv'
    rw[if_neg hv]
    cases hi:ixT o.1.nm x.vs with
    |none=>
     refine⟨⟨x.vs++[o.1.nm],x.ds++[o.2]⟩,rfl,⟨by simp[hx.len],?_,fun i v hiv=>?_⟩,fun v=>by simp[hv',eq_comm]⟩
     ·rw[List.nodup_append]
      refine⟨hx.nd,by simp,fun a ha b hb=>?_⟩
      rw[e_]at hb
      subst hb
      rintro rfl
      exact eN.1 hi ha
     ·simp only at hiv ⊢
      by_cases hlt:i<x.vs.length
      ·rw[o_ hlt]at hiv
       rw[o_ (by rw[hx.len];exact hlt)]
       exact hx.as_ i v hiv
      ·rw[r_ (by omega)]at hiv
       rw[r_ (by rw[hx.len];omega),hx.len]
       have h0:i - x.vs.length=0:=by
        have:=(n_.1 hiv).1
        simp at this
        omega
       rw[h0]at hiv ⊢
       simp only[List.getElem?_cons_zero,Option.some.injEq]at hiv ⊢
       rw[<- hiv]
       exact ho
    |some i=>
     have h1:=hx.as_ i _ (cI hi)
     simp only
     rw[if_pos (by rw[h1,ho])]
     exact⟨x,rfl,hx,fun v=>⟨.inl,fun h=>h.elim id fun h=>h.2 ▸ p_ (cI hi)⟩⟩
  obtain⟨z,k1,k2,k3⟩:=key
  obtain⟨y,g1,g2,g3⟩:=vp k2 h'
  refine⟨y,by simp only[iE,k1,dX,g1],g2,fun v=>?_⟩
  rw[g3,k3]
  constructor
  ·rintro((h|h)|⟨o',h1,h2⟩)
   ·exact .inl h
   ·exact .inr ⟨o,by simp,h⟩
   ·exact .inr ⟨o',by simp[h1],h2⟩
  ·rintro(h|⟨o',h1,h2⟩)
   ·exact .inl (.inl h)
   ·rcases F_.1 h1 with rfl|h1
    ·exact .inl (.inr h2)
    ·exact .inr ⟨o',h1,h2⟩
def asg (x:Scp)(v:List UInt8):List UInt8:=match ixT v x.vs with
 |none=>[]
 |some i=>(x.ds[i]?).getD []
structure ScW (x:Scp):Prop where
 len:x.ds.length=x.vs.length
 nd:x.vs.Nodup
theorem xf {dz:List UInt8->Int}:∀{l:List Occ} {x y:Scp},ScW x->iE dz x l=.ok y->ScW y/\(∀(i:Nat) (v d:List UInt8),x.vs[i]?=some v->x.ds[i]?=some d->y.vs[i]?=some v/\y.ds[i]?=some d)/\OccOk dz (asg y) l
 |[],x,y,hx,h=>by
  simp only[iE]at h
  injection h with h
  subst h
  exact⟨hx,fun i v d h1 h2=>⟨h1,h2⟩,⟨fun o ho=>(by cases ho),fun o ho=>by cases ho⟩⟩
 |o::l,x,y,hx,h=>by
  simp only[iE]at h
  obtain⟨z,h1,h2⟩:=ja h
  have key:ScW z/\(∀(i:Nat) (v d:List UInt8),x.vs[i]?=some v->x.ds[i]?=some d->z.vs[i]?=some v/\z.ds[i]?=some d)/\(o.1.var=false->o.1.n<dz o.2)/\(o.1.var=true->∃i:Nat,z.vs[i]?=some o.1.nm/\z.ds[i]?=some o.2):=by
   unfold ep at h1
   split at h1
   ·rename_i hv
    split at h1
    ·cases h1
    ·injection h1 with h1
     subst h1
     exact⟨hx,fun i v d h1 h2=>⟨h1,h2⟩,fun _=>by omega,fun e=>by rw[hv]at e;cases e⟩
   ·rename_i hv
    split at h1
    ·rename_i hi
     injection h1 with h1
     subst h1
     refine⟨⟨by simp[hx.len],?_⟩,fun i v d h1 h2=>?_,fun e=>absurd e hv,fun _=>⟨x.vs.length,by simp,by simp[<- hx.len]⟩⟩
     ·rw[List.nodup_append]
      refine⟨hx.nd,by simp,fun a ha b hb=>?_⟩
      rw[e_]at hb
      subst hb
      rintro rfl
      exact eN.1 hi ha
     ·simp only
      rw[o_ (n_.1 h1).1,o_ (n_.1 h2).1]
      exact⟨h1,h2⟩
    ·rename_i i hi
     split at h1
     ·rename_i hd
      injection h1 with h1
      subst h1
      exact⟨hx,fun i v d h1 h2=>⟨h1,h2⟩,fun e=>absurd e hv,fun _=>⟨i,cI hi,hd⟩⟩
     ·cases h1
  obtain⟨k1,k2,k3,k4⟩:=key
  obtain⟨g1,g2,g3⟩:=xf k1 h2
  refine⟨g1,fun i v d h1 h2=>?_,⟨fun o' ho=>?_,fun o' ho hv=>?_⟩⟩
  ·obtain⟨a,b⟩:=k2 i v d h1 h2
   exact g2 i v d a b
  ·rcases F_.1 ho with rfl|ho
   ·exact k3
   ·exact g3.num o' ho
  ·rcases F_.1 ho with rfl|ho
   ·obtain⟨i,a,b⟩:=k4 hv
    obtain⟨c,d⟩:=g2 i _ _ a b
    unfold asg
    rw[gz g1.nd c]
    simp only[d,Option.getD_some]
   ·exact g3.var o' ho hv
theorem pE {p:Pgm}{r:Rul}:(∃Y,bJ p r=.ok Y)↔rZ p r.head/\(∀a,a∈r.body->rZ p a)/\(cM r.body r.head=true/\r.body.all (cM r.body)=true) /\
  (∃A,OccOk (da p.doms) A (jK p r.head++r.body.flatMap (jK p)))/\∃l:List (List UInt8),l.Nodup/\l.length<=8/\∀v,v∈l↔∃o,o∈jK p r.head++r.body.flatMap (jK p)/\o.1.var=true/\o.1.nm=v:=by
 have e0:ScW ⟨[],[]⟩:=⟨rfl,List.nodup_nil⟩
 constructor
 ·rintro⟨Y,h⟩
  unfold bJ at h
  obtain⟨X1,h1,h⟩:=ja h
  obtain⟨X2,h2,h⟩:=ja h
  obtain⟨_,k1⟩:=kp h1
  obtain⟨_,k2⟩:=ji h2
  split at h
  ·cases h
  rename_i hw
  split at h
  ·cases h
  rename_i h8
  injection h with h
  subst h
  have hw':cM r.body r.head=true/\r.body.all (cM r.body)=true:=by simpa using hw
  have ho:iE (da p.doms) ⟨[],[]⟩ (jK p r.head++r.body.flatMap (jK p))=.ok X2:=by
   rw[kG,<- lN k1,h1,dX,<- ko k2,h2]
  obtain⟨g1,_,g3⟩:=xf e0 ho
  obtain⟨y,a1,a2,a3⟩:=vp (dz:=da p.doms) (A:=asg X2) (x:=⟨[],[]⟩) ⟨rfl,List.nodup_nil,fun i v h=>by simp at h⟩ g3
  rw[ho]at a1
  injection a1 with a1
  subst a1
  exact⟨k1,k2,hw',⟨_,g3⟩,X2.vs,g1.nd,by omega,fun v=>by rw[a3];simp⟩
 ·rintro⟨k1,k2,hw,⟨A,hA⟩,l,l1,l2,l3⟩
  obtain⟨y,a1,a2,a3⟩:=vp (dz:=da p.doms) (A:=A) (x:=⟨[],[]⟩) ⟨rfl,List.nodup_nil,fun i v h=>by simp at h⟩ hA
  have hlen:y.vs.length<=8:=by
   have:=((List.perm_ext_iff_of_nodup a2.nd l1).2 fun v=>by rw[a3,l3];simp).length_eq
   omega
  refine⟨y,?_⟩
  rw[kG]at a1
  obtain⟨z,b1,b2⟩:=ja a1
  unfold bJ
  rw[lN k1,b1,dX,ko k2,b2,dX,hw.1,hw.2]
  rw[if_neg (by simp),if_neg (by omega)]
def ia (r:Rul):Rul:=⟨r.head,r.body.reverse⟩
theorem kE (r:Rul):ia (ia r)=r:=by unfold ia;simp
theorem zl (b:List Atm)(n:List UInt8):c8 b.reverse n=c8 b n:=by unfold c8;rw[List.any_reverse]
theorem zT (b:List Atm)(a:Atm):cM b.reverse a=cM b a:=by unfold cM;simp only[zl]
theorem yH {p:Pgm}{r:Rul}(h:∃Y,bJ p r=.ok Y):∃Y,bJ p (ia r)=.ok Y:=by
 rw[pE]at h ⊢
 obtain⟨h1,h2,h3,⟨A,h4⟩,l,l1,l2,l3⟩:=h
 have hm:∀o,o∈jK p r.head++(ia r).body.flatMap (jK p)↔o∈jK p r.head++r.body.flatMap (jK p):=fun o=>by
  simp[ia]
 refine⟨h1,fun a ha=>h2 a (by simpa [ia]using ha),?_,⟨A,⟨fun o ho=>h4.num o ((hm o).1 ho),fun o ho=>h4.var o ((hm o).1 ho)⟩⟩,l,l1,l2,fun v=>?_⟩
 ·have e:cM r.body.reverse=cM r.body:=by funext a;exact zT _ _
  simp only[ia,e,List.all_reverse]
  exact h3
 ·rw[l3]
  constructor<;>rintro⟨o,h1,h2⟩
  ·exact⟨o,(hm o).2 h1,h2⟩
  ·exact⟨o,(hm o).1 h1,h2⟩
theorem uQ {p q:Pgm}(h1:q.doms=p.doms)(h2:q.decls=p.decls){r:Rul}(h:∃Y,bJ p r=.ok Y):∃Y,bJ q r=.ok Y:=by
 rw[mc h1 h2];exact h
structure Turned (x q:Pgm):Prop where
 doms:q.doms=x.doms
 decls:q.decls=x.decls
 len:q.rules.length=x.rules.length
 mem:∀r,r∈q.rules↔ia r∈x.rules
theorem Turned.symm {x q:Pgm}(h:Turned x q):Turned q x:=⟨h.doms.symm,h.decls.symm,h.len.symm,fun r=>by rw[h.mem,kE]⟩
theorem Ao {r:Rul}(h:dJ (ia r)=true):dJ r=true:=by
 unfold dJ ia at h
 unfold dJ
 simp only[List.length_reverse,List.all_reverse]at h
 exact h
theorem vc {x q:Pgm}(h:Turned x q)(hx:cp x=0):cp q=0:=by
 have hp:=dL hx
 have hq:cm q=true:=by
  simp only[cm,Bool.and_eq_true,decide_eq_true_eq,List.all_eq_true]at hp ⊢
  obtain⟨⟨⟨⟨⟨h1,h2⟩,h3⟩,h4⟩,h5⟩,h6⟩:=hp
  rw[h.doms,h.decls,h.len]
  exact⟨⟨⟨⟨⟨h1,h2⟩,h3⟩,h4⟩,h5⟩,fun r hr=>Ao (h6 _ ((h.mem r).1 hr))⟩
 unfold cp at hx ⊢
 rw[hq,h.doms,h.decls]
 rw[hp]at hx
 exact hx
theorem sl {n:Nat}{E E':List Edg}(h:∀e,e∈E↔e∈E'):stg n E=stg n E':=by
 have hS:∀f,Sol E f↔Sol E' f:=fun f=>⟨fun k e he=>k e ((h e).2 he),fun k e he=>k e ((h e).1 he)⟩
 have hL:gU n E=gU n E':=by
  funext l
  unfold gU fA
  simp only[hS]
 by_cases k:∃l,gU n E l
 ·obtain⟨l,hl⟩:=k
  rw[iP hl,iP (hL ▸ hl)]
 ·have k':¬ ∃l,gU n E' l:=hL ▸ k
  unfold stg
  rw[dif_neg k,dif_neg k']
theorem BF {x q:Pgm}(h:Turned x q)(e:Edg):e∈eJ q↔e∈eJ x:=by
 have key:∀{x q:Pgm},Turned x q->e∈eJ q->e∈eJ x:=fun {x q} h he=>by
  obtain⟨r,hr,he⟩:=ot he
  refine rA ((h.mem r).1 hr) ?_
  rw[<- lJ h.decls]
  unfold gd ia at *
  simpa using he
 exact⟨key h,key h.symm⟩
theorem jX {x q:Pgm}(h:Turned x q)(hx:(soundP x).2.1=0):soundP q=soundP x:=by
 obtain⟨l,hs,hr,hb,hst⟩:=eq hx
 have hb':em q 0 q.rules=none:=lM _ _ fun r hr=>by
  have:=fo _ _ hb (ia r) ((h.mem r).1 hr)
  have:=yH this
  rw[kE]at this
  exact uQ h.doms h.decls this
 have hst':stgP q=some l:=by
  unfold stgP at hst ⊢
  rw[h.decls,sl (BF h)]
  exact hst
 rw[hs]
 unfold soundP
 rw[if_neg (by rw[vc h hr];simp),hb',hst']
theorem sp {x q:Pgm}(h:Turned x q)(hx:(soundP x).2.1≠0):(soundP q).2.1≠0:=fun e=>hx (by rw[jX h.symm e];exact e)
theorem MW {x q:Pgm}(h:Turned x q)(hx:(soundP x).2.1=0):stN q=stN x:=by
 funext n
 unfold stN ixR
 rw[jX h hx,h.decls]
theorem s8 {x q:Pgm}(h:Turned x q){st:List UInt8->Nat}{T0:Rlt}(s:Nat)(n:List UInt8)(row:List Int):Mdl x.rules st T0 s n row↔Mdl q.rules st T0 s n row:=by
 have key:∀{x q:Pgm},Turned x q->∀s T,pq x.rules st s T->pq q.rules st s T:=fun {x q} h s T hc r hr hs g hg=>hc (ia r) ((h.mem r).1 hr) hs g (fun a ha=>hg a (by simpa [ia]using ha))
 exact p8 (fun s T=>⟨key h s T,key h.symm s T⟩) s n row
theorem tG {x q:Pgm}(h:Turned x q)(hx:(soundP x).2.1=0){T0:Rlt}{L:List Tbl}(k:EvalOk q T0 L):EvalOk x T0 L:=by
 refine⟨by rw[k.nm,h.decls],fun t ht=>?_⟩
 obtain⟨h1,h2,h3⟩:=k.row t ht
 refine⟨h1,h2,fun r=>?_⟩
 rw[h3,MW h hx,h.decls]
 exact(s8 h _ _ _).symm
theorem yz {x q:Pgm}(h:Turned x q)(hds:∀d,d∈x.doms->d.size<=256){L M:List Tbl}{e f:Int}(hL:bQ x [] L e)(hM:bQ q [] M f):(e=0->f=0/\M=L)/\(e≠0->f≠0):=by
 have hT:cQ x [] ([]:List Tbl)=true:=rfl
 have hT':cQ q [] ([]:List Tbl)=true:=rfl
 unfold bQ at hL hM
 by_cases hx:(soundP x).2.1=0
 ·have hq:(soundP q).2.1=0:=by rw[jX h hx];exact hx
  rw[if_neg (by simp[hx]),if_neg (by simp[hT])]at hL
  rw[if_neg (by simp[hq]),if_neg (by simp[hT'])]at hM
  have hfull:pe q (cP [])↔pe x (cP []):=by
   unfold pe
   rw[MW h hx,h.decls]
   simp only[s8 h]
  rcases hL with ⟨rfl,hL⟩|⟨rfl,_,hL⟩
  ·have hno:=kS hL (fun s n r h=>iX hds hx hT s n r h)
   rcases hM with ⟨rfl,hM⟩|⟨_,_,hM⟩
   ·exact⟨fun _=>⟨rfl,mw hL (tG h hx hM)⟩,fun h=>absurd rfl h⟩
   ·exact absurd (hfull.1 hM) hno
  ·refine⟨fun e=>(by cases e),fun _=>?_⟩
   rcases hM with ⟨rfl,hM⟩|⟨rfl,_,hM⟩
   ·exact absurd (hfull.2 hL) (kS hM (fun s n r k=>iX (by rw[h.doms];exact hds) hq hT' s n r k))
   ·decide
 ·have hq:=sp h hx
  rw[if_pos hx]at hL
  rw[if_pos hq]at hM
  rw[hL.2,hM.2]
  exact⟨fun e=>absurd e hx,fun _=>hq⟩
def iD (l:List Rul)(c n:Nat):List Rul:=(List.range n).map fun i=>ia ((l[(i+c) % l.length]?).getD ⟨⟨false,[],[]⟩,[]⟩)
theorem nj (x:Pgm)(c:Nat):Turned x ⟨x.doms,x.decls,iD x.rules c x.rules.length⟩:=by
 refine⟨rfl,rfl,by simp[iD],fun r=>?_⟩
 simp only[iD,E_,List.mem_range]
 constructor
 ·rintro⟨i,hi,rfl⟩
  rw[kE]
  have:(i+c) % x.rules.length<x.rules.length:=Nat.mod_lt _ (by omega)
  obtain⟨y,hy⟩:=aN this
  rw[hy]
  exact p_ hy
 ·intro hr
  obtain⟨k,hk⟩:=h_.1 hr
  have hkl:=(n_.1 hk).1
  refine⟨(k+(x.rules.length - c % x.rules.length)) % x.rules.length,Nat.mod_lt _ (by omega),?_⟩
  have hcl:c % x.rules.length<x.rules.length:=Nat.mod_lt _ (by omega)
  have e:((k+(x.rules.length - c % x.rules.length)) % x.rules.length+c) % x.rules.length=k:=by
   have h1:=Nat.div_add_mod c x.rules.length
   rw[Nat.mod_add_mod]
   generalize x.rules.length=n at *
   have e2:k+(n - c % n)+c=k+n*(c / n+1):=by
    rw[Nat.mul_add,Nat.mul_one]
    omega
   rw[e2,Nat.add_mul_mod_self_left,Nat.mod_eq_of_lt hkl]
  rw[e,hk]
  simp[kE]
theorem yA {l:List Rul}{c n:Nat}{r:Rul}(h:l[(n+c) % l.length]?=some r):iD l c (n+1)=iD l c n++[ia r]:=by
 unfold iD
 rw[List.range_succ,List.map_append]
 simp[h]
theorem sh {l:List Rul}{c n:Nat}:(iD l c n).length=n:=by simp[iD]
theorem PgmOk.turn {x q:Pgm}(h:PgmOk x)(ht:Turned x q):PgmOk q:=by
 obtain⟨h1,h2,h3,h4,h5,h6⟩:=h
 refine⟨by rw[ht.doms];exact h1,by rw[ht.decls];exact h2,by rw[ht.len];exact h3,by rw[ht.doms];exact h4,by rw[ht.decls];exact h5,fun y hy=>?_⟩
 obtain⟨g1,g2,g3⟩:=h6 _ ((ht.mem y).1 hy)
 exact⟨g1,by simpa [ia]using g2,fun a ha=>g3 a (by simpa [ia]using ha)⟩
end Go.Proofs.YteldpmgepfaiiaaGreatDoor
