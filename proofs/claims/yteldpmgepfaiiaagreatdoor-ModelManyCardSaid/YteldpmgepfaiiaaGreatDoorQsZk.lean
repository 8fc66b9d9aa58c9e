/- Walks of functions, and plain facts. Conditions: those in the statements. -/
import Derived.Test.YteldpmgepfaiiaaGreatDoorQsZij
set_option linter.unusedSimpArgs false
set_option linter.unusedVariables false
set_option maxRecDepth 100000
namespace Go.Proofs.YteldpmgepfaiiaaGreatDoor
open Go.RowKit
attribute [local go_sem] aH aV cH
theorem mw {x:Pgm}{T0:Rlt}{L M:List Tbl}(h:EvalOk x T0 L)(k:EvalOk x T0 M):M=L:=by
 have hnm:M.map (·.nm)=L.map (·.nm):=k.nm.trans h.nm.symm
 refine List.ext_getElem? fun j=>?_
 have hj:(M.map (·.nm))[j]?=(L.map (·.nm))[j]?:=by rw[hnm]
 rw[c_,c_]at hj
 cases hl:L[j]? with
 |none=>
  cases hm:M[j]? with
  |none=>rfl
  |some t=>rw[hl,hm]at hj;cases hj
 |some t=>
  cases hm:M[j]? with
  |none=>rw[hl,hm]at hj;cases hj
  |some u=>
   rw[hl,hm]at hj
   simp only[Option.map_some,Option.some.injEq]at hj
   have h1:=h.row t (p_ hl)
   have h2:=k.row u (p_ hm)
   have hrs:u.rs=t.rs:=gJ h2.1 h1.1 fun r=>by rw[h2.2.2 r,h1.2.2 r,hj]
   obtain⟨un,ur⟩:=u
   obtain⟨tn,tr⟩:=t
   simp only at hj hrs
   rw[hj,hrs]
theorem iX {x:Pgm}{g:List Tbl}(hds:∀d,d∈x.doms->d.size<=256)(hs:(soundP x).2.1=0)(hg:cQ x [] g=true):∀(s:Nat) (n:List UInt8) (r:List Int),Mdl x.rules (stN x) (cP g) s n r->∃k,cO x.decls n=some k
 |0,n,r,h=>by
  obtain⟨t,ht,rfl,_⟩:=fQ h
  obtain⟨k,d,h1,_⟩:=dD hg t ht
  exact⟨k,h1⟩
 |s+1,n,r,h=>by
  have ih:=iX hds hs hg s
  have:=h (fun n row=>(∃k,cO x.decls n=some k)/\(stN x n=s\/Mdl x.rules (stN x) (cP g) s n row)) (fun n row hm=>⟨ih n row hm,.inr hm⟩) (fun n row hn hm=>hm.2.resolve_left hn) (fun rr hr hst gg _=>by
   obtain⟨j,hj⟩:=h_.1 hr
   obtain⟨k,_,h1,_⟩:=(jY hds hs hj).hd
   exact⟨⟨k,h1⟩,.inl hst⟩)
  exact this.1
theorem xh {x:Pgm}{g:List Tbl}(hds:∀d,d∈x.doms->d.size<=256)(hs:(soundP x).2.1=0)(hg:∀t,t∈g->∀r,r∈t.rs->r.length<=100000):∀(s:Nat) (n:List UInt8) (r:List Int),Mdl x.rules (stN x) (cP g) s n r->r.length<=100000
 |0,n,r,h=>by
  obtain⟨t,ht,rfl,hr⟩:=fQ h
  exact hg t ht r hr
 |s+1,n,r,h=>by
  have ih:=xh hds hs hg s
  have:=h (fun n row=>row.length<=100000/\(stN x n=s\/Mdl x.rules (stN x) (cP g) s n row)) (fun n row hm=>⟨ih n row hm,.inr hm⟩) (fun n row hn hm=>hm.2.resolve_left hn) (fun rr hr hst gg _=>by
   obtain⟨j,hj⟩:=h_.1 hr
   have h1:=(jY hds hs hj).hl
   exact⟨by rw[ei,a_];omega,.inl hst⟩)
  exact this.1
theorem BK {x:Pgm}{g L:List Tbl}{e:Int}(hds:∀d,d∈x.doms->d.size<=256)(hg:∀t,t∈g->∀r,r∈t.rs->r.length<=100000)(h:eR x g L e):L.length<=1000000/\∀y,y∈L->iv y.rs:=by
 unfold eR at h
 split at h
 ·rw[h.1];exact⟨by simp,fun y hy=>by cases hy⟩
 ·split at h
  ·rw[h.1];exact⟨by simp,fun y hy=>by cases hy⟩
  ·rename_i h1 h2
   have hs':(soundP x).2.1=0:=Classical.byContradiction h1
   obtain⟨l,_,hr0,_,_⟩:=eq hs'
   have hdl:=(ij (dL hr0)).1
   have hlen:L.length=x.decls.length:=by have:=congrArg List.length h.2.nm;simpa using this
   exact⟨by omega,fun y hy=>⟨by have:=(h.2.row y hy).2.1;omega,fun r hr=>by have:=xh hds hs' hg _ _ r (((h.2.row y hy).2.2 r).1 hr);omega⟩⟩
def we (x:Pgm):Prop:=∀d,d∈x.doms->d.size<=8
end Go.Proofs.YteldpmgepfaiiaaGreatDoor
