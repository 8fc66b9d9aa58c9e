/- Walks of functions that the claim reaches, and plain facts of them. Conditions: those in the statements. -/
import Derived.Test.YteldpmgepfaiiaaGreatDoorQqZij
import Derived.Test.YteldpmgepfaiiaaGreatDoorQqZgj
import Derived.Test.YteldpmgepfaiiaaGreatDoorQqWlj
set_option linter.unusedSimpArgs false
set_option linter.unusedVariables false
set_option maxRecDepth 100000
namespace Go.Proofs.YteldpmgepfaiiaaGreatDoor
open Go.RowKit
attribute [local go_sem] aN aX cG
theorem se {x:Pgm}{T0:Rlt}{L M:List Tbl}(h:EvalOk x T0 L)(k:EvalOk x T0 M):M=L:=by
 have hnm:M.map (·.nm)=L.map (·.nm):=k.nm.trans h.nm.symm
 refine List.ext_getElem? fun j=>?_
 have hj:(M.map (·.nm))[j]?=(L.map (·.nm))[j]?:=by rw[hnm]
 rw[List.getElem?_map,List.getElem?_map]at hj
 cases hl:L[j]? with
 |none=>
  cases hm:M[j]? with
  |none=>rfl
  |some t=>rw[hl,hm]at hj;cases hj
 |some t=>
  cases hm:M[j]? with
  |none=>rw[hl,hm]at hj;cases hj
  |some u=>
   rw[hl,hm]at hj
   simp only[Option.map_some,Option.some.injEq]at hj
   have h1:=h.row t (List.mem_of_getElem? hl)
   have h2:=k.row u (List.mem_of_getElem? hm)
   have hrs:u.rs=t.rs:=gz h2.1 h1.1 fun r=>by rw[h2.2.2 r,h1.2.2 r,hj]
   obtain⟨un,ur⟩:=u
   obtain⟨tn,tr⟩:=t
   simp only at hj hrs
   rw[hj,hrs]
theorem rM {x:Pgm}{g:List Tbl}(hds:∀d,d∈x.doms→d.size≤256)(hs:(soundP x).2.1=0)(hg:cV x [] g=true):∀(s:Nat) (n:List UInt8) (r:List Int),Mdl x.rules (stN x) (dD g) s n r→∃k,cW x.decls n=some k
 |0,n,r,h=>by
  obtain⟨t,ht,rfl,_⟩:=gS h
  obtain⟨k,d,h1,_⟩:=dN hg t ht
  exact⟨k,h1⟩
 |s+1,n,r,h=>by
  have ih:=rM hds hs hg s
  have:=h (fun n row=>(∃k,cW x.decls n=some k)∧(stN x n=s∨Mdl x.rules (stN x) (dD g) s n row)) (fun n row hm=>⟨ih n row hm,.inr hm⟩) (fun n row hn hm=>hm.2.resolve_left hn) (fun rr hr hst gg _=>by
   obtain⟨j,hj⟩:=List.mem_iff_getElem?.1 hr
   obtain⟨k,_,h1,_⟩:=(jA hds hs hj).hd
   exact⟨⟨k,h1⟩,.inl hst⟩)
  exact this.1
theorem Ak {x:Pgm}{g L M:List Tbl}{e f:Int}(hds:∀d,d∈x.doms→d.size≤256)(h:en x g L e)(k:cP x g M f):M=L∧f=e:=by
 unfold en at h
 unfold cP at k
 by_cases hs:(soundP x).2.1≠0
 ·rw[if_pos hs]at h k
  exact⟨k.1.trans h.1.symm,k.2.trans h.2.symm⟩
 ·rw[if_neg hs]at h k
  by_cases hT:cV x [] g=false
  ·rw[if_pos hT]at h k
   exact⟨k.1.trans h.1.symm,k.2.trans h.2.symm⟩
  ·rw[if_neg hT]at h k
   obtain⟨rfl,hL⟩:=h
   rcases k with ⟨rfl,hM⟩|⟨_,_,s,n,l,h1,h2,h3,h4⟩
   ·exact⟨se hL hM,rfl⟩
   ·exfalso
    have hs':(soundP x).2.1=0:=Classical.byContradiction hs
    have hT':cV x [] g=true:=by simpa using hT
    have hl0:0<l.length:=by omega
    obtain⟨r0,hr0⟩:=aO hl0
    obtain⟨k,hk⟩:=rM hds hs' hT' s n r0 (h4 r0 (List.mem_of_getElem? hr0))
    have hkn:=cN (show ixT n (x.decls.map (·.name))=some k from hk)
    rw[← hL.nm,List.getElem?_map]at hkn
    obtain⟨t,ht,htn⟩:=Option.map_eq_some_iff.1 hkn
    have hrow:=hL.row t (List.mem_of_getElem? ht)
    have:=p9 h2 fun r hr=>(hrow.2.2 r).2 (by rw[htn];exact Hc h1 (h4 r hr))
    omega
theorem vB {x:Pgm}{g:List Tbl}(hds:∀d,d∈x.doms→d.size≤256)(hs:(soundP x).2.1=0)(hg:∀t,t∈g→∀r,r∈t.rs→r.length≤100000):∀(s:Nat) (n:List UInt8) (r:List Int),Mdl x.rules (stN x) (dD g) s n r→r.length≤100000
 |0,n,r,h=>by
  obtain⟨t,ht,rfl,hr⟩:=gS h
  exact hg t ht r hr
 |s+1,n,r,h=>by
  have ih:=vB hds hs hg s
  have:=h (fun n row=>row.length≤100000∧(stN x n=s∨Mdl x.rules (stN x) (dD g) s n row)) (fun n row hm=>⟨ih n row hm,.inr hm⟩) (fun n row hn hm=>hm.2.resolve_left hn) (fun rr hr hst gg _=>by
   obtain⟨j,hj⟩:=List.mem_iff_getElem?.1 hr
   have h1:=(jA hds hs hj).hl
   exact⟨by rw[eG,List.length_map];omega,.inl hst⟩)
  exact this.1
theorem Al {x:Pgm}{g L:List Tbl}{e:Int}(hds:∀d,d∈x.doms→d.size≤256)(hg:∀t,t∈g→∀r,r∈t.rs→r.length≤100000)(h:en x g L e):L.length≤1000000∧∀y,y∈L→iU y.rs:=by
 unfold en at h
 split at h
 ·rw[h.1];exact⟨by simp,fun y hy=>by cases hy⟩
 ·split at h
  ·rw[h.1];exact⟨by simp,fun y hy=>by cases hy⟩
  ·rename_i h1 h2
   have hs':(soundP x).2.1=0:=Classical.byContradiction h1
   obtain⟨l,_,hr0,_,_⟩:=eW hs'
   have hdl:=(gX (dQ hr0)).1
   have hlen:L.length=x.decls.length:=by have:=congrArg List.length h.2.nm;simpa using this
   exact⟨by omega,fun y hy=>⟨by have:=(h.2.row y hy).2.1;omega,fun r hr=>by have:=vB hds hs' hg _ _ r (((h.2.row y hy).2.2 r).1 hr);omega⟩⟩
def Ih (x:Pgm):Prop:=∀d,d∈x.doms→d.size≤8
set_option maxHeartbeats 8000000 in
theorem sU (x:Pgm)(g:List Tbl)(oL:Own)(hx:cK x)(hg:qx g)(t:St):SRet Tryz.prog 3 [.agg (pgC x),.lst (g.map aZ) oL] t (.bool true) t:=by
 by_cases hF:Im x
 ·by_cases hL:Ih x
  ·by_cases hS:uL g
   ·have hds:∀d,d∈x.doms→d.size≤256:=fun d hd=>by have:=hL d hd;omega
    have w1:=fun s=>uI x hx s
    have w2:∀s,SCalls Tryz.prog 10 [.agg (pgC x)] s fun w u=>∃r:Bool,w=.ret (.bool r)∧u=s∧True:=fun s=>SCalls.mono (nR x hx hF s) fun w u ⟨r,h1,h2,_⟩=>⟨r,h1,h2,trivial⟩
    have w3:∀s,SCalls Tryz.prog 11 [.lst (g.map aZ) oL] s fun w u=>∃r:Bool,w=.ret (.bool r)∧u=s∧True:=fun s=>SCalls.mono (sW g oL hg s) fun w u ⟨r,h1,h2,_⟩=>⟨r,h1,h2,trivial⟩
    have w4:=fun s=>Dn x g oL hx hds (by have:=hS.1;omega) (fun t ht=>⟨by have:=(hS.2 t ht).1;omega,fun r hr=>by have:=(hS.2 t ht).2 r hr;omega⟩) s
    have w5:=fun s=>wD x g oL hx hds (by have:=hS.1;omega) (fun t ht=>⟨by have:=(hS.2 t ht).1;omega,fun r hr=>by have:=(hS.2 t ht).2 r hr;omega⟩) s
    have HDS:=Lib.hid hds
    have HGR:Hid (∀t,t∈g→∀r,r∈t.rs→r.length≤100000):=Lib.hid fun t ht r hr=>by have:=(hS.2 t ht).2 r hr;omega
    simp only[pgC]at w1 w2 w4 w5 ⊢
    clear hF hL hS hds hg hx
    refine av Tryz.func3 rfl Tryz.ntmps3 rfl fun Q hQ hQe=>?_
    (repeat'(first|refine Ctl ?_|((with_reducible refine Kof.use hK ?_);clear hK hE K E)|((with_reducible refine aj (fun h=>?_) (fun h=>?_))<;>(try(exfalso;assumption)))|((first|(with_reducible first|refine ae fun K E hK hE=>?_|refine ak sw (sV _) ?_)|((with_reducible refine aT CW (w1 _) (fun a h=>?_)))|((with_reducible refine aT AT (w2 _) (fun a h=>?_)))|((with_reducible refine aT D8 (w3 _) (fun a h=>?_)))|((with_reducible refine aT K9 (w4 _) (fun a h=>?_)))|((with_reducible refine aT D7 (w5 _) (fun a h=>?_)))|((with_reducible refine ao (fun b hb=>?_)))|((with_reducible refine dC (fun h=>?_) (fun h=>?_))))<;>(try simp(disch:=omega) only[go_sem,seval, *]))))
    rotate_right
    ·rename_i q d1 d2
     have hd:=d1 d2
     obtain⟨e1,e2⟩:=Ak HDS.out hd h
     have ws:=fun s=>Dc q.1 .no .no (Al HDS.out HGR.out hd) s
     have HE2:Hid (a.2=q.2.1):=Lib.hid e2
     rw[e1]
     have he2:((a.2:Int)=q.2.1)=True:=eq_true e2
     clear d1 d2 hd h e1 e2
     (repeat'(first|refine Ctl ?_|((with_reducible refine Kof.use hK ?_);clear hK hE K E)|(((with_reducible first|refine ak K8 (ws _) ?_|refine ak sw (sV _) ?_))<;>(try simp(disch:=omega) only[go_sem,seval,he2, *]))))
     all_goals(refine ap xh hQ ?_)
     all_goals exact⟨_,t,Wk.refl _,Fg.of_set _ hb,rfl,rfl⟩
    all_goals(refine ap xh hQ ?_)
    all_goals exact⟨_,t,Wk.refl _,Fg.of_set _ hb,rfl,rfl⟩
   ·have w1:=fun s=>uI x hx s
    have w2:∀s,SCalls Tryz.prog 10 [.agg (pgC x)] s fun w u=>∃r:Bool,w=.ret (.bool r)∧u=s∧True:=fun s=>SCalls.mono (nR x hx hF s) fun w u ⟨r,h1,h2,_⟩=>⟨r,h1,h2,trivial⟩
    have w3:∀s,SRet Tryz.prog 11 [.lst (g.map aZ) oL] s (.bool false) s:=fun s=>SCalls.mono (sW g oL hg s) fun w u ⟨r,h1,h2,h3⟩=>by
     cases r with
     |false=>exact⟨h1,h2⟩
     |true=>exact absurd (h3 rfl) hS
    simp only[pgC]at w1 w2 ⊢
    clear hF hL hS hg hx
    refine av Tryz.func3 rfl Tryz.ntmps3 rfl fun Q hQ hQe=>?_
    (repeat'(first|refine Ctl ?_|((with_reducible refine Kof.use hK ?_);clear hK hE K E)|((with_reducible refine aj (fun h=>?_) (fun h=>?_))<;>(try(exfalso;assumption)))|((first|(with_reducible first|refine ae fun K E hK hE=>?_|refine ak D8 (w3 _) ?_|refine ak sw (sV _) ?_)|((with_reducible refine aT CW (w1 _) (fun a h=>?_)))|((with_reducible refine aT AT (w2 _) (fun a h=>?_)))|((with_reducible refine ao (fun b hb=>?_)))|((with_reducible refine dC (fun h=>?_) (fun h=>?_))))<;>(try simp(disch:=omega) only[go_sem,seval, *]))))
    all_goals(refine ap xh hQ ?_)
    all_goals exact⟨_,t,Wk.refl _,Fg.of_set _ hb,rfl,rfl⟩
  ·have w1:=fun s=>uI x hx s
   have w2:∀s,SRet Tryz.prog 10 [.agg (pgC x)] s (.bool false) s:=fun s=>SCalls.mono (nR x hx hF s) fun w u ⟨r,h1,h2,h3⟩=>by
    cases r with
    |false=>exact⟨h1,h2⟩
    |true=>exact absurd (h3 rfl) hL
   simp only[pgC]at w1 w2 ⊢
   clear hF hL hg hx
   refine av Tryz.func3 rfl Tryz.ntmps3 rfl fun Q hQ hQe=>?_
   (repeat'(first|refine Ctl ?_|((with_reducible refine Kof.use hK ?_);clear hK hE K E)|((with_reducible refine aj (fun h=>?_) (fun h=>?_))<;>(try(exfalso;assumption)))|((first|(with_reducible first|refine ae fun K E hK hE=>?_|refine ak AT (w2 _) ?_|refine ak sw (sV _) ?_)|((with_reducible refine aT CW (w1 _) (fun a h=>?_)))|((with_reducible refine ao (fun b hb=>?_)))|((with_reducible refine dC (fun h=>?_) (fun h=>?_))))<;>(try simp(disch:=omega) only[go_sem,seval, *]))))
   all_goals(refine ap xh hQ ?_)
   all_goals exact⟨_,t,Wk.refl _,Fg.of_set _ hb,rfl,rfl⟩
 ·have w1:∀s,SRet Tryz.prog 9 [.agg (pgC x)] s (.bool false) s:=fun s=>SCalls.mono (wm x hx s) fun w u ⟨r,h1,h2,h3⟩=>by
   cases r with
   |false=>exact⟨h1,h2⟩
   |true=>exact absurd (h3 rfl) hF
  simp only[pgC]at w1 ⊢
  clear hF hg hx
  refine av Tryz.func3 rfl Tryz.ntmps3 rfl fun Q hQ hQe=>?_
  (repeat'(first|refine Ctl ?_|((with_reducible refine Kof.use hK ?_);clear hK hE K E)|((with_reducible refine aj (fun h=>?_) (fun h=>?_))<;>(try(exfalso;assumption)))|((first|(with_reducible first|refine ae fun K E hK hE=>?_|refine ak CW (w1 _) ?_|refine ak sw (sV _) ?_)|((with_reducible refine ao (fun b hb=>?_))))<;>(try simp(disch:=omega) only[go_sem,seval, *]))))
  all_goals(refine ap xh hQ ?_)
  all_goals exact⟨_,t,Wk.refl _,Fg.of_set _ hb,rfl,rfl⟩
end Go.Proofs.YteldpmgepfaiiaaGreatDoor
namespace Go.Proofs.YteldpmgepfaiiaaGreatDoor
open Go.RowKit
section
variable {H : Type} {enc : TypeId × Value → H} {w : World}
theorem BN {fuel:Nat}{cs:List Value}{x:DataW H×List MemPlace}(h:DataW.trod enc Tryz.prog w 0 (fun _=>true) true fuel 48 cs=some x)(hw:Wt Tryz.prog 48 x.1) :
  ∃r:List Int,CellsR (GhW w) cs [bV r]∧r.length≤140737488355328:=by
 obtain⟨xss,h1,h2,h3⟩:=eB (Q:=fun xs=>∃n:Int,xs=[.int .i64 n]∧True) (sz:=1) Tryz.underlying48 (by kernel_rfl) (by omega) (by decide +kernel) h hw (fun n cs' y _ hy _=>by
  obtain⟨k,hk,_⟩:=tO (GhW w) Tryz.underlying3 hy
  exact⟨[.int .i64 k],hk,rfl,k,rfl,trivial⟩)
 obtain⟨l,rfl,_⟩:=eT (C:=fun n:Int=>[VV.int .i64 n]) xss h2
 exact⟨l,h1,by rw[List.length_map]at h3;exact cM h3⟩
theorem zx {fuel:Nat}{cs:List Value}{x:DataW H×List MemPlace}(h:DataW.trod enc Tryz.prog w 0 (fun _=>true) true fuel 44 cs=some x)(hw:Wt Tryz.prog 44 x.1) :
  ∃l:List (List Int),CellsR (GhW w) cs [.lst (aD l) .no]∧l.length≤140737488355328∧∀r,r∈l→r.length≤140737488355328:=by
 obtain⟨xss,h1,h2,h3⟩:=eB (Q:=fun xs=>∃r:List Int,xs=[bV r]∧r.length≤140737488355328) (sz:=1) Tryz.underlying44 (by kernel_rfl) (by omega) (by decide +kernel) h hw (fun n cs' y _ hy hwy=>by
  obtain⟨r,hr1,hr2⟩:=BN hy hwy
  exact⟨[bV r],hr1,rfl,r,rfl,hr2⟩)
 obtain⟨l,rfl,hl⟩:=eT (C:=fun r:List Int=>[bV r]) xss h2
 exact⟨l,h1,by rw[List.length_map]at h3;exact cM h3,hl⟩
theorem Fw {fuel:Nat}{cs:List Value}{x:DataW H×List MemPlace}(h:DataW.trod enc Tryz.prog w 0 (fun _=>true) true fuel 46 cs=some x)(hw:Wt Tryz.prog 46 x.1) :
  ∃t:Tbl,CellsR (GhW w) cs (aZ t)∧t.nm.length≤140737488355328∧t.rs.length≤140737488355328∧∀r,r∈t.rs→r.length≤140737488355328:=by
 obtain⟨n,hn,hl,hf⟩:=ft Tryz.underlying46 (by kernel_rfl) (dF (by decide +kernel)) h hw
 obtain⟨v0,y0,e0,t0,w0⟩:=hf 0 _ rfl
 obtain⟨v1,y1,e1,t1,w1⟩:=hf 1 _ rfl
 obtain⟨d,r0,l0⟩:=kR (GhW w) Tryz.underlying9 t0 w0
 obtain⟨l,r1,l1,l2⟩:=zx t1 w1
 refine⟨⟨d,l⟩,CellsR.of (by rw[hl];rfl) fun j y hy=>?_,cM l0,l1,l2⟩
 simp only[aZ]at hy
 match j with
 |0=>simp at hy;subst hy;exact⟨v0,e0,r0.get1⟩
 |1=>simp at hy;subst hy;exact⟨v1,e1,r1.get1⟩
 |j+2=>simp at hy
theorem BM {fuel:Nat}{cs:List Value}{x:DataW H×List MemPlace}(h:DataW.trod enc Tryz.prog w 0 (fun _=>true) true fuel 27 cs=some x)(hw:Wt Tryz.prog 27 x.1) :
  ∃l:List Tbl,CellsR (GhW w) cs [.lst (l.map aZ) .no]∧qx l:=by
 obtain⟨xss,h1,h2,h3⟩:=eB (Q:=fun xs=>∃t:Tbl,xs=aZ t∧t.nm.length≤140737488355328∧t.rs.length≤140737488355328∧∀r,r∈t.rs→r.length≤140737488355328) (sz:=2) Tryz.underlying27 (by kernel_rfl) (by omega) (by decide +kernel) h hw (fun n cs' y _ hy hwy=>by
  obtain⟨t,ht1,ht2⟩:=Fw hy hwy
  exact⟨aZ t,ht1,rfl,t,rfl,ht2⟩)
 obtain⟨l,rfl,hl⟩:=eT xss h2
 exact⟨l,h1,by rw[List.length_map]at h3;exact cM h3,hl⟩
end
end Go.Proofs.YteldpmgepfaiiaaGreatDoor
