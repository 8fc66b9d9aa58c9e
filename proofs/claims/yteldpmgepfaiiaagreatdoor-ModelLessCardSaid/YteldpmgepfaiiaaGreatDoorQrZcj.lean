/- Walks of functions that the claim reaches, and plain facts of them. Conditions: those in the statements. -/
import Derived.Test.YteldpmgepfaiiaaGreatDoorQrWuj
import Derived.Test.YteldpmgepfaiiaaGreatDoorQrWlj
import Derived.Test.YteldpmgepfaiiaaGreatDoorQrYij
set_option linter.unusedSimpArgs false
set_option linter.unusedVariables false
set_option maxRecDepth 100000
namespace Go.Proofs.YteldpmgepfaiiaaGreatDoor
open Go.RowKit
structure ScpStep (dz:List UInt8->Int) (X Y:Scp) (ts:List Trm):Prop where
 sub:∀v,v∈X.vs->v∈Y.vs
 nd:X.vs.Nodup->Y.vs.Nodup
 var:∀m,m∈ts->m.var=true->m.nm∈Y.vs
 src:∀v,v∈Y.vs->v∈X.vs\/∃m,m∈ts/\m.var=true/\m.nm=v
 num:∀m,m∈ts->m.var=false->∃d,m.n<dz d
theorem th {dz:List UInt8->Int}{X Y:Scp}{t:Trm}{d:List UInt8}(h:fD dz X t d=.ok Y):ScpStep dz X Y [t]:=by
 unfold fD at h
 split at h
 ·rename_i hv
  split at h
  ·cases h
  ·rename_i hn
   injection h with h
   subst h
   exact⟨fun v h=>h,fun h=>h,fun m hm h=>(by rw[e_]at hm;subst hm;rw[hv]at h;cases h),fun v h=>.inl h,fun m hm _=>by rw[e_]at hm;subst hm;exact⟨d,by omega⟩⟩
 ·rename_i hv
  have hv':t.var=true:=by simpa using hv
  split at h
  ·rename_i hx
   injection h with h
   subst h
   refine⟨fun v h=>by simp[h],fun h=>?_,fun m hm _=>by rw[e_]at hm;subst hm;simp,fun v h=>?_,fun m hm h=>by rw[e_]at hm;subst hm;rw[hv']at h;cases h⟩
   ·rw[List.nodup_append]
    refine⟨h,by simp,fun a ha b hb=>?_⟩
    rw[e_]at hb
    subst hb
    rintro rfl
    exact gG.1 hx ha
   ·rcases l_.1 h with h|h
    ·exact .inl h
    ·rw[e_]at h
     exact .inr ⟨t,by simp,hv',h.symm⟩
  ·rename_i i hx
   split at h
   ·injection h with h
    subst h
    exact⟨fun v h=>h,fun h=>h,fun m hm _=>by rw[e_]at hm;subst hm;exact p_ (cN hx),fun v h=>.inl h,fun m hm h=>by rw[e_]at hm;subst hm;rw[hv']at h;cases h⟩
   ·cases h
theorem ScpStep.refl {dz:List UInt8->Int}{X:Scp}:ScpStep dz X X []:=⟨fun v h=>h,fun h=>h,fun m h=>(by cases h),fun v h=>.inl h,fun m h=>by cases h⟩
theorem ScpStep.trans {dz:List UInt8->Int}{X Y Z:Scp}{a b:List Trm}(h:ScpStep dz X Y a)(k:ScpStep dz Y Z b):ScpStep dz X Z (a++b):=
 ⟨fun v hv=>k.sub v (h.sub v hv),fun hn=>k.nd (h.nd hn),fun m hm hv=>(l_.1 hm).elim (fun e=>k.sub _ (h.var m e hv)) fun e=>k.var m e hv,fun v hv=>by
  rcases k.src v hv with e|⟨m,hm,e⟩
  ·rcases h.src v e with e|⟨m,hm,e⟩
   ·exact .inl e
   ·exact .inr ⟨m,by simp[hm],e⟩
  ·exact .inr ⟨m,by simp[hm],e⟩,fun m hm hv=>(l_.1 hm).elim (fun e=>h.num m e hv) fun e=>k.num m e hv⟩
theorem qj {α β:Type}{a:Except Int α}{k:α->Except Int β}{b:β}(h:eb a k=.ok b):∃x,a=.ok x/\k x=.ok b:=by
 cases a with
 |ok x=>exact⟨x,rfl,h⟩
 |error e=>cases h
theorem ln {dz:List UInt8->Int}:∀{ts:List Trm} {ds:List (List UInt8)} {X Y:Scp},ts.length=ds.length->dG dz X ts ds=.ok Y->ScpStep dz X Y ts
 |[],[],X,Y,_,h=>by simp only[dG]at h;injection h with h;subst h;exact .refl
 |t::ts,d::ds,X,Y,hl,h=>by
  simp only[dG]at h
  obtain⟨Z,h1,h2⟩:=qj h
  exact(th h1).trans (ln (ts:=ts) (ds:=ds) (by simpa using hl) h2)
theorem nG {p:Pgm}{X Y:Scp}{a:Atm}(h:ce p X a=.ok Y):ScpStep (dM p.doms) X Y a.ts/\∃k d,cW p.decls a.rel=some k/\p.decls[k]?=some d/\a.ts.length=d.doms.length:=by
 unfold ce at h
 cases hr:cW p.decls a.rel with
 |none=>rw[hr]at h;cases h
 |some k=>
  rw[hr]at h
  simp only at h
  cases hd:p.decls[k]? with
  |none=>rw[hd]at h;cases h
  |some d=>
   rw[hd]at h
   simp only at h
   split at h
   ·cases h
   ·rename_i hl
    have hl':a.ts.length=d.doms.length:=by simpa using hl
    exact⟨ln hl' h,k,d,rfl,hd,hl'⟩
theorem lJ {p:Pgm}:∀{l:List Atm} {X Y:Scp},cU p X l=.ok Y->ScpStep (dM p.doms) X Y (l.flatMap (·.ts))/\∀a,a∈l->∃k d,cW p.decls a.rel=some k/\p.decls[k]?=some d/\a.ts.length=d.doms.length
 |[],X,Y,h=>by simp only[cU]at h;injection h with h;subst h;exact⟨.refl,fun a ha=>by cases ha⟩
 |a::l,X,Y,h=>by
  simp only[cU]at h
  obtain⟨Z,h1,h2⟩:=qj h
  obtain⟨g1,g2⟩:=nG h1
  obtain⟨g3,g4⟩:=lJ h2
  refine⟨g1.trans g3,fun b hb=>?_⟩
  rcases F_.1 hb with rfl|hb
  ·exact g2
  ·exact g4 b hb
theorem g9 {l:List (List UInt8)}(hn:l.Nodup){i:Nat}{k:List UInt8}(h:l[i]?=some k):ixT k l=some i:=by
 refine lZ (fun y hy e=>?_) h
 subst e
 obtain⟨j,hj⟩:=h_.1 hy
 have hji:j<i:=by have:=(n_.1 hj).1;rw[A_]at this;omega
 rw[List.getElem?_take_of_lt hji]at hj
 obtain⟨a1,a2⟩:=n_.1 hj
 obtain⟨b1,b2⟩:=n_.1 h
 exact List.pairwise_iff_getElem.1 hn j i a1 b1 hji (a2.trans b2.symm)
theorem vN {vs:List (List UInt8)}{ts:List Trm}(h:∀m,m∈ts->m.var=true->m.nm∈vs):ij vs vs.length ts:=fun m hm hv=>by
 cases hx:ixT m.nm vs with
 |none=>exact absurd (h m hm hv) (gG.1 hx)
 |some k=>exact⟨k,rfl,(n_.1 (cN hx)).1⟩
structure RulSnd (x:Pgm) (r:Rul) (vs:List (List UInt8)):Prop where
 nd:vs.Nodup
 vl:vs.length<=8
 hd:∃k d,cW x.decls r.head.rel=some k/\x.decls[k]?=some d/\r.head.ts.length=d.doms.length
 hf:ij vs vs.length r.head.ts
 hl:r.head.ts.length<=8
 hn:∀m,m∈r.head.ts->m.var=false->0<=m.n/\m.n<256
 bl:r.body.length<=8
 bd:∀a,a∈r.body->∃k d,cW x.decls a.rel=some k/\x.decls[k]?=some d/\a.ts.length=d.doms.length
 bf:∀a,a∈r.body->ij vs vs.length a.ts
 bt:∀a,a∈r.body->a.ts.length<=8
 bn:∀a,a∈r.body->∀m,m∈a.ts->m.var=false->0<=m.n/\m.n<256
 cov:Cov vs (cm r.body)
theorem yp {t:Trm}(h:gd t=true)(hv:t.var=false):0<=t.n:=by
 unfold gd at h
 rw[if_neg (by simp[hv])]at h
 simp only[Bool.and_eq_true,decide_eq_true_eq]at h
 exact h.1.2
theorem sK {a:Atm}(h:dl a=true):∀t,t∈a.ts->gd t=true:=by
 unfold dl at h
 simp only[Bool.and_eq_true,List.all_eq_true]at h
 exact h.1.1.1
theorem re {x:Pgm}(hd:∀d,d∈x.doms->d.size<=256){r:Rul}(hb:d8 r=true)(hl:r.head.ts.length<=8/\r.body.length<=8/\∀a,a∈r.body->a.ts.length<=8){Y:Scp}(h:cF x r=.ok Y):RulSnd x r Y.vs:=by
 unfold cF at h
 obtain⟨X1,h1,h⟩:=qj h
 obtain⟨X2,h2,h⟩:=qj h
 obtain⟨s1,k1⟩:=nG h1
 obtain⟨s2,k2⟩:=lJ h2
 split at h
 ·cases h
 rename_i hw
 split at h
 ·cases h
 rename_i h8
 injection h with h
 subst h
 have hw':dm r.body r.head=true/\r.body.all (dm r.body)=true:=by
  simpa using hw
 have s:=s1.trans s2
 have hnd:X2.vs.Nodup:=s.nd List.nodup_nil
 unfold d8 at hb
 simp only[Bool.and_eq_true,List.all_eq_true]at hb
 have hdz:∀(m:Trm),gd m=true->m.var=false->(∃d,m.n<dM x.doms d)->0<=m.n/\m.n<256:=fun m h1 h2 ⟨d,h3⟩=>by
  have h4:=yp h1 h2
  have h5:=vU (n:=d) hd (by decide)
  omega
 have hvs:∀v,v∈X2.vs->du r.body v=true:=fun v hv=>by
  rcases s.src v hv with e|⟨m,hm,hmv,hme⟩
  ·cases e
  ·rcases l_.1 hm with hm|hm
   ·have:=List.all_eq_true.1 hw'.1 m hm
    rw[hmv,hme]at this
    exact this
   ·obtain⟨a,ha,hm⟩:=List.mem_flatMap.1 hm
    have:=List.all_eq_true.1 (List.all_eq_true.1 hw'.2 a ha) m hm
    rw[hmv,hme]at this
    exact this
 refine⟨hnd,by omega,k1,vN fun m hm hv=>s.var m (by simp[hm]) hv,hl.1,fun m hm hv=>hdz m (sK hb.1.1.1.1.1 m hm) hv (s.num m (by simp[hm]) hv),hl.2.1,k2,
  fun a ha=>vN fun m hm hv=>s.var m (List.mem_append_right _ (List.mem_flatMap.2 ⟨a,ha,hm⟩)) hv,hl.2.2,fun a ha m hm hv=>hdz m (sK (hb.2 a ha) m hm) hv (s.num m (List.mem_append_right _ (List.mem_flatMap.2 ⟨a,ha,hm⟩)) hv),fun i hi=>?_⟩
 obtain⟨v,hv⟩:=aO hi
 have hg:=hvs v (p_ hv)
 unfold du at hg
 rw[List.any_eq_true]at hg
 obtain⟨a,ha,hg⟩:=hg
 simp only[Bool.and_eq_true,List.any_eq_true,decide_eq_true_eq]at hg
 obtain⟨hn,m,hm,hmv,rfl⟩:=hg
 exact⟨a,by simp only[cm,List.mem_filter];exact⟨ha,hn⟩,m,hm,hmv,g9 hnd hv⟩
theorem jA {x:Pgm}(hd:∀d,d∈x.doms->d.size<=256)(h:(soundP x).2.1=0){k:Nat}{r:Rul}(hr:x.rules[k]?=some r):RulSnd x r (varsP x (k:Int)).1.vs:=by
 obtain⟨l,hs,hr0,hb,hst⟩:=eW h
 obtain⟨Y,hY⟩:=fT x.rules 0 hb r (p_ hr)
 have hp:=dQ hr0
 have hbd:=(gX hp).2.2 r (p_ hr)
 have hrb:d8 r=true:=by
  unfold cE at hp
  simp only[Bool.and_eq_true,List.all_eq_true]at hp
  exact hp.2 r (p_ hr)
 have hv:varsP x (k:Int)=(Y,0):=by
  unfold varsP
  rw[if_neg (by simp[h]),if_neg (by omega),Int.toNat_natCast,hr]
  simp only[hY]
 rw[hv]
 exact re hd hrb hbd hY
theorem xx {vars:List (List UInt8)}{e e':Asg}{t:Trm}{z:Int}(h:ck vars e t z=some e'){v:Int}(hv:some v∈e'):some v∈e\/v=z:=by
 unfold ck at h
 split at h
 ·split at h
  ·injection h with h;subst h;exact .inl hv
  ·cases h
 ·split at h
  ·cases h
  ·split at h
   ·cases h
   ·injection h with h
    subst h
    rcases List.mem_or_eq_of_mem_set hv with e|e
    ·exact .inl e
    ·injection e with e;exact .inr e
   ·split at h
    ·injection h with h;subst h;exact .inl hv
    ·cases h
theorem jG {vars:List (List UInt8)}:∀{ts:List Trm} {zs:List Int} {e e':Asg},aP vars e ts zs=some e'->∀{v:Int},some v∈e'->some v∈e\/v∈zs
 |t::ts,z::zs,e,e',h,v,hv=>by
  simp only[aP]at h
  cases h1:ck vars e t z with
  |none=>rw[h1]at h;cases h
  |some e1=>
   rw[h1]at h
   rcases jG (ts:=ts) (zs:=zs) h hv with e2|e2
   ·rcases xx h1 e2 with e3|e3
    ·exact .inl e3
    ·exact .inr (by simp[e3])
   ·exact .inr (by simp[e2])
 |[],_,e,e',h,v,hv=>by simp only[aP]at h;injection h with h;subst h;exact .inl hv
 |_::_,[],e,e',h,v,hv=>by simp only[aP]at h;injection h with h;subst h;exact .inl hv
theorem kG {T:Tbs}{vars:List (List UInt8)}:∀{l:List Atm} {e e':Asg},e'∈dB T vars l e->∀{v:Int},some v∈e'->some v∈e\/∃a,a∈l/\∃r,r∈T a.rel/\v∈r
 |[],e,e',h,v,hv=>by simp only[dB,e_]at h;subst h;exact .inl hv
 |a::l,e,e',h,v,hv=>by
  simp only[dB,List.mem_flatMap]at h
  obtain⟨r,hr,h⟩:=h
  cases h1:aP vars e a.ts r with
  |none=>rw[h1]at h;cases h
  |some e1=>
   rw[h1]at h
   rcases kG h hv with e2|⟨b,hb,e2⟩
   ·rcases jG h1 e2 with e3|e3
    ·exact .inl e3
    ·exact .inr ⟨a,by simp,r,hr,e3⟩
   ·exact .inr ⟨b,by simp[hb],e2⟩
structure TbOk (x:Pgm) (X:List Tab):Prop where
 len:X.length=x.decls.length
 row:∀(k:Nat) (y:Tab) (d:Dcl),X[k]?=some y->x.decls[k]?=some d->∀r,r∈y.l->r.length=d.doms.length/\Sml r
 nd:∀y,y∈X->y.l.Nodup
 le:∀y,y∈X->y.l.length<=16384
def TT (x:Pgm)(X:List Tab):Rlt:=fun n row=>row∈bQ x X n
section
variable {x : Pgm} {X : List Tab} {r : Rul} {vs : List (List UInt8)}
theorem TbOk.at_ (h:TbOk x X){n:List UInt8}{k:Nat}(hk:cW x.decls n=some k):∃y,X[k]?=some y:=by
 have h1:=(n_.1 (cN (show ixT n (x.decls.map (·.name))=some k from hk))).1
 rw[a_]at h1
 exact aO (by rw[h.len];exact h1)
theorem TbOk.rows (h:TbOk x X){n:List UInt8}{k:Nat}{d:Dcl}(hk:cW x.decls n=some k)(hd:x.decls[k]?=some d):∀row,row∈bQ x X n->row.length=d.doms.length/\Sml row:=fun row hr=>by
 obtain⟨y,hy⟩:=h.at_ hk
 rw[iW hk hy]at hr
 exact h.row k y d hy hd row hr
theorem TbOk.matm (h:TbOk x X)(hs:RulSnd x r vs):∀a,a∈r.body->MAtm x X vs a:=fun a ha=>by
 obtain⟨k,d,h1,h2,h3⟩:=hs.bd a ha
 obtain⟨y,hy⟩:=h.at_ h1
 exact⟨⟨k,y,h1,hy,fun row hr=>by rw[h3];exact(h.row k y d hy h2 row hr).1⟩,hs.bf a ha,by have:=hs.bt a ha;omega,hs.bn a ha⟩
theorem TbOk.arity (h:TbOk x X)(hs:RulSnd x r vs):∀a,a∈r.body->∀row,row∈bQ x X a.rel->row.length=a.ts.length:=fun a ha row hr=>by
 obtain⟨k,d,h1,h2,h3⟩:=hs.bd a ha
 rw[h3]
 exact(h.rows h1 h2 row hr).1
theorem Lo {l:List Atm}{a:Atm}(h:a∈cm l):a∈l:=(List.mem_filter.1 h).1
theorem TbOk.rgood (h:TbOk x X)(hs:RulSnd x r vs):RGood (bQ x X) vs (jR vs) (cm r.body) (cJ vs):=fun e' he=>by
 have hlen:=fp he
 have hf:=gP (fun a ha=>h.arity hs a (Lo ha)) hs.cov he
 refine⟨hf,⟨?_,fun n hn=>?_⟩,?_⟩
 ·unfold eY;rw[a_,hlen];simp only[cJ,List.length_replicate];have:=hs.vl;omega
 ·unfold eY at hn
  obtain⟨o,ho,rfl⟩:=E_.1 hn
  cases o with
  |none=>exact absurd rfl (hf _ ho)
  |some v=>
   rcases kG he ho with e|⟨a,ha,row,hr,hv⟩
   ·unfold cJ at e
    have:=List.eq_of_mem_replicate e
    cases this
   ·obtain⟨k,d,h1,h2,_⟩:=hs.bd a (Lo ha)
    exact(h.rows h1 h2 row hr).2.2 v hv
 ·unfold eY;rw[a_,hlen];simp[cJ]
theorem TbOk.gives (h:TbOk x X)(hs:RulSnd x r vs){row:List Int}:(∃rr,rr∈eH (bQ x X) vs r.body/\aS vs rr r.head.ts=row)↔∃g,Sat (TT x X) g r.body/\eG g r.head.ts=row:=
 pt hs.bf (fun a ha _=>h.arity hs a ha) hs.cov hs.hf
theorem TbOk.new_src (h:TbOk x X)(hs:RulSnd x r vs){l:List (List Int)}{row:List Int}(hr:row∈gZ (bQ x X) r vs l):∃g,Sat (TT x X) g r.body/\eG g r.head.ts=row:=by
 rcases(gC (T:=bQ x X) (r:=r) (vars:=vs) (l:=l)).src row hr with e|e
 ·cases e
 ·exact(h.gives hs).1 e
theorem TbOk.new_full (h:TbOk x X)(hs:RulSnd x r vs){l:List (List Int)}(hl:l.length<=16384)(hle:l.length+(gZ (bQ x X) r vs l).length<=16384){g:Sig}(hg:Sat (TT x X) g r.body):eG g r.head.ts∈l\/eG g r.head.ts∈gZ (bQ x X) r vs l:=by
 have hrun:=gC (T:=bQ x X) (r:=r) (vars:=vs) (l:=l)
 obtain⟨rr,h1,h2⟩:=(h.gives hs).2 ⟨g,hg,rfl⟩
 rw[<- h2]
 refine hrun.full ?_ rr h1
 cases hb:(cS (gvF vs r.head.ts l) [] (eH (bQ x X) vs r.body)).2 with
 |true=>rfl
 |false=>
  have:=hrun.stop hb
  unfold gZ at hle
  omega
theorem TbOk.new_sml (h:TbOk x X)(hs:RulSnd x r vs){l:List (List Int)}{row:List Int}(hr:row∈gZ (bQ x X) r vs l):row.length=r.head.ts.length/\Sml row:=by
 rcases(gC (T:=bQ x X) (r:=r) (vars:=vs) (l:=l)).src row hr with e|⟨rr,h1,rfl⟩
 ·cases e
 ·have hg:jR vs rr:=(h.rgood hs).rows (ns:=cA r.body) h1
  exact⟨by simp[aS],fw hg.1 (by rw[hg.2];exact hs.hf) (by have:=hs.hl;omega) hs.hn⟩
theorem TbOk.upd (h:TbOk x X)(hs:RulSnd x r vs){hi:Nat}{y:Tab}(hh:cW x.decls r.head.rel=some hi)(hy:X[hi]?=some y)(hle:(y.l++gZ (bQ x X) r vs y.l).length<=16384){g':Nat} :
  TbOk x (X.set hi ⟨y.b,y.m,g',y.l++gZ (bQ x X) r vs y.l⟩):=by
 have hrun:=gC (T:=bQ x X) (r:=r) (vars:=vs) (l:=y.l)
 obtain⟨k,d0,e1,e2,e3⟩:=hs.hd
 rw[hh]at e1
 injection e1 with e1
 subst e1
 refine⟨by rw[List.length_set];exact h.len,fun k z d hz hd row hr=>?_,fun z hz=>?_,fun z hz=>?_⟩
 ·by_cases e:hi=k
  ·subst e
   rw[i_ (n_.1 hy).1]at hz
   injection hz with hz
   subst hz
   rw[e2]at hd
   injection hd with hd
   subst hd
   rcases l_.1 hr with hr|hr
   ·exact h.row _ y _ hy e2 row hr
   ·rw[<- e3];exact h.new_sml hs hr
  ·rw[s_ e]at hz
   exact h.row k z d hz hd row hr
 ·rcases List.mem_or_eq_of_mem_set hz with e|e
  ·exact h.nd z e
  ·subst e
   rw[List.nodup_append]
   exact⟨h.nd y (p_ hy),hrun.nd,fun a ha b hb e=>hrun.dj b hb (e ▸ ha)⟩
 ·rcases List.mem_or_eq_of_mem_set hz with e|e
  ·exact h.le z e
  ·subst e;exact hle
theorem Ek {hi:Nat}{y:Tab}{n0:List UInt8}(hh:cW x.decls n0=some hi)(hy:X[hi]?=some y){g':Nat}{new:List (List Int)}(n:List UInt8)(row:List Int) :
  TT x (X.set hi ⟨y.b,y.m,g',y.l++new⟩) n row↔TT x X n row\/(n=n0/\row∈new):=by
 unfold TT bQ
 cases hk:cW x.decls n with
 |none=>
  simp only[List.not_mem_nil,false_or,false_iff]
  rintro⟨rfl,_⟩
  rw[hh]at hk
  cases hk
 |some k=>
  simp only
  by_cases e:hi=k
  ·subst e
   have hn:n=n0:=by
    have h1:=cN (show ixT n (x.decls.map (·.name))=some hi from hk)
    have h2:=cN (show ixT n0 (x.decls.map (·.name))=some hi from hh)
    rw[h1]at h2
    injection h2
   rw[i_ (n_.1 hy).1,hy]
   simp only[Option.map_some,Option.getD_some,l_,hn,true_and]
  ·rw[s_ e]
   constructor
   ·exact .inl
   ·rintro(h|⟨rfl,_⟩)
    ·exact h
    ·rw[hh]at hk;injection hk with hk;exact absurd hk e
noncomputable def stN (x:Pgm)(n:List UInt8):Nat:=gt (soundP x).2.2 (ixR x n)
theorem yB (h:(soundP x).2.1=0):C6 x.rules (stN x):=fun r hr a ha=>by
 obtain⟨l,hs,_,_,hst⟩:=eW h
 have hl:=kE hst
 have he:(⟨ixR x r.head.rel,ixR x a.rel,if a.not=true then 1 else 0⟩:Edg)∈gj x:=by
  unfold gj
  rw[List.mem_flatten]
  exact⟨_,E_.2 ⟨r,hr,rfl⟩,E_.2 ⟨a,ha,rfl⟩⟩
 have h1:=hl.2.1 _ he
 unfold stN
 rw[hs]
 simp only at h1 ⊢
 constructor
 ·intro hn
  rw[if_pos hn]at h1
  omega
 ·split at h1<;>omega
end
attribute [local go_sem] aN aX cG
def cH (x:Pgm)(L:List Tbl):Tbs:=fun n=>match cW x.decls n with
 |some k=>((L[k]?).map (·.rs)).getD []
 |none=>[]
structure TdOk (x:Pgm) (L:List Tbl):Prop where
 len:L.length=x.decls.length
 row:∀(k:Nat) (y:Tbl) (d:Dcl),L[k]?=some y->x.decls[k]?=some d->∀r,r∈y.rs->r.length=d.doms.length/\Sml r
 le:∀y,y∈L->y.rs.length<=100000
theorem iX {x:Pgm}{L:List Tbl}{n:List UInt8}{k:Nat}{y:Tbl}(h1:cW x.decls n=some k)(h2:L[k]?=some y):cH x L n=y.rs:=by simp[cH,h1,h2]
def d7 (R:List Asg):List (List VV):=R.map fun e=>[.lst (ay (ci e)) .no]
theorem rk {R:List Asg}{i:Nat}{e:Asg}(h:R[i]?=some e):(d7 R)[i]?=some [.lst (ay (ci e)) .no]:=by unfold d7;rw[c_,h];rfl
theorem kL {R:List Asg}:(d7 R).length=R.length:=by simp[d7]
theorem xc {R S:List Asg}:d7 (R++S)=d7 R++d7 S:=by simp[d7]
theorem w9 {R:List Asg}:∀y,y∈d7 R->y.length=1:=fun y hy=>by
 obtain⟨q,_,rfl⟩:=E_.1 hy
 rfl
def xo (T:Tbs)(vars:List (List UInt8))(body:List Atm)(R:List Asg):List (List Int):=((R.map ci).filter (dr T vars (cA body))).foldl putRow []
def AU (o:Option (List (List Int))):VV:=match o with
 |none=>.tup [.lst [] .no,.bool false]
 |some l=>.tup [.lst (aD l) .no,.bool true]
def sE (T:Tbs)(vars:List (List UInt8))(most:Nat)(body:List Atm):Option (List (List Int)):=(eC T vars most body [cJ vars]).map (xo T vars body)
theorem t8 {vars:List (List UInt8)}{e e':Asg}{ts:List Trm}{zs:List Int}(h:aP vars e ts zs=some e')(he:uO e)(hz:∀z,z∈zs->0<=z):uO e':=fun v hv=>by
 rcases jG h hv with h|h
 ·exact he v h
 ·exact hz v h
def Bd (vars:List (List UInt8))(R:List Asg):Prop:=∀e,e∈R->e.length=vars.length/\uO e
theorem zP {vars:List (List UInt8)}:Bd vars [cJ vars]:=fun e he=>by
 rw[e_]at he
 subst he
 refine⟨by simp[cJ],fun v hv=>?_⟩
 have:=List.eq_of_mem_replicate hv
 cases this
def eV (T:Tbs)(vars:List (List UInt8))(a:Atm)(R:List Asg):List Asg:=R.flatMap fun e=>(T a.rel).filterMap (aP vars e a.ts)
theorem uD {T:Tbs}{vars:List (List UInt8)}{most:Nat}{body:List Atm}{i:Nat}{a:Atm}{R:List Asg}(h:body[i]?=some a):eC T vars most (body.drop i) R=if a.not=true then eC T vars most (body.drop (i+1)) R else
  if most<(eV T vars a R).length then none else eC T vars most (body.drop (i+1)) (eV T vars a R):=by
 obtain⟨h1,rfl⟩:=n_.1 h
 rw[g_ h1]
 rfl
theorem yA {T:Tbs}{vars:List (List UInt8)}{a:Atm}{R:List Asg}(h:Bd vars R)(hT:∀r,r∈T a.rel->Sml r):Bd vars (eV T vars a R):=fun e he=>by
 unfold eV at he
 obtain⟨e0,he0,he⟩:=List.mem_flatMap.1 he
 obtain⟨r,hr,hm⟩:=List.mem_filterMap.1 he
 exact⟨(fK hm).trans (h e0 he0).1,t8 hm (h e0 he0).2 fun z hz=>((hT r hr).2 z hz).1⟩
set_option maxHeartbeats 16000000 in
theorem Dl (x:Pgm)(r:Rul)(vs:List (List UInt8))(L:List Tbl)(most:Nat)(o1 oL:Own)(hx:PgmOk x)(hs:RulSnd x r vs)(hL:TdOk x L)(hm:most<=1000000)(t:St) :
  SRet Tryz.prog 45 [.agg (pgC x),.agg (az r),.lst (aw vs) o1,.lst (L.map aZ) oL,.int .i64 (most:Int)] t (AU (sE (cH x L) vs most r.body)) t:=by
 have w1:=fun n s=>lg x n hx.2.1 s
 have hcl:x.decls.length<=140737488355328:=hx.2.1
 obtain⟨hd,body⟩:=r
 have hbl1:(body.map aF).length=body.length:=by simp
 have hvl1:(aw vs).length=vs.length:=by simp[aw]
 have hvl:=hs.vl
 have hbl:=hs.bl
 simp only at hbl
 have HS:=u_ hs
 have HL:=u_ hL
 generalize hB:sE (cH x L) vs most body=B
 have HB:=u_ hB
 clear hB hs hL
 simp only[pgC,az]at w1 ⊢
 refine bh Tryz.func45 rfl Tryz.ntmps45 rfl fun Q hQ hQe=>?_
 (repeat'(first|refine Ctl ?_|((with_reducible refine j_ hK ?_);clear hK hE K E)|((first|(with_reducible refine ae fun K E hK hE=>?_)|((with_reducible refine ao (fun b hb=>?_));(repeat(obtain⟨_,hb⟩:=hb))))<;>(try simp(disch:=omega) only[go_sem,seval, *]))))
 rename_i b5 hb5 _ _
 obtain⟨b6,hb6⟩:∃z,z=b:=⟨_,rfl⟩
 subst hb6
 have q5:((t.set b5 (.obj 26 [.lst (x.doms.map dmC) .no,.lst (x.decls.map aB) .no,.lst (x.rules.map az) .no])).set b6 (.obj 43 [.bool hd.not,.str hd.rel,.lst (hd.ts.map aA) .no,.lst (body.map aF) .no])) b5=.obj 26 [.lst (x.doms.map dmC) .no,.lst (x.decls.map aB) .no,.lst (x.rules.map az) .no]:=by rw[k_ _ _ (by assumption)];exact q_ _ _ _
 have q6:((t.set b5 (.obj 26 [.lst (x.doms.map dmC) .no,.lst (x.decls.map aB) .no,.lst (x.rules.map az) .no])).set b6 (.obj 43 [.bool hd.not,.str hd.rel,.lst (hd.ts.map aA) .no,.lst (body.map aF) .no])) b6=.obj 43 [.bool hd.not,.str hd.rel,.lst (hd.ts.map aA) .no,.lst (body.map aF) .no]:=q_ _ _ _
 have HF:Hid (Fg ((t.set b5 (.obj 26 [.lst (x.doms.map dmC) .no,.lst (x.decls.map aB) .no,.lst (x.rules.map az) .no])).set b6 (.obj 43 [.bool hd.not,.str hd.rel,.lst (hd.ts.map aA) .no,.lst (body.map aF) .no])) t):=u_ (w_ (v_ _ hb5) hb)
 generalize (t.set b5 (.obj 26 [.lst (x.doms.map dmC) .no,.lst (x.decls.map aB) .no,.lst (x.rules.map az) .no])).set b6 (.obj 43 [.bool hd.not,.str hd.rel,.lst (hd.ts.map aA) .no,.lst (body.map aF) .no])=S at *
 have l5:S b5≠.free:=by rw[q5];simp
 have l6:S b6≠.free:=by rw[q6];simp
 clear hb5 hb
 refine aI (fun m env s'=>∃(i:Nat) (o:Own),i<=vs.length/\m+i=vs.length/\OwnOk S o i/\s'=S.own o 3 1 i/\env 2=.lst (aw vs) o1/\env 3=.lst (L.map aZ) oL/\env 4=.int .i64 (most:Int)/\env 5=.ptr b5 0/\env 6=.ptr b6 0/\env 12=.lst (ay (List.replicate i (-1))) o/\env 13=.int .i64 i) vs.length ?_ ?_
 ·exact⟨_,Fg.refl _,0,.full,by omega,by omega,cx,rfl,ab,ab,ab,ab,ab,ab,ab⟩
 rintro m env s' ⟨i,o,hi,hm1,hoo,rfl,e2,e3,e4,e5,e6,e12,e13⟩
 by_cases hlt:i<vs.length
 ·have hLl:(ay (List.replicate i (-1))).length=i:=by rw[bH,List.length_replicate]
  have h1y:∀y,y∈ay (List.replicate i (-1))->y.length=1:=fun y hy=>by
   obtain⟨q,_,rfl⟩:=E_.1 hy
   rfl
  have HR:Hid (ay (List.replicate (i+1) (-1))=ay (List.replicate i (-1))++[[.int .i64 (-1)]]):=u_ (by rw[List.replicate_succ'];simp[ay])
  generalize ay (List.replicate i (-1))=LL at *
  (repeat'(first|refine Ctl ?_|((with_reducible refine j_ hK ?_);clear hK hE K E)|((with_reducible refine aj (fun h=>?_) (fun h=>?_))<;>(try(exfalso;assumption)))|((first|(with_reducible refine ae fun K E hK hE=>?_)|((with_reducible refine cB (fun o2 ho=>?_));(try simp(disch:=assumption) only[hLl]at ho)))<;>(try simp(disch:=first|assumption|omega) only[go_sem,seval, *]))))
  exact⟨_,Fg.refl _,m - 1,by omega,i+1,o2,by omega,by omega,ho,rfl,ab,ab,ab,ab,ab,by rw[HR.out];((try simp(disch:=assumption) only[go_sem,seval, *])<;>rfl),ab⟩
 obtain rfl:i=vs.length:=by omega
 have hnone:ay (List.replicate vs.length (-1))=ay (ci (cJ vs)):=by simp[ci,cJ]
 rw[hnone]at e12
 refine nT 12 (y:=.lst (ay (ci (cJ vs))) .no) e12 (Wk.lst _ _) ?_
 refine eR (Fg.own hoo) ?_
 clear hoo hi hm1 hlt hnone
 (repeat'(first|refine Ctl ?_|((with_reducible refine j_ hK ?_);clear hK hE K E)|((with_reducible refine aj (fun h=>?_) (fun h=>?_))<;>(try(exfalso;omega)))|(((with_reducible refine ae fun K E hK hE=>?_))<;>(try simp(disch:=omega) only[go_sem,seval, *]))))
 refine aI (fun m env s'=>∃(i:Nat) (R:List Asg) (oR:Own),i<=body.length/\m+i=body.length/\S=s'/\Hid (Bd vs R)/\R.length<=1000001/\Hid ((eC (cH x L) vs most (body.drop i) R).map (xo (cH x L) vs body)=B)/\env 2=.lst (aw vs) o1/\env 3=.lst (L.map aZ) oL/\env 4=.int .i64 (most:Int)/\env 5=.ptr b5 0/\env 6=.ptr b6 0/\env 14=.lst (d7 R) oR/\env 15=.int .i64 i) body.length ?_ ?_
 ·exact⟨_,Fg.refl _,0,[cJ vs],.full,by omega,by omega,rfl,u_ zP,by simp,u_ (by rw[List.drop_zero];exact HB.out),ab,ab,ab,ab,ab,ab,ab⟩
 clear e2 e3 e4 e5 e6 e12 e13 HB env m
 rintro m env s' ⟨i,R,oR,hi,hm2,he0,HRW,hRl,HB,e2,e3,e4,e5,e6,e14,e15⟩
 subst he0
 by_cases hlt:i<body.length
 ·obtain⟨a,ha⟩:=aO hlt
  have hsa:=c5 ha
  have HB2:=HB.out
  rw[uD ha]at HB2
  have HB3:=u_ HB2
  have hain:=p_ ha
  obtain⟨kk,d0,hrel,hd0,hal⟩:=HS.out.bd a hain
  obtain⟨y,hy⟩:∃y,L[kk]?=some y:=aO (by rw[HL.out.len];exact(n_.1 hd0).1)
  have hyr:=HL.out.row kk y d0 hy hd0
  have hyl:=HL.out.le y (p_ hy)
  have hT:(cH x L) a.rel=y.rs:=iX hrel hy
  have hsy:=em hy
  have hLl:(L.map aZ).length=L.length:=by simp
  have hkl:kk<L.length:=(n_.1 hy).1
  have hLn:L.length<=140737488355328:=by rw[HL.out.len];exact hcl
  have hrz:ey x.decls a.rel=(kk:Int):=by unfold ey;rw[hrel]
  have w2:=w1 a.rel
  rw[hrz]at w2
  have hfit:=HS.out.bf a hain
  have hal8:=HS.out.bt a hain
  have HTT:=u_ hT
  have HYR:=u_ hyr
  have HFIT:=u_ hfit
  have HAL:=u_ hal
  obtain⟨an,ar,ats⟩:=a
  simp only[aF]at hsa
  simp only[aZ]at hsy
  simp only at w2 hal8
  clear ha hain hrel hd0 hal hy hyr hT hrz hfit HB2 HB
  cases an with
  |true=>
   have HB4:=HB3.out
   simp only[if_true]at HB4
   have HB5:=u_ HB4
   clear HB3 HB4
   (repeat'(first|refine Ctl ?_|((with_reducible refine j_ hK ?_);clear hK hE K E)|((with_reducible refine aj (fun h=>?_) (fun h=>?_))<;>(try(exfalso;assumption)))|(((with_reducible refine ae fun K E hK hE=>?_))<;>(try simp(disch:=omega) only[go_sem,seval, *]))))
   exact⟨_,Fg.refl _,m - 1,by omega,i+1,R,oR,by omega,by omega,rfl,HRW,hRl,HB5,ab,ab,ab,ab,ab,ab,ab⟩
  |false=>
   have HB4:=HB3.out
   simp only[Bool.false_eq_true,if_false]at HB4
   have HB5:=u_ HB4
   clear HB3 HB4
   (repeat'(first|refine Ctl ?_|(with_reducible first|(refine j_ hK ?_;clear hK hE K E)|(refine j_ hKh ?_;clear hKh Kh)|(refine j_ hKb (aK ?_);clear hKb Kb)|refine au 12 [([0,1,2,3,4,5,6,7],8,[[0]])] [9,10,11,12] hQe fun K E hK hE=>?_)|((with_reducible refine aj (fun h=>?_) (fun h=>?_))<;>(try(exfalso;assumption)))|(((with_reducible first|refine ae fun K E hK hE=>?_|refine ak fb (w2 _) ?_|refine aE fun Kh hKh=>?_|refine aC fun Kh hKh=>?_|refine aL fun Kb hKb=>?_))<;>(try simp(disch:=omega) only[go_sem,seval, *]))))
   have hRl2:(d7 R).length=R.length:=kL
   have hyl2:(aD y.rs).length=y.rs.length:=cL
   refine aI (fun m3 env s3=>∃(j:Nat) (o:Own) (NX:List Asg),j<=R.length/\m3+j=R.length/\OwnOk S o NX.length/\s3=S.own o 48 1 NX.length/\Hid (NX=eV (cH x L) vs ⟨false,ar,ats⟩ (R.take j))/\NX.length<=most/\env 2=.lst (aw vs) o1/\env 3=.lst (L.map aZ) oL/\env 4=.int .i64 (most:Int)/\env 5=.ptr b5 0/\env 6=.ptr b6 0/\env 14=.lst (d7 R) oR/\env 15=.int .i64 i/\env 16=.lst (d7 NX) o/\env 17=.lst (aD y.rs) .no/\env 18=.int .i64 j) R.length ?_ ?_
   ·exact⟨_,Fg.refl _,0,.full,[],by omega,by omega,cx,rfl,u_ (by simp[eV]),by simp,ab,ab,ab,ab,ab,ab,ab,ab,ab,ab⟩
   clear e2 e3 e4 e5 e6 e14 e15 env
   rintro m3 env s3 ⟨j,o,NX,hj,hm3,hoo,rfl,HNX,hNX,e2,e3,e4,e5,e6,e14,e15,e16,e17,e18⟩
   by_cases hltj:j<R.length
   ·obtain⟨e,he⟩:=aO hltj
    have hse:=rk he
    have hew:=HRW.out e (p_ he)
    have HE:=u_ he
    have hel:=hew.1
    have hep:=hew.2
    clear he hew
    (repeat'(first|refine Ctl ?_|((with_reducible refine j_ hK ?_);clear hK hE K E)|((with_reducible refine aj (fun h=>?_) (fun h=>?_))<;>(try(exfalso;assumption)))|(((with_reducible refine ae fun K E hK hE=>?_))<;>(try simp(disch:=omega) only[go_sem,seval, *]))))
    refine aI (fun m4 env s4=>∃(k:Nat) (o:Own) (NX:List Asg),k<=y.rs.length/\m4+k=y.rs.length/\OwnOk S o NX.length/\s4=S.own o 48 1 NX.length/\Hid (NX=eV (cH x L) vs ⟨false,ar,ats⟩ (R.take j)++(y.rs.take k).filterMap (aP vs e ats))/\NX.length<=most/\env 2=.lst (aw vs) o1/\env 3=.lst (L.map aZ) oL/\env 4=.int .i64 (most:Int)/\env 5=.ptr b5 0/\env 6=.ptr b6 0/\env 14=.lst (d7 R) oR/\env 15=.int .i64 i/\env 16=.lst (d7 NX) o/\env 17=.lst (aD y.rs) .no/\env 18=.int .i64 j/\env 19=.int .i64 k) y.rs.length ?_ ?_
    ·exact⟨_,Fg.refl _,0,o,NX,by omega,by omega,hoo,rfl,u_ (by rw[HNX.out];simp),hNX,ab,ab,ab,ab,ab,ab,ab,ab,ab,ab,ab⟩
    clear e2 e3 e4 e5 e6 e14 e15 e16 e17 e18 HNX hNX hoo NX o env
    rintro m4 env s4 ⟨k,o,NX,hk,hm4,hoo,rfl,HNX,hNX,e2,e3,e4,e5,e6,e14,e15,e16,e17,e18,e19⟩
    have o5:=hoo.not l5
    have o6:=hoo.not l6
    by_cases hltk:k<y.rs.length
    ·obtain⟨v,hv⟩:=aO hltk
     have hsv:=dP hv
     have hvr:=HYR.out v (p_ hv)
     have w3:=Dd vs e o1 ⟨false,ar,ats⟩ v hel (by omega) (by rw[hvr.1];exact HAL.out) (by have:=hvr.2.1;omega) hep (fun z hz=>(hvr.2.2 z hz).1) HFIT.out
     have hNl:(d7 NX).length=NX.length:=kL
     have h1y:=w9 (R:=NX)
     have hstep:(y.rs.take (k+1)).filterMap (aP vs e ats)=(y.rs.take k).filterMap (aP vs e ats)++[v].filterMap (aP vs e ats):=by rw[b9 hv,List.filterMap_append]
     simp only[aF]at w3
     cases hmt:aP vs e ats v with
     |none=>
      have HNX2:Hid (NX=eV (cH x L) vs ⟨false,ar,ats⟩ (R.take j)++(y.rs.take (k+1)).filterMap (aP vs e ats)):=u_ (by rw[hstep,List.filterMap_cons,hmt];simp only[List.filterMap_nil,List.append_nil];exact HNX.out)
      have w4:=fun s=>w3 s
      simp only[hmt,zC]at w4
      have hgt:((most:Int)<(NX.length:Int))=False:=eq_false (by omega)
      clear w3 hstep hv hmt hvr
      (repeat'(first|refine Ctl ?_|(with_reducible first|(refine j_ hK ?_;clear hK hE K E)|(refine j_ hKh ?_;clear hKh Kh)|(refine j_ hKb (aK ?_);clear hKb Kb)|refine au 19 [([0,1,2,3,4,5,6,7,8,9,10,11,12,13],14,[[]])] [15,16,17,18,19] hQe fun K E hK hE=>?_)|((with_reducible refine aj (fun h=>?_) (fun h=>?_))<;>(try(exfalso;assumption)))|(((with_reducible first|refine ae fun K E hK hE=>?_|refine ak Av (w4 _) ?_|refine aE fun Kh hKh=>?_|refine aC fun Kh hKh=>?_|refine aL fun Kb hKb=>?_))<;>(try simp(disch:=first|assumption|omega) only[go_sem,seval, *]))))
      exact⟨_,Fg.refl _,m4 - 1,by omega,k+1,o,NX,by omega,by omega,hoo,rfl,HNX2,hNX,ab,ab,ab,ab,ab,ab,ab,ab,ab,ab,ab⟩
     |some e2=>
      have HNX2:Hid (NX++[e2]=eV (cH x L) vs ⟨false,ar,ats⟩ (R.take j)++(y.rs.take (k+1)).filterMap (aP vs e ats)):=u_ (by rw[hstep,List.filterMap_cons,hmt];simp only[List.filterMap_nil];rw[<- List.append_assoc,<- HNX.out])
      have HAP:Hid (d7 (NX++[e2])=d7 NX++[[.lst (ay (ci e2)) .no]]):=u_ (by rw[xc];rfl)
      have w4:=fun s=>w3 s
      simp only[hmt,zC]at w4
      clear w3 hstep hv hmt hvr
      generalize d7 NX=LN at *
      have hlap:(LN++[[VV.lst (ay (ci e2)) .no]]).length=NX.length+1:=by rw[d_,hNl];rfl
      by_cases hbig:most<NX.length+1
      ·have hgt:((most:Int)<((NX.length+1:Nat):Int))=True:=eq_true (by omega)
       have HBN:Hid (B=none):=u_ (by
        rw[<- HB5.out,if_pos,Option.map_none]
        have h1:eV (cH x L) vs ⟨false,ar,ats⟩ R=(NX++[e2])++((y.rs.drop (k+1)).filterMap (aP vs e ats)++eV (cH x L) vs ⟨false,ar,ats⟩ (R.drop (j+1))):=by
         rw[HNX2.out]
         have h2:R=R.take j++e::R.drop (j+1):=by
          obtain⟨a1,a2⟩:=n_.1 HE.out
          rw[<- a2,<- g_ a1,List.take_append_drop]
         have h3:y.rs.filterMap (aP vs e ats)=(y.rs.take (k+1)).filterMap (aP vs e ats)++(y.rs.drop (k+1)).filterMap (aP vs e ats):=by rw[<- List.filterMap_append,List.take_append_drop]
         have h4:eV (cH x L) vs ⟨false,ar,ats⟩ R=eV (cH x L) vs ⟨false,ar,ats⟩ (R.take j)++(((cH x L) ar).filterMap (aP vs e ats)++eV (cH x L) vs ⟨false,ar,ats⟩ (R.drop (j+1))):=by
          conv=>lhs;rw[h2]
          unfold eV
          rw[List.flatMap_append,List.flatMap_cons]
         rw[h4,show (cH x L) ar=y.rs from HTT.out,h3]
         simp only[List.append_assoc]
        rw[h1,d_,d_,List.length_singleton]
        omega)
       (repeat'(first|refine Ctl ?_|(with_reducible first|(refine j_ hK ?_;clear hK hE K E)|(refine j_ hKh ?_;clear hKh Kh)|(refine j_ hKb (aK ?_);clear hKb Kb)|refine au 19 [([0,1,2,3,4,5,6,7,8,9,10,11,12,13],14,[[]])] [15,16,17,18,19] hQe fun K E hK hE=>?_)|((with_reducible refine aj (fun h=>?_) (fun h=>?_))<;>(try(exfalso;assumption)))|((first|(with_reducible first|refine ae fun K E hK hE=>?_|refine ak Av (w4 _) ?_|refine aE fun Kh hKh=>?_|refine aC fun Kh hKh=>?_|refine aL fun Kb hKb=>?_)|((with_reducible refine cB (fun o2 ho=>?_));(try simp(disch:=assumption) only[hNl]at ho)))<;>(try simp(disch:=first|assumption|omega) only[go_sem,seval, *]))))
       all_goals(refine ap yX hQ ?_)
       all_goals rw[HBN.out]
       all_goals exact⟨_,_,z_ (.lst _ _ (.same _ .nil)),(Fg.own ho).trans HF.out,rfl,rfl⟩
      ·have hgt:((most:Int)<((NX.length+1:Nat):Int))=False:=eq_false (by omega)
       (repeat'(first|refine Ctl ?_|(with_reducible first|(refine j_ hK ?_;clear hK hE K E)|(refine j_ hKh ?_;clear hKh Kh)|(refine j_ hKb (aK ?_);clear hKb Kb)|refine au 19 [([0,1,2,3,4,5,6,7,8,9,10,11,12,13],14,[[]])] [15,16,17,18,19] hQe fun K E hK hE=>?_)|((with_reducible refine aj (fun h=>?_) (fun h=>?_))<;>(try(exfalso;assumption)))|((first|(with_reducible first|refine ae fun K E hK hE=>?_|refine ak Av (w4 _) ?_|refine aE fun Kh hKh=>?_|refine aC fun Kh hKh=>?_|refine aL fun Kb hKb=>?_)|((with_reducible refine cB (fun o2 ho=>?_));(try simp(disch:=assumption) only[hNl]at ho)))<;>(try simp(disch:=first|assumption|omega) only[go_sem,seval, *]))))
       exact⟨_,Fg.refl _,m4 - 1,by omega,k+1,o2,NX++[e2],by omega,by omega,by rw[d_];exact ho,by rw[d_];rfl,HNX2,by rw[d_,List.length_singleton];omega,ab,ab,ab,ab,ab,ab,ab,by rw[HAP.out];((try simp(disch:=assumption) only[go_sem,seval, *])<;>rfl),ab,ab,ab⟩
    ·obtain rfl:k=y.rs.length:=by omega
     have HNX2:Hid (NX=eV (cH x L) vs ⟨false,ar,ats⟩ (R.take (j+1))):=u_ (by
      rw[HNX.out,f_,b9 HE.out]
      unfold eV
      rw[List.flatMap_append,List.flatMap_cons,List.flatMap_nil,List.append_nil,show (cH x L) (Atm.mk false ar ats).rel=y.rs from HTT.out])
     (repeat'(first|refine Ctl ?_|((with_reducible refine j_ hK ?_);clear hK hE K E)|((with_reducible refine aj (fun h=>?_) (fun h=>?_))<;>(try(exfalso;assumption)))|(((with_reducible refine ae fun K E hK hE=>?_))<;>(try simp(disch:=omega) only[go_sem,seval, *]))))
     exact⟨_,Fg.refl _,m3 - 1,by omega,j+1,o,NX,by omega,by omega,hoo,rfl,HNX2,hNX,ab,ab,ab,ab,ab,ab,ab,ab,ab,ab⟩
   ·obtain rfl:j=R.length:=by omega
    have hnx:=HNX.out
    rw[f_]at hnx
    have HB6:Hid ((eC (cH x L) vs most (body.drop (i+1)) NX).map (xo (cH x L) vs body)=B):=u_ (by
     have:=HB5.out
     rw[<- hnx,if_neg (by omega)]at this
     exact this)
    have HRW2:Hid (Bd vs NX):=u_ (by rw[hnx];exact yA HRW.out fun r hr=>(HYR.out r (by rw[<- HTT.out];exact hr)).2)
    clear hnx
    (repeat'(first|refine Ctl ?_|((with_reducible refine j_ hK ?_);clear hK hE K E)|((with_reducible refine aj (fun h=>?_) (fun h=>?_))<;>(try(exfalso;assumption)))|(((with_reducible refine ae fun K E hK hE=>?_))<;>(try simp(disch:=omega) only[go_sem,seval, *]))))
    exact⟨S,Fg.own hoo,m - 1,by omega,i+1,NX,o,by omega,by omega,rfl,HRW2,by omega,HB6,ab,ab,ab,ab,ab,ab,ab⟩
 ·obtain rfl:i=body.length:=by omega
  have hb2:=HB.out
  rw[G_]at hb2
  have HB2:Hid (some (xo (cH x L) vs body R)=B):=u_ hb2
  clear hb2 HB
  (repeat'(first|refine Ctl ?_|((with_reducible refine j_ hK ?_);clear hK hE K E)|((with_reducible refine aj (fun h=>?_) (fun h=>?_))<;>(try(exfalso;assumption)))|(((with_reducible refine ae fun K E hK hE=>?_))<;>(try simp(disch:=omega) only[go_sem,seval, *]))))
  have hRl2:(d7 R).length=R.length:=kL
  generalize hOD:xo (cH x L) vs body R=OD at *
  refine bi (fun m env s'=>∃(i:Nat) (OUT:List (List Int)) (oO:Own),i<=R.length/\m+i=R.length/\S=s'/\Hid (OUT=(((R.take i).map ci).filter (dr (cH x L) vs (cA body))).foldl putRow [])/\OUT.length<=i/\Hid (∀r,r∈OUT->r.length=vs.length)/\env 2=.lst (aw vs) o1/\env 3=.lst (L.map aZ) oL/\env 4=.int .i64 (most:Int)/\env 5=.ptr b5 0/\env 6=.ptr b6 0/\env 14=.lst (d7 R) oR/\env 22=.lst (aD OUT) oO/\env 23=.int .i64 i) R.length ?_ ?_
  ·exact⟨0,[],.full,by omega,by omega,rfl,u_ rfl,Nat.le_refl _,u_ (fun r hr=>by cases hr),ab,ab,ab,ab,ab,ab,ab,ab⟩
  clear e2 e3 e4 e5 e6 e14 e15 env hi hm2 hlt m
  rintro m env s' ⟨i,OUT,oO,hi,hm2,he0,HOUT,hOl,HOR,e2,e3,e4,e5,e6,e14,e22,e23⟩
  subst he0
  by_cases hlt:i<R.length
  ·obtain⟨e,he⟩:=aO hlt
   have hse:=rk he
   have hew:=HRW.out e (p_ he)
   have hril:(ci e).length=vs.length:=by rw[ci,a_];exact hew.1
   have HTK:Hid (R.take (i+1)=R.take i++[e]):=u_ (b9 he)
   clear he hew
   (repeat'(first|refine Ctl ?_|((with_reducible refine j_ hK ?_);clear hK hE K E)|((with_reducible refine aj (fun h=>?_) (fun h=>?_))<;>(try(exfalso;assumption)))|(((with_reducible refine ae fun K E hK hE=>?_))<;>(try simp(disch:=omega) only[go_sem,seval, *]))))
   refine bi (fun m3 env s3=>∃(k:Nat),k<=body.length/\m3+k=body.length/\S=s3/\env 2=.lst (aw vs) o1/\env 3=.lst (L.map aZ) oL/\env 4=.int .i64 (most:Int)/\env 5=.ptr b5 0/\env 6=.ptr b6 0/\env 14=.lst (d7 R) oR/\env 22=.lst (aD OUT) oO/\env 23=.int .i64 i/\env 24=.bool (dr (cH x L) vs (cA (body.take k)) (ci e))/\env 25=.int .i64 k) body.length ?_ ?_
   ·exact⟨0,by omega,by omega,rfl,ab,ab,ab,ab,ab,ab,ab,ab,ab,ab⟩
   clear e2 e3 e4 e5 e6 e14 e22 e23 env
   rintro m3 env s3 ⟨k,hk,hm3,he0,e2,e3,e4,e5,e6,e14,e22,e23,e24,e25⟩
   subst he0
   by_cases hltk:k<body.length
   ·obtain⟨a,ha⟩:=aO hltk
    have hsa:=c5 ha
    have hain:=p_ ha
    have hnt:=ph ha
    obtain⟨kk,d0,hrel,hd0,hal⟩:=HS.out.bd a hain
    obtain⟨y,hy⟩:∃y,L[kk]?=some y:=aO (by rw[HL.out.len];exact(n_.1 hd0).1)
    have hyr:=HL.out.row kk y d0 hy hd0
    have hyl:=HL.out.le y (p_ hy)
    have hT:(cH x L) a.rel=y.rs:=iX hrel hy
    have hsy:=em hy
    have hLl:(L.map aZ).length=L.length:=by simp
    have hkl:kk<L.length:=(n_.1 hy).1
    have hLn:L.length<=140737488355328:=by rw[HL.out.len];exact hcl
    have hrz:ey x.decls a.rel=(kk:Int):=by unfold ey;rw[hrel]
    have w2:=w1 a.rel
    rw[hrz]at w2
    have hal8:=HS.out.bt a hain
    have w3:=fun s=>ww vs (ci e) o1 .no a (by omega) (by omega) (by rw[hril];exact HS.out.bf a hain) s
    have w4:=fun s=>Ig y.rs (aS vs (ci e) a.ts) .no .no ⟨by omega,fun r hr=>by have:=(hyr r hr).2.1;omega⟩ (by rw[aS,a_];omega) s
    have HNT:Hid (dr (cH x L) vs (cA (body.take (k+1))) (ci e)=if a.not=true then(dr (cH x L) vs (cA (body.take k)) (ci e) && decide (aS vs (ci e) a.ts∉y.rs))else dr (cH x L) vs (cA (body.take k)) (ci e)):=u_ (by
     rw[hnt]
     split
     ·unfold dr
      rw[List.all_append]
      simp only[List.all_cons,List.all_nil,Bool.and_true,hT]
     ·rfl)
    obtain⟨an,ar,ats⟩:=a
    simp only[aF]at hsa w3
    simp only[aZ]at hsy
    simp only at w2 w4 HNT
    clear ha hain hrel hd0 hal hy hyr hT hrz hnt
    generalize dr (cH x L) vs (cA (body.take k)) (ci e)=NK at *
    cases an with
    |false=>
     simp only[Bool.false_eq_true,if_false]at HNT
     (repeat'(first|refine Ctl ?_|(with_reducible first|(refine j_ hK ?_;clear hK hE K E)|(refine j_ hKh ?_;clear hKh Kh)|(refine j_ hKb (aK ?_);clear hKb Kb)|refine au 33 [([0,1,2,3,4,5,6,7,8,9,10,11,12,13,14,19,20,21,22,23,24,25,26,27,28],15,[[7,19,20,21,22,23,24,25,26,27,28]]),([16,17,18],29,[[16,17,18],[7]]),([],30,[[],[],[]])] [31] hQe fun K E hK hE=>?_)|((with_reducible refine aj (fun h=>?_) (fun h=>?_))<;>(try(exfalso;assumption)))|(((with_reducible first|refine ae fun K E hK hE=>?_|refine aE fun Kh hKh=>?_|refine aC fun Kh hKh=>?_|refine aL fun Kb hKb=>?_))<;>(try simp(disch:=omega) only[go_sem,seval, *]))))
     exact⟨m3 - 1,by omega,k+1,by omega,by omega,rfl,ab,ab,ab,ab,ab,ab,ab,ab,by rw[HNT.out];((try simp(disch:=assumption) only[go_sem,seval, *])<;>rfl),ab⟩
    |true=>
     simp only[if_true]at HNT
     by_cases hin:aS vs (ci e) ats∈y.rs
     ·have hd:decide (aS vs (ci e) ats∈y.rs)=true:=decide_eq_true hin
      rw[hd]at w4
      have HN2:Hid (dr (cH x L) vs (cA (body.take (k+1))) (ci e)=false):=u_ (by rw[HNT.out];simp[hin])
      clear hd hin HNT
      generalize aS vs (ci e) ats=IV at *
      (repeat'(first|refine Ctl ?_|(with_reducible first|(refine j_ hK ?_;clear hK hE K E)|(refine j_ hKh ?_;clear hKh Kh)|(refine j_ hKb (aK ?_);clear hKb Kb)|refine au 33 [([0,1,2,3,4,5,6,7,8,9,10,11,12,13,14,19,20,21,22,23,24,25,26,27,28],15,[[7,19,20,21,22,23,24,25,26,27,28]]),([16,17,18],29,[[16,17,18],[7]]),([],30,[[],[],[]])] [31] hQe fun K E hK hE=>?_)|((with_reducible refine aj (fun h=>?_) (fun h=>?_))<;>(try(exfalso;assumption)))|(((with_reducible first|refine ae fun K E hK hE=>?_|refine ak fb (w2 _) ?_|refine ak Ax (w3 _) ?_|refine ak DW (w4 _) ?_|refine aE fun Kh hKh=>?_|refine aC fun Kh hKh=>?_|refine aL fun Kb hKb=>?_))<;>(try simp(disch:=omega) only[go_sem,seval, *]))))
      exact⟨m3 - 1,by omega,k+1,by omega,by omega,rfl,ab,ab,ab,ab,ab,ab,ab,ab,by rw[HN2.out];((try simp(disch:=assumption) only[go_sem,seval, *])<;>rfl),ab⟩
     ·have hd:decide (aS vs (ci e) ats∈y.rs)=false:=decide_eq_false hin
      rw[hd]at w4
      have HN2:Hid (dr (cH x L) vs (cA (body.take (k+1))) (ci e)=NK):=u_ (by rw[HNT.out];simp[hin])
      clear hd hin HNT
      generalize aS vs (ci e) ats=IV at *
      (repeat'(first|refine Ctl ?_|(with_reducible first|(refine j_ hK ?_;clear hK hE K E)|(refine j_ hKh ?_;clear hKh Kh)|(refine j_ hKb (aK ?_);clear hKb Kb)|refine au 33 [([0,1,2,3,4,5,6,7,8,9,10,11,12,13,14,19,20,21,22,23,24,25,26,27,28],15,[[7,19,20,21,22,23,24,25,26,27,28]]),([16,17,18],29,[[16,17,18],[7]]),([],30,[[],[],[]])] [31] hQe fun K E hK hE=>?_)|((with_reducible refine aj (fun h=>?_) (fun h=>?_))<;>(try(exfalso;assumption)))|(((with_reducible first|refine ae fun K E hK hE=>?_|refine ak fb (w2 _) ?_|refine ak Ax (w3 _) ?_|refine ak DW (w4 _) ?_|refine aE fun Kh hKh=>?_|refine aC fun Kh hKh=>?_|refine aL fun Kb hKb=>?_))<;>(try simp(disch:=omega) only[go_sem,seval, *]))))
      exact⟨m3 - 1,by omega,k+1,by omega,by omega,rfl,ab,ab,ab,ab,ab,ab,ab,ab,by rw[HN2.out];((try simp(disch:=assumption) only[go_sem,seval, *])<;>rfl),ab⟩
   ·obtain rfl:k=body.length:=by omega
    rw[f_]at e24
    have w5:=fun s=>sT OUT (ci e) oO ⟨by omega,fun r hr=>by rw[HOR.out r hr];omega⟩ (by omega) s
    have HST:Hid (((((R.take (i+1)).map ci).filter (dr (cH x L) vs (cA body))).foldl putRow [])=if dr (cH x L) vs (cA body) (ci e)=true then putRow OUT (ci e)else OUT):=u_ (by
     rw[HTK.out,List.map_append,List.filter_append,List.foldl_append,<- HOUT.out,List.map_cons,List.map_nil,List.filter_cons,List.filter_nil]
     split<;>rfl)
    generalize dr (cH x L) vs (cA body) (ci e)=NB at *
    cases NB with
    |true=>
     simp only[if_true]at HST
     have hpl:=(gW (l:=OUT) (r:=ci e)).1
     have HOR2:Hid (∀r,r∈putRow OUT (ci e)->r.length=vs.length):=u_ fun r hr=>by
      rcases eL.1 hr with h|h
      ·exact HOR.out r h
      ·rw[h];exact hril
     (repeat'(first|refine Ctl ?_|((with_reducible refine j_ hK ?_);clear hK hE K E)|((with_reducible refine aj (fun h=>?_) (fun h=>?_))<;>(try(exfalso;assumption)))|(((with_reducible first|refine ae fun K E hK hE=>?_|refine ak DV (w5 _) ?_))<;>(try simp(disch:=omega) only[go_sem,seval, *]))))
     exact⟨m - 1,by omega,i+1,putRow OUT (ci e),.no,by omega,by omega,rfl,u_ HST.out.symm,by omega,HOR2,ab,ab,ab,ab,ab,ab,ab,ab⟩
    |false=>
     simp only[Bool.false_eq_true,if_false]at HST
     (repeat'(first|refine Ctl ?_|((with_reducible refine j_ hK ?_);clear hK hE K E)|((with_reducible refine aj (fun h=>?_) (fun h=>?_))<;>(try(exfalso;assumption)))|(((with_reducible refine ae fun K E hK hE=>?_))<;>(try simp(disch:=omega) only[go_sem,seval, *]))))
     exact⟨m - 1,by omega,i+1,OUT,oO,by omega,by omega,rfl,u_ HST.out.symm,by omega,HOR,ab,ab,ab,ab,ab,ab,ab,ab⟩
  ·obtain rfl:i=R.length:=by omega
   have HBO:Hid (B=some OUT):=u_ (by
    rw[<- HB2.out,<- hOD,HOUT.out,f_]
    rfl)
   (repeat'(first|refine Ctl ?_|((with_reducible refine j_ hK ?_);clear hK hE K E)|((with_reducible refine aj (fun h=>?_) (fun h=>?_))<;>(try(exfalso;assumption)))|(((with_reducible refine ae fun K E hK hE=>?_))<;>(try simp(disch:=omega) only[go_sem,seval, *]))))
   all_goals(refine ap yX hQ ?_)
   all_goals rw[HBO.out]
   all_goals exact⟨_,_,z_ (.lst _ _ (.same _ .nil)),HF.out,rfl,rfl⟩
end Go.Proofs.YteldpmgepfaiiaaGreatDoor
