/- Walks of functions, and plain facts. Conditions: those in the statements. -/
import Derived.Test.YteldpmgepfaiiaaGreatDoorQsWuj
set_option linter.unusedSimpArgs false
set_option linter.unusedVariables false
set_option maxRecDepth 100000
namespace Go.Proofs.YteldpmgepfaiiaaGreatDoor
open Go.RowKit
structure ScpStep (dz:List UInt8->Int) (X Y:Scp) (ts:List Trm):Prop where
 sub:∀v,v∈X.vs->v∈Y.vs
 nd:X.vs.Nodup->Y.vs.Nodup
 var:∀m,m∈ts->m.var=true->m.nm∈Y.vs
 src:∀v,v∈Y.vs->v∈X.vs\/∃m,m∈ts/\m.var=true/\m.nm=v
 num:∀m,m∈ts->m.var=false->∃d,m.n<dz d
theorem uJ {dz:List UInt8->Int}{X Y:Scp}{t:Trm}{d:List UInt8}(h:ep dz X t d=.ok Y):ScpStep dz X Y [t]:=by
 unfold ep at h
 split at h
 ·rename_i hv
  split at h
  ·cases h
  ·rename_i hn
   injection h with h
   subst h
   exact⟨fun v h=>h,fun h=>h,fun m hm h=>(by rw[e_]at hm;subst hm;rw[hv]at h;cases h),fun v h=>.inl h,fun m hm _=>by rw[e_]at hm;subst hm;exact⟨d,by omega⟩⟩
 ·rename_i hv
  have hv':t.var=true:=by simpa using hv
  split at h
  ·rename_i hx
   injection h with h
   subst h
   refine⟨fun v h=>by simp[h],fun h=>?_,fun m hm _=>by rw[e_]at hm;subst hm;simp,fun v h=>?_,fun m hm h=>by rw[e_]at hm;subst hm;rw[hv']at h;cases h⟩
   ·rw[List.nodup_append]
    refine⟨h,by simp,fun a ha b hb=>?_⟩
    rw[e_]at hb
    subst hb
    rintro rfl
    exact eN.1 hx ha
   ·rcases l_.1 h with h|h
    ·exact .inl h
    ·rw[e_]at h
     exact .inr ⟨t,by simp,hv',h.symm⟩
  ·rename_i i hx
   split at h
   ·injection h with h
    subst h
    exact⟨fun v h=>h,fun h=>h,fun m hm _=>by rw[e_]at hm;subst hm;exact p_ (cI hx),fun v h=>.inl h,fun m hm h=>by rw[e_]at hm;subst hm;rw[hv']at h;cases h⟩
   ·cases h
theorem ScpStep.refl {dz:List UInt8->Int}{X:Scp}:ScpStep dz X X []:=⟨fun v h=>h,fun h=>h,fun m h=>(by cases h),fun v h=>.inl h,fun m h=>by cases h⟩
theorem ScpStep.trans {dz:List UInt8->Int}{X Y Z:Scp}{a b:List Trm}(h:ScpStep dz X Y a)(k:ScpStep dz Y Z b):ScpStep dz X Z (a++b):=
 ⟨fun v hv=>k.sub v (h.sub v hv),fun hn=>k.nd (h.nd hn),fun m hm hv=>(l_.1 hm).elim (fun e=>k.sub _ (h.var m e hv)) fun e=>k.var m e hv,fun v hv=>by
  rcases k.src v hv with e|⟨m,hm,e⟩
  ·rcases h.src v e with e|⟨m,hm,e⟩
   ·exact .inl e
   ·exact .inr ⟨m,by simp[hm],e⟩
  ·exact .inr ⟨m,by simp[hm],e⟩,fun m hm hv=>(l_.1 hm).elim (fun e=>h.num m e hv) fun e=>k.num m e hv⟩
theorem ja {α β:Type}{a:Except Int α}{k:α->Except Int β}{b:β}(h:eb a k=.ok b):∃x,a=.ok x/\k x=.ok b:=by
 cases a with
 |ok x=>exact⟨x,rfl,h⟩
 |error e=>cases h
theorem ma {dz:List UInt8->Int}:∀{ts:List Trm} {ds:List (List UInt8)} {X Y:Scp},ts.length=ds.length->c5 dz X ts ds=.ok Y->ScpStep dz X Y ts
 |[],[],X,Y,_,h=>by simp only[c5]at h;injection h with h;subst h;exact .refl
 |t::ts,d::ds,X,Y,hl,h=>by
  simp only[c5]at h
  obtain⟨Z,h1,h2⟩:=ja h
  exact(uJ h1).trans (ma (ts:=ts) (ds:=ds) (by simpa using hl) h2)
theorem kp {p:Pgm}{X Y:Scp}{a:Atm}(h:bU p X a=.ok Y):ScpStep (da p.doms) X Y a.ts/\∃k d,cO p.decls a.rel=some k/\p.decls[k]?=some d/\a.ts.length=d.doms.length:=by
 unfold bU at h
 cases hr:cO p.decls a.rel with
 |none=>rw[hr]at h;cases h
 |some k=>
  rw[hr]at h
  simp only at h
  cases hd:p.decls[k]? with
  |none=>rw[hd]at h;cases h
  |some d=>
   rw[hd]at h
   simp only at h
   split at h
   ·cases h
   ·rename_i hl
    have hl':a.ts.length=d.doms.length:=by simpa using hl
    exact⟨ma hl' h,k,d,rfl,hd,hl'⟩
theorem ji {p:Pgm}:∀{l:List Atm} {X Y:Scp},cL p X l=.ok Y->ScpStep (da p.doms) X Y (l.flatMap (·.ts))/\∀a,a∈l->∃k d,cO p.decls a.rel=some k/\p.decls[k]?=some d/\a.ts.length=d.doms.length
 |[],X,Y,h=>by simp only[cL]at h;injection h with h;subst h;exact⟨.refl,fun a ha=>by cases ha⟩
 |a::l,X,Y,h=>by
  simp only[cL]at h
  obtain⟨Z,h1,h2⟩:=ja h
  obtain⟨g1,g2⟩:=kp h1
  obtain⟨g3,g4⟩:=ji h2
  refine⟨g1.trans g3,fun b hb=>?_⟩
  rcases F_.1 hb with rfl|hb
  ·exact g2
  ·exact g4 b hb
theorem gz {l:List (List UInt8)}(hn:l.Nodup){i:Nat}{k:List UInt8}(h:l[i]?=some k):ixT k l=some i:=by
 refine mP (fun y hy e=>?_) h
 subst e
 obtain⟨j,hj⟩:=h_.1 hy
 have hji:j<i:=by have:=(n_.1 hj).1;rw[A_]at this;omega
 rw[List.getElem?_take_of_lt hji]at hj
 obtain⟨a1,a2⟩:=n_.1 hj
 obtain⟨b1,b2⟩:=n_.1 h
 exact List.pairwise_iff_getElem.1 hn j i a1 b1 hji (a2.trans b2.symm)
theorem xA {vs:List (List UInt8)}{ts:List Trm}(h:∀m,m∈ts->m.var=true->m.nm∈vs):ix vs vs.length ts:=fun m hm hv=>by
 cases hx:ixT m.nm vs with
 |none=>exact absurd (h m hm hv) (eN.1 hx)
 |some k=>exact⟨k,rfl,(n_.1 (cI hx)).1⟩
structure RulSnd (x:Pgm) (r:Rul) (vs:List (List UInt8)):Prop where
 nd:vs.Nodup
 vl:vs.length<=8
 hd:∃k d,cO x.decls r.head.rel=some k/\x.decls[k]?=some d/\r.head.ts.length=d.doms.length
 hf:ix vs vs.length r.head.ts
 hl:r.head.ts.length<=8
 hn:∀m,m∈r.head.ts->m.var=false->0<=m.n/\m.n<256
 bl:r.body.length<=8
 bd:∀a,a∈r.body->∃k d,cO x.decls a.rel=some k/\x.decls[k]?=some d/\a.ts.length=d.doms.length
 bf:∀a,a∈r.body->ix vs vs.length a.ts
 bt:∀a,a∈r.body->a.ts.length<=8
 bn:∀a,a∈r.body->∀m,m∈a.ts->m.var=false->0<=m.n/\m.n<256
 cov:Cov vs (cE r.body)
theorem Aa {t:Trm}(h:fN t=true)(hv:t.var=false):0<=t.n:=by
 unfold fN at h
 rw[if_neg (by simp[hv])]at h
 simp only[Bool.and_eq_true,decide_eq_true_eq]at h
 exact h.1.2
theorem ug {a:Atm}(h:dh a=true):∀t,t∈a.ts->fN t=true:=by
 unfold dh at h
 simp only[Bool.and_eq_true,List.all_eq_true]at h
 exact h.1.1.1
theorem sG {x:Pgm}(hd:∀d,d∈x.doms->d.size<=256){r:Rul}(hb:dJ r=true)(hl:r.head.ts.length<=8/\r.body.length<=8/\∀a,a∈r.body->a.ts.length<=8){Y:Scp}(h:bJ x r=.ok Y):RulSnd x r Y.vs:=by
 unfold bJ at h
 obtain⟨X1,h1,h⟩:=ja h
 obtain⟨X2,h2,h⟩:=ja h
 obtain⟨s1,k1⟩:=kp h1
 obtain⟨s2,k2⟩:=ji h2
 split at h
 ·cases h
 rename_i hw
 split at h
 ·cases h
 rename_i h8
 injection h with h
 subst h
 have hw':cM r.body r.head=true/\r.body.all (cM r.body)=true:=by
  simpa using hw
 have s:=s1.trans s2
 have hnd:X2.vs.Nodup:=s.nd List.nodup_nil
 unfold dJ at hb
 simp only[Bool.and_eq_true,List.all_eq_true]at hb
 have hdz:∀(m:Trm),fN m=true->m.var=false->(∃d,m.n<da x.doms d)->0<=m.n/\m.n<256:=fun m h1 h2 ⟨d,h3⟩=>by
  have h4:=Aa h1 h2
  have h5:=kW (n:=d) hd (by decide)
  omega
 have hvs:∀v,v∈X2.vs->c8 r.body v=true:=fun v hv=>by
  rcases s.src v hv with e|⟨m,hm,hmv,hme⟩
  ·cases e
  ·rcases l_.1 hm with hm|hm
   ·have:=List.all_eq_true.1 hw'.1 m hm
    rw[hmv,hme]at this
    exact this
   ·obtain⟨a,ha,hm⟩:=List.mem_flatMap.1 hm
    have:=List.all_eq_true.1 (List.all_eq_true.1 hw'.2 a ha) m hm
    rw[hmv,hme]at this
    exact this
 refine⟨hnd,by omega,k1,xA fun m hm hv=>s.var m (by simp[hm]) hv,hl.1,fun m hm hv=>hdz m (ug hb.1.1.1.1.1 m hm) hv (s.num m (by simp[hm]) hv),hl.2.1,k2,
  fun a ha=>xA fun m hm hv=>s.var m (List.mem_append_right _ (List.mem_flatMap.2 ⟨a,ha,hm⟩)) hv,hl.2.2,fun a ha m hm hv=>hdz m (ug (hb.2 a ha) m hm) hv (s.num m (List.mem_append_right _ (List.mem_flatMap.2 ⟨a,ha,hm⟩)) hv),fun i hi=>?_⟩
 obtain⟨v,hv⟩:=aN hi
 have hg:=hvs v (p_ hv)
 unfold c8 at hg
 rw[List.any_eq_true]at hg
 obtain⟨a,ha,hg⟩:=hg
 simp only[Bool.and_eq_true,List.any_eq_true,decide_eq_true_eq]at hg
 obtain⟨hn,m,hm,hmv,rfl⟩:=hg
 exact⟨a,by simp only[cE,List.mem_filter];exact⟨ha,hn⟩,m,hm,hmv,gz hnd hv⟩
theorem jY {x:Pgm}(hd:∀d,d∈x.doms->d.size<=256)(h:(soundP x).2.1=0){k:Nat}{r:Rul}(hr:x.rules[k]?=some r):RulSnd x r (varsP x (k:Int)).1.vs:=by
 obtain⟨l,hs,hr0,hb,hst⟩:=eq h
 obtain⟨Y,hY⟩:=fo x.rules 0 hb r (p_ hr)
 have hp:=dL hr0
 have hbd:=(ij hp).2.2 r (p_ hr)
 have hrb:dJ r=true:=by
  unfold cm at hp
  simp only[Bool.and_eq_true,List.all_eq_true]at hp
  exact hp.2 r (p_ hr)
 have hv:varsP x (k:Int)=(Y,0):=by
  unfold varsP
  rw[if_neg (by simp[h]),if_neg (by omega),Int.toNat_natCast,hr]
  simp only[hY]
 rw[hv]
 exact sG hd hrb hbd hY
theorem zf {vars:List (List UInt8)}{e e':Asg}{t:Trm}{z:Int}(h:cC vars e t z=some e'){v:Int}(hv:some v∈e'):some v∈e\/v=z:=by
 unfold cC at h
 split at h
 ·split at h
  ·injection h with h;subst h;exact .inl hv
  ·cases h
 ·split at h
  ·cases h
  ·split at h
   ·cases h
   ·injection h with h
    subst h
    rcases List.mem_or_eq_of_mem_set hv with e|e
    ·exact .inl e
    ·injection e with e;exact .inr e
   ·split at h
    ·injection h with h;subst h;exact .inl hv
    ·cases h
theorem j8 {vars:List (List UInt8)}:∀{ts:List Trm} {zs:List Int} {e e':Asg},aP vars e ts zs=some e'->∀{v:Int},some v∈e'->some v∈e\/v∈zs
 |t::ts,z::zs,e,e',h,v,hv=>by
  simp only[aP]at h
  cases h1:cC vars e t z with
  |none=>rw[h1]at h;cases h
  |some e1=>
   rw[h1]at h
   rcases j8 (ts:=ts) (zs:=zs) h hv with e2|e2
   ·rcases zf h1 e2 with e3|e3
    ·exact .inl e3
    ·exact .inr (by simp[e3])
   ·exact .inr (by simp[e2])
 |[],_,e,e',h,v,hv=>by simp only[aP]at h;injection h with h;subst h;exact .inl hv
 |_::_,[],e,e',h,v,hv=>by simp only[aP]at h;injection h with h;subst h;exact .inl hv
theorem ln {T:Tbs}{vars:List (List UInt8)}:∀{l:List Atm} {e e':Asg},e'∈dI T vars l e->∀{v:Int},some v∈e'->some v∈e\/∃a,a∈l/\∃r,r∈T a.rel/\v∈r
 |[],e,e',h,v,hv=>by simp only[dI,e_]at h;subst h;exact .inl hv
 |a::l,e,e',h,v,hv=>by
  simp only[dI,List.mem_flatMap]at h
  obtain⟨r,hr,h⟩:=h
  cases h1:aP vars e a.ts r with
  |none=>rw[h1]at h;cases h
  |some e1=>
   rw[h1]at h
   rcases ln h hv with e2|⟨b,hb,e2⟩
   ·rcases j8 h1 e2 with e3|e3
    ·exact .inl e3
    ·exact .inr ⟨a,by simp,r,hr,e3⟩
   ·exact .inr ⟨b,by simp[hb],e2⟩
structure TbOk (x:Pgm) (X:List Tab):Prop where
 len:X.length=x.decls.length
 row:∀(k:Nat) (y:Tab) (d:Dcl),X[k]?=some y->x.decls[k]?=some d->∀r,r∈y.l->r.length=d.doms.length/\Sml r
 nd:∀y,y∈X->y.l.Nodup
 le:∀y,y∈X->y.l.length<=16384
def TT (x:Pgm)(X:List Tab):Rlt:=fun n row=>row∈bV x X n
section
variable {x : Pgm} {X : List Tab} {r : Rul} {vs : List (List UInt8)}
theorem TbOk.at_ (h:TbOk x X){n:List UInt8}{k:Nat}(hk:cO x.decls n=some k):∃y,X[k]?=some y:=by
 have h1:=(n_.1 (cI (show ixT n (x.decls.map (·.name))=some k from hk))).1
 rw[a_]at h1
 exact aN (by rw[h.len];exact h1)
theorem TbOk.rows (h:TbOk x X){n:List UInt8}{k:Nat}{d:Dcl}(hk:cO x.decls n=some k)(hd:x.decls[k]?=some d):∀row,row∈bV x X n->row.length=d.doms.length/\Sml row:=fun row hr=>by
 obtain⟨y,hy⟩:=h.at_ hk
 rw[jn hk hy]at hr
 exact h.row k y d hy hd row hr
theorem TbOk.matm (h:TbOk x X)(hs:RulSnd x r vs):∀a,a∈r.body->MAtm x X vs a:=fun a ha=>by
 obtain⟨k,d,h1,h2,h3⟩:=hs.bd a ha
 obtain⟨y,hy⟩:=h.at_ h1
 exact⟨⟨k,y,h1,hy,fun row hr=>by rw[h3];exact(h.row k y d hy h2 row hr).1⟩,hs.bf a ha,by have:=hs.bt a ha;omega,hs.bn a ha⟩
theorem TbOk.arity (h:TbOk x X)(hs:RulSnd x r vs):∀a,a∈r.body->∀row,row∈bV x X a.rel->row.length=a.ts.length:=fun a ha row hr=>by
 obtain⟨k,d,h1,h2,h3⟩:=hs.bd a ha
 rw[h3]
 exact(h.rows h1 h2 row hr).1
theorem kF {l:List Atm}{a:Atm}(h:a∈cE l):a∈l:=(List.mem_filter.1 h).1
theorem TbOk.rgood (h:TbOk x X)(hs:RulSnd x r vs):RGood (bV x X) vs (ku vs) (cE r.body) (cU vs):=fun e' he=>by
 have hlen:=fE he
 have hf:=g8 (fun a ha=>h.arity hs a (kF ha)) hs.cov he
 refine⟨hf,⟨?_,fun n hn=>?_⟩,?_⟩
 ·unfold fi;rw[a_,hlen];simp only[cU,List.length_replicate];have:=hs.vl;omega
 ·unfold fi at hn
  obtain⟨o,ho,rfl⟩:=E_.1 hn
  cases o with
  |none=>exact absurd rfl (hf _ ho)
  |some v=>
   rcases ln he ho with e|⟨a,ha,row,hr,hv⟩
   ·unfold cU at e
    have:=List.eq_of_mem_replicate e
    cases this
   ·obtain⟨k,d,h1,h2,_⟩:=hs.bd a (kF ha)
    exact(h.rows h1 h2 row hr).2.2 v hv
 ·unfold fi;rw[a_,hlen];simp[cU]
theorem TbOk.gives (h:TbOk x X)(hs:RulSnd x r vs){row:List Int}:(∃rr,rr∈eT (bV x X) vs r.body/\aU vs rr r.head.ts=row)↔∃g,Sat (TT x X) g r.body/\ei g r.head.ts=row:=
 qj hs.bf (fun a ha _=>h.arity hs a ha) hs.cov hs.hf
theorem TbOk.new_src (h:TbOk x X)(hs:RulSnd x r vs){l:List (List Int)}{row:List Int}(hr:row∈il (bV x X) r vs l):∃g,Sat (TT x X) g r.body/\ei g r.head.ts=row:=by
 rcases(gM (T:=bV x X) (r:=r) (vars:=vs) (l:=l)).src row hr with e|e
 ·cases e
 ·exact(h.gives hs).1 e
theorem TbOk.new_full (h:TbOk x X)(hs:RulSnd x r vs){l:List (List Int)}(hl:l.length<=16384)(hle:l.length+(il (bV x X) r vs l).length<=16384){g:Sig}(hg:Sat (TT x X) g r.body):ei g r.head.ts∈l\/ei g r.head.ts∈il (bV x X) r vs l:=by
 have hrun:=gM (T:=bV x X) (r:=r) (vars:=vs) (l:=l)
 obtain⟨rr,h1,h2⟩:=(h.gives hs).2 ⟨g,hg,rfl⟩
 rw[<- h2]
 refine hrun.full ?_ rr h1
 cases hb:(c6 (gvF vs r.head.ts l) [] (eT (bV x X) vs r.body)).2 with
 |true=>rfl
 |false=>
  have:=hrun.stop hb
  unfold il at hle
  omega
theorem TbOk.new_sml (h:TbOk x X)(hs:RulSnd x r vs){l:List (List Int)}{row:List Int}(hr:row∈il (bV x X) r vs l):row.length=r.head.ts.length/\Sml row:=by
 rcases(gM (T:=bV x X) (r:=r) (vars:=vs) (l:=l)).src row hr with e|⟨rr,h1,rfl⟩
 ·cases e
 ·have hg:ku vs rr:=(h.rgood hs).rows (ns:=cK r.body) h1
  exact⟨by simp[aU],fH hg.1 (by rw[hg.2];exact hs.hf) (by have:=hs.hl;omega) hs.hn⟩
theorem TbOk.upd (h:TbOk x X)(hs:RulSnd x r vs){hi:Nat}{y:Tab}(hh:cO x.decls r.head.rel=some hi)(hy:X[hi]?=some y)(hle:(y.l++il (bV x X) r vs y.l).length<=16384){g':Nat} :
  TbOk x (X.set hi ⟨y.b,y.m,g',y.l++il (bV x X) r vs y.l⟩):=by
 have hrun:=gM (T:=bV x X) (r:=r) (vars:=vs) (l:=y.l)
 obtain⟨k,d0,e1,e2,e3⟩:=hs.hd
 rw[hh]at e1
 injection e1 with e1
 subst e1
 refine⟨by rw[List.length_set];exact h.len,fun k z d hz hd row hr=>?_,fun z hz=>?_,fun z hz=>?_⟩
 ·by_cases e:hi=k
  ·subst e
   rw[i_ (n_.1 hy).1]at hz
   injection hz with hz
   subst hz
   rw[e2]at hd
   injection hd with hd
   subst hd
   rcases l_.1 hr with hr|hr
   ·exact h.row _ y _ hy e2 row hr
   ·rw[<- e3];exact h.new_sml hs hr
  ·rw[s_ e]at hz
   exact h.row k z d hz hd row hr
 ·rcases List.mem_or_eq_of_mem_set hz with e|e
  ·exact h.nd z e
  ·subst e
   rw[List.nodup_append]
   exact⟨h.nd y (p_ hy),hrun.nd,fun a ha b hb e=>hrun.dj b hb (e ▸ ha)⟩
 ·rcases List.mem_or_eq_of_mem_set hz with e|e
  ·exact h.le z e
  ·subst e;exact hle
theorem FI {hi:Nat}{y:Tab}{n0:List UInt8}(hh:cO x.decls n0=some hi)(hy:X[hi]?=some y){g':Nat}{new:List (List Int)}(n:List UInt8)(row:List Int) :
  TT x (X.set hi ⟨y.b,y.m,g',y.l++new⟩) n row↔TT x X n row\/(n=n0/\row∈new):=by
 unfold TT bV
 cases hk:cO x.decls n with
 |none=>
  simp only[List.not_mem_nil,false_or,false_iff]
  rintro⟨rfl,_⟩
  rw[hh]at hk
  cases hk
 |some k=>
  simp only
  by_cases e:hi=k
  ·subst e
   have hn:n=n0:=by
    have h1:=cI (show ixT n (x.decls.map (·.name))=some hi from hk)
    have h2:=cI (show ixT n0 (x.decls.map (·.name))=some hi from hh)
    rw[h1]at h2
    injection h2
   rw[i_ (n_.1 hy).1,hy]
   simp only[Option.map_some,Option.getD_some,l_,hn,true_and]
  ·rw[s_ e]
   constructor
   ·exact .inl
   ·rintro(h|⟨rfl,_⟩)
    ·exact h
    ·rw[hh]at hk;injection hk with hk;exact absurd hk e
noncomputable def stN (x:Pgm)(n:List UInt8):Nat:=gt (soundP x).2.2 (ixR x n)
theorem wC (h:(soundP x).2.1=0):Cy x.rules (stN x):=fun r hr a ha=>by
 obtain⟨l,hs,_,_,hst⟩:=eq h
 have hl:=jp hst
 have he:(⟨ixR x r.head.rel,ixR x a.rel,if a.not=true then 1 else 0⟩:Edg)∈eJ x:=by
  unfold eJ
  rw[List.mem_flatten]
  exact⟨_,E_.2 ⟨r,hr,rfl⟩,E_.2 ⟨a,ha,rfl⟩⟩
 have h1:=hl.2.1 _ he
 unfold stN
 rw[hs]
 simp only at h1 ⊢
 constructor
 ·intro hn
  rw[if_pos hn]at h1
  omega
 ·split at h1<;>omega
theorem JT (h:(soundP x).2.1=0){n:List UInt8}{k:Nat}(hk:cO x.decls n=some k):stN x n<x.decls.length:=by
 obtain⟨l,hs,_,_,hst⟩:=eq h
 have hl:=jp hst
 unfold stN ixR
 rw[hs,hk]
 refine hl.2.2.2 _ ?_
 have h1:=(n_.1 (cI (show ixT n (x.decls.map (·.name))=some k from hk))).1
 rw[a_]at h1
 exact h1
end
attribute [local go_sem] aH aV cH
def cS (x:Pgm)(L:List Tbl):Tbs:=fun n=>match cO x.decls n with
 |some k=>((L[k]?).map (·.rs)).getD []
 |none=>[]
structure TdOk (x:Pgm) (L:List Tbl):Prop where
 len:L.length=x.decls.length
 row:∀(k:Nat) (y:Tbl) (d:Dcl),L[k]?=some y->x.decls[k]?=some d->∀r,r∈y.rs->r.length=d.doms.length/\Sml r
 le:∀y,y∈L->y.rs.length<=100000
theorem jo {x:Pgm}{L:List Tbl}{n:List UInt8}{k:Nat}{y:Tbl}(h1:cO x.decls n=some k)(h2:L[k]?=some y):cS x L n=y.rs:=by simp[cS,h1,h2]
def eh (R:List Asg):List (List VV):=R.map fun e=>[.lst (aB (cx e)) .no]
theorem sJ {R:List Asg}{i:Nat}{e:Asg}(h:R[i]?=some e):(eh R)[i]?=some [.lst (aB (cx e)) .no]:=by unfold eh;rw[c_,h];rfl
theorem lu {R:List Asg}:(eh R).length=R.length:=by simp[eh]
theorem yQ {R S:List Asg}:eh (R++S)=eh R++eh S:=by simp[eh]
theorem yP {R:List Asg}:∀y,y∈eh R->y.length=1:=fun y hy=>by
 obtain⟨q,_,rfl⟩:=E_.1 hy
 rfl
def yZ (T:Tbs)(vars:List (List UInt8))(body:List Atm)(R:List Asg):List (List Int):=((R.map cx).filter (dB T vars (cK body))).foldl putRow []
def Cl (o:Option (List (List Int))):VV:=match o with
 |none=>.tup [.lst [] .no,.bool false]
 |some l=>.tup [.lst (aF l) .no,.bool true]
def t7 (T:Tbs)(vars:List (List UInt8))(most:Nat)(body:List Atm):Option (List (List Int)):=(eP T vars most body [cU vars]).map (yZ T vars body)
theorem vu {vars:List (List UInt8)}{e e':Asg}{ts:List Trm}{zs:List Int}(h:aP vars e ts zs=some e')(he:v8 e)(hz:∀z,z∈zs->0<=z):v8 e':=fun v hv=>by
 rcases j8 h hv with h|h
 ·exact he v h
 ·exact hz v h
def CI (vars:List (List UInt8))(R:List Asg):Prop:=∀e,e∈R->e.length=vars.length/\v8 e
theorem Bm {vars:List (List UInt8)}:CI vars [cU vars]:=fun e he=>by
 rw[e_]at he
 subst he
 refine⟨by simp[cU],fun v hv=>?_⟩
 have:=List.eq_of_mem_replicate hv
 cases this
def ff (T:Tbs)(vars:List (List UInt8))(a:Atm)(R:List Asg):List Asg:=R.flatMap fun e=>(T a.rel).filterMap (aP vars e a.ts)
theorem vT {T:Tbs}{vars:List (List UInt8)}{most:Nat}{body:List Atm}{i:Nat}{a:Atm}{R:List Asg}(h:body[i]?=some a):eP T vars most (body.drop i) R=if a.not=true then eP T vars most (body.drop (i+1)) R else
  if most<(ff T vars a R).length then none else eP T vars most (body.drop (i+1)) (ff T vars a R):=by
 obtain⟨h1,rfl⟩:=n_.1 h
 rw[g_ h1]
 rfl
theorem Ag {T:Tbs}{vars:List (List UInt8)}{a:Atm}{R:List Asg}(h:CI vars R)(hT:∀r,r∈T a.rel->Sml r):CI vars (ff T vars a R):=fun e he=>by
 unfold ff at he
 obtain⟨e0,he0,he⟩:=List.mem_flatMap.1 he
 obtain⟨r,hr,hm⟩:=List.mem_filterMap.1 he
 exact⟨(fV hm).trans (h e0 he0).1,vu hm (h e0 he0).2 fun z hz=>((hT r hr).2 z hz).1⟩
set_option maxHeartbeats 16000000 in
theorem EJ (x:Pgm)(r:Rul)(vs:List (List UInt8))(L:List Tbl)(most:Nat)(o1 oL:Own)(hx:PgmOk x)(hs:RulSnd x r vs)(hL:TdOk x L)(hm:most<=1000000)(t:St) :
  SRet Tryz.prog 45 [.agg (pgC x),.agg (ax r),.lst (aA vs) o1,.lst (L.map aX) oL,.int .i64 (most:Int)] t (Cl (t7 (cS x L) vs most r.body)) t:=by
 have w1:=fun n s=>lR x n hx.2.1 s
 have hcl:x.decls.length<=140737488355328:=hx.2.1
 obtain⟨hd,body⟩:=r
 have hbl1:(body.map aG).length=body.length:=by simp
 have hvl1:(aA vs).length=vs.length:=by simp[aA]
 have hvl:=hs.vl
 have hbl:=hs.bl
 simp only at hbl
 have HS:=u_ hs
 have HL:=u_ hL
 generalize hB:t7 (cS x L) vs most body=B
 have HB:=u_ hB
 clear hB hs hL
 simp only[pgC,ax]at w1 ⊢
 refine aw Tryz.func45 rfl Tryz.ntmps45 rfl fun Q hQ hQe=>?_
 (repeat'(first|refine Ctl ?_|((with_reducible refine j_ hK ?_);clear hK hE K E)|((first|(with_reducible refine ae fun K E hK hE=>?_)|((with_reducible refine ao (fun b hb=>?_));(repeat(obtain⟨_,hb⟩:=hb))))<;>(try simp(disch:=omega) only[go_sem,seval, *]))))
 rename_i b5 hb5 _ _
 obtain⟨b6,hb6⟩:∃z,z=b:=⟨_,rfl⟩
 subst hb6
 have q5:((t.set b5 (.obj 26 [.lst (x.doms.map dmC) .no,.lst (x.decls.map az) .no,.lst (x.rules.map ax) .no])).set b6 (.obj 43 [.bool hd.not,.str hd.rel,.lst (hd.ts.map aC) .no,.lst (body.map aG) .no])) b5=.obj 26 [.lst (x.doms.map dmC) .no,.lst (x.decls.map az) .no,.lst (x.rules.map ax) .no]:=by rw[k_ _ _ (‹_›)];exact q_ _ _ _
 have q6:((t.set b5 (.obj 26 [.lst (x.doms.map dmC) .no,.lst (x.decls.map az) .no,.lst (x.rules.map ax) .no])).set b6 (.obj 43 [.bool hd.not,.str hd.rel,.lst (hd.ts.map aC) .no,.lst (body.map aG) .no])) b6=.obj 43 [.bool hd.not,.str hd.rel,.lst (hd.ts.map aC) .no,.lst (body.map aG) .no]:=q_ _ _ _
 have HF:Hid (Fg ((t.set b5 (.obj 26 [.lst (x.doms.map dmC) .no,.lst (x.decls.map az) .no,.lst (x.rules.map ax) .no])).set b6 (.obj 43 [.bool hd.not,.str hd.rel,.lst (hd.ts.map aC) .no,.lst (body.map aG) .no])) t):=u_ (w_ (v_ _ hb5) hb)
 generalize (t.set b5 (.obj 26 [.lst (x.doms.map dmC) .no,.lst (x.decls.map az) .no,.lst (x.rules.map ax) .no])).set b6 (.obj 43 [.bool hd.not,.str hd.rel,.lst (hd.ts.map aC) .no,.lst (body.map aG) .no])=S at *
 have l5:S b5≠.free:=by rw[q5];simp
 have l6:S b6≠.free:=by rw[q6];simp
 clear hb5 hb
 refine aI (fun m env s'=>∃(i:Nat) (o:Own),i<=vs.length/\m+i=vs.length/\OwnOk S o i/\s'=S.own o 3 1 i/\env 2=.lst (aA vs) o1/\env 3=.lst (L.map aX) oL/\env 4=.int .i64 (most:Int)/\env 5=.ptr b5 0/\env 6=.ptr b6 0/\env 12=.lst (aB (List.replicate i (-1))) o/\env 13=.int .i64 i) vs.length ?_ ?_
 ·exact⟨_,Fg.refl _,0,.full,by omega,by omega,b9,rfl,ab,ab,ab,ab,ab,ab,ab⟩
 rintro m env s' ⟨i,o,hi,hm1,hoo,rfl,e2,e3,e4,e5,e6,e12,e13⟩
 by_cases hlt:i<vs.length
 ·have hLl:(aB (List.replicate i (-1))).length=i:=by rw[bH,List.length_replicate]
  have h1y:∀y,y∈aB (List.replicate i (-1))->y.length=1:=fun y hy=>by
   obtain⟨q,_,rfl⟩:=E_.1 hy
   rfl
  have HR:Hid (aB (List.replicate (i+1) (-1))=aB (List.replicate i (-1))++[[.int .i64 (-1)]]):=u_ (by rw[List.replicate_succ'];simp[aB])
  generalize aB (List.replicate i (-1))=LL at *
  (repeat'(first|refine Ctl ?_|((with_reducible refine j_ hK ?_);clear hK hE K E)|((with_reducible refine aj (fun h=>?_) (fun h=>?_))<;>(try(exfalso;assumption)))|((first|(with_reducible refine ae fun K E hK hE=>?_)|((with_reducible refine cq (fun o2 ho=>?_));(try simp(disch:=assumption) only[hLl]at ho)))<;>(try simp(disch:=first|assumption|omega) only[go_sem,seval, *]))))
  exact⟨_,Fg.refl _,m - 1,by omega,i+1,o2,by omega,by omega,ho,rfl,ab,ab,ab,ab,ab,by rw[HR.out];((try simp(disch:=assumption) only[go_sem,seval, *])<;>rfl),ab⟩
 obtain rfl:i=vs.length:=by omega
 have hnone:aB (List.replicate vs.length (-1))=aB (cx (cU vs)):=by simp[cx,cU]
 rw[hnone]at e12
 refine lT 12 (y:=.lst (aB (cx (cU vs))) .no) e12 (Wk.lst _ _) ?_
 refine ee (Fg.own hoo) ?_
 clear hoo hi hm1 hlt hnone
 (repeat'(first|refine Ctl ?_|((with_reducible refine j_ hK ?_);clear hK hE K E)|((with_reducible refine aj (fun h=>?_) (fun h=>?_))<;>(try(exfalso;omega)))|(((with_reducible refine ae fun K E hK hE=>?_))<;>(try simp(disch:=omega) only[go_sem,seval, *]))))
 refine aI (fun m env s'=>∃(i:Nat) (R:List Asg) (oR:Own),i<=body.length/\m+i=body.length/\S=s'/\Hid (CI vs R)/\R.length<=1000001/\Hid ((eP (cS x L) vs most (body.drop i) R).map (yZ (cS x L) vs body)=B)/\env 2=.lst (aA vs) o1/\env 3=.lst (L.map aX) oL/\env 4=.int .i64 (most:Int)/\env 5=.ptr b5 0/\env 6=.ptr b6 0/\env 14=.lst (eh R) oR/\env 15=.int .i64 i) body.length ?_ ?_
 ·exact⟨_,Fg.refl _,0,[cU vs],.full,by omega,by omega,rfl,u_ Bm,by simp,u_ (by rw[List.drop_zero];exact HB.out),ab,ab,ab,ab,ab,ab,ab⟩
 clear e2 e3 e4 e5 e6 e12 e13 HB env m
 rintro m env s' ⟨i,R,oR,hi,hm2,he0,HRW,hRl,HB,e2,e3,e4,e5,e6,e14,e15⟩
 subst he0
 by_cases hlt:i<body.length
 ·obtain⟨a,ha⟩:=aN hlt
  have hsa:=cX ha
  have HB2:=HB.out
  rw[vT ha]at HB2
  have HB3:=u_ HB2
  have hain:=p_ ha
  obtain⟨kk,d0,hrel,hd0,hal⟩:=HS.out.bd a hain
  obtain⟨y,hy⟩:∃y,L[kk]?=some y:=aN (by rw[HL.out.len];exact(n_.1 hd0).1)
  have hyr:=HL.out.row kk y d0 hy hd0
  have hyl:=HL.out.le y (p_ hy)
  have hT:(cS x L) a.rel=y.rs:=jo hrel hy
  have hsy:=dZ hy
  have hLl:(L.map aX).length=L.length:=by simp
  have hkl:kk<L.length:=(n_.1 hy).1
  have hLn:L.length<=140737488355328:=by rw[HL.out.len];exact hcl
  have hrz:eI x.decls a.rel=(kk:Int):=by unfold eI;rw[hrel]
  have w2:=w1 a.rel
  rw[hrz]at w2
  have hfit:=HS.out.bf a hain
  have hal8:=HS.out.bt a hain
  have HTT:=u_ hT
  have HYR:=u_ hyr
  have HFIT:=u_ hfit
  have HAL:=u_ hal
  obtain⟨an,ar,ats⟩:=a
  simp only[aG]at hsa
  simp only[aX]at hsy
  simp only at w2 hal8
  clear ha hain hrel hd0 hal hy hyr hT hrz hfit HB2 HB
  cases an with
  |true=>
   have HB4:=HB3.out
   simp only[if_true]at HB4
   have HB5:=u_ HB4
   clear HB3 HB4
   (repeat'(first|refine Ctl ?_|((with_reducible refine j_ hK ?_);clear hK hE K E)|((with_reducible refine aj (fun h=>?_) (fun h=>?_))<;>(try(exfalso;assumption)))|(((with_reducible refine ae fun K E hK hE=>?_))<;>(try simp(disch:=omega) only[go_sem,seval, *]))))
   exact⟨_,Fg.refl _,m - 1,by omega,i+1,R,oR,by omega,by omega,rfl,HRW,hRl,HB5,ab,ab,ab,ab,ab,ab,ab⟩
  |false=>
   have HB4:=HB3.out
   simp only[Bool.false_eq_true,if_false]at HB4
   have HB5:=u_ HB4
   clear HB3 HB4
   (repeat'(first|refine Ctl ?_|(with_reducible first|(refine j_ hK ?_;clear hK hE K E)|(refine j_ hKh ?_;clear hKh Kh)|(refine j_ hKb (aL ?_);clear hKb Kb)|refine aq 12 [([0,1,2,3,4,5,6,7],8,[[0]])] [9,10,11,12] hQe fun K E hK hE=>?_)|((with_reducible refine aj (fun h=>?_) (fun h=>?_))<;>(try(exfalso;assumption)))|(((with_reducible first|refine ae fun K E hK hE=>?_|refine ak fm (w2 _) ?_|refine aE fun Kh hKh=>?_|refine aD fun Kh hKh=>?_|refine aM fun Kb hKb=>?_))<;>(try simp(disch:=omega) only[go_sem,seval, *]))))
   have hRl2:(eh R).length=R.length:=lu
   have hyl2:(aF y.rs).length=y.rs.length:=rowsV_len
   refine aI (fun m3 env s3=>∃(j:Nat) (o:Own) (NX:List Asg),j<=R.length/\m3+j=R.length/\OwnOk S o NX.length/\s3=S.own o 48 1 NX.length/\Hid (NX=ff (cS x L) vs ⟨false,ar,ats⟩ (R.take j))/\NX.length<=most/\env 2=.lst (aA vs) o1/\env 3=.lst (L.map aX) oL/\env 4=.int .i64 (most:Int)/\env 5=.ptr b5 0/\env 6=.ptr b6 0/\env 14=.lst (eh R) oR/\env 15=.int .i64 i/\env 16=.lst (eh NX) o/\env 17=.lst (aF y.rs) .no/\env 18=.int .i64 j) R.length ?_ ?_
   ·exact⟨_,Fg.refl _,0,.full,[],by omega,by omega,b9,rfl,u_ (by simp[ff]),by simp,ab,ab,ab,ab,ab,ab,ab,ab,ab,ab⟩
   clear e2 e3 e4 e5 e6 e14 e15 env
   rintro m3 env s3 ⟨j,o,NX,hj,hm3,hoo,rfl,HNX,hNX,e2,e3,e4,e5,e6,e14,e15,e16,e17,e18⟩
   by_cases hltj:j<R.length
   ·obtain⟨e,he⟩:=aN hltj
    have hse:=sJ he
    have hew:=HRW.out e (p_ he)
    have HE:=u_ he
    have hel:=hew.1
    have hep:=hew.2
    clear he hew
    (repeat'(first|refine Ctl ?_|((with_reducible refine j_ hK ?_);clear hK hE K E)|((with_reducible refine aj (fun h=>?_) (fun h=>?_))<;>(try(exfalso;assumption)))|(((with_reducible refine ae fun K E hK hE=>?_))<;>(try simp(disch:=omega) only[go_sem,seval, *]))))
    refine aI (fun m4 env s4=>∃(k:Nat) (o:Own) (NX:List Asg),k<=y.rs.length/\m4+k=y.rs.length/\OwnOk S o NX.length/\s4=S.own o 48 1 NX.length/\Hid (NX=ff (cS x L) vs ⟨false,ar,ats⟩ (R.take j)++(y.rs.take k).filterMap (aP vs e ats))/\NX.length<=most/\env 2=.lst (aA vs) o1/\env 3=.lst (L.map aX) oL/\env 4=.int .i64 (most:Int)/\env 5=.ptr b5 0/\env 6=.ptr b6 0/\env 14=.lst (eh R) oR/\env 15=.int .i64 i/\env 16=.lst (eh NX) o/\env 17=.lst (aF y.rs) .no/\env 18=.int .i64 j/\env 19=.int .i64 k) y.rs.length ?_ ?_
    ·exact⟨_,Fg.refl _,0,o,NX,by omega,by omega,hoo,rfl,u_ (by rw[HNX.out];simp),hNX,ab,ab,ab,ab,ab,ab,ab,ab,ab,ab,ab⟩
    clear e2 e3 e4 e5 e6 e14 e15 e16 e17 e18 HNX hNX hoo NX o env
    rintro m4 env s4 ⟨k,o,NX,hk,hm4,hoo,rfl,HNX,hNX,e2,e3,e4,e5,e6,e14,e15,e16,e17,e18,e19⟩
    have o5:=hoo.not l5
    have o6:=hoo.not l6
    by_cases hltk:k<y.rs.length
    ·obtain⟨v,hv⟩:=aN hltk
     have hsv:=dK hv
     have hvr:=HYR.out v (p_ hv)
     have w3:=EB vs e o1 ⟨false,ar,ats⟩ v hel (by omega) (by rw[hvr.1];exact HAL.out) (by have:=hvr.2.1;omega) hep (fun z hz=>(hvr.2.2 z hz).1) HFIT.out
     have hNl:(eh NX).length=NX.length:=lu
     have h1y:=yP (R:=NX)
     have hstep:(y.rs.take (k+1)).filterMap (aP vs e ats)=(y.rs.take k).filterMap (aP vs e ats)++[v].filterMap (aP vs e ats):=by rw[bY hv,List.filterMap_append]
     simp only[aG]at w3
     cases hmt:aP vs e ats v with
     |none=>
      have HNX2:Hid (NX=ff (cS x L) vs ⟨false,ar,ats⟩ (R.take j)++(y.rs.take (k+1)).filterMap (aP vs e ats)):=u_ (by rw[hstep,List.filterMap_cons,hmt];simp only[List.filterMap_nil,List.append_nil];exact HNX.out)
      have w4:=fun s=>w3 s
      simp only[hmt,A8]at w4
      have hgt:((most:Int)<(NX.length:Int))=False:=eq_false (by omega)
      clear w3 hstep hv hmt hvr
      (repeat'(first|refine Ctl ?_|(with_reducible first|(refine j_ hK ?_;clear hK hE K E)|(refine j_ hKh ?_;clear hKh Kh)|(refine j_ hKb (aL ?_);clear hKb Kb)|refine aq 19 [([0,1,2,3,4,5,6,7,8,9,10,11,12,13],14,[[]])] [15,16,17,18,19] hQe fun K E hK hE=>?_)|((with_reducible refine aj (fun h=>?_) (fun h=>?_))<;>(try(exfalso;assumption)))|(((with_reducible first|refine ae fun K E hK hE=>?_|refine ak BT (w4 _) ?_|refine aE fun Kh hKh=>?_|refine aD fun Kh hKh=>?_|refine aM fun Kb hKb=>?_))<;>(try simp(disch:=first|assumption|omega) only[go_sem,seval, *]))))
      exact⟨_,Fg.refl _,m4 - 1,by omega,k+1,o,NX,by omega,by omega,hoo,rfl,HNX2,hNX,ab,ab,ab,ab,ab,ab,ab,ab,ab,ab,ab⟩
     |some e2=>
      have HNX2:Hid (NX++[e2]=ff (cS x L) vs ⟨false,ar,ats⟩ (R.take j)++(y.rs.take (k+1)).filterMap (aP vs e ats)):=u_ (by rw[hstep,List.filterMap_cons,hmt];simp only[List.filterMap_nil];rw[<- List.append_assoc,<- HNX.out])
      have HAP:Hid (eh (NX++[e2])=eh NX++[[.lst (aB (cx e2)) .no]]):=u_ (by rw[yQ];rfl)
      have w4:=fun s=>w3 s
      simp only[hmt,A8]at w4
      clear w3 hstep hv hmt hvr
      generalize eh NX=LN at *
      have hlap:(LN++[[VV.lst (aB (cx e2)) .no]]).length=NX.length+1:=by rw[d_,hNl];rfl
      by_cases hbig:most<NX.length+1
      ·have hgt:((most:Int)<((NX.length+1:Nat):Int))=True:=eq_true (by omega)
       have HBN:Hid (B=none):=u_ (by
        rw[<- HB5.out,if_pos,Option.map_none]
        have h1:ff (cS x L) vs ⟨false,ar,ats⟩ R=(NX++[e2])++((y.rs.drop (k+1)).filterMap (aP vs e ats)++ff (cS x L) vs ⟨false,ar,ats⟩ (R.drop (j+1))):=by
         rw[HNX2.out]
         have h2:R=R.take j++e::R.drop (j+1):=by
          obtain⟨a1,a2⟩:=n_.1 HE.out
          rw[<- a2,<- g_ a1,List.take_append_drop]
         have h3:y.rs.filterMap (aP vs e ats)=(y.rs.take (k+1)).filterMap (aP vs e ats)++(y.rs.drop (k+1)).filterMap (aP vs e ats):=by rw[<- List.filterMap_append,List.take_append_drop]
         have h4:ff (cS x L) vs ⟨false,ar,ats⟩ R=ff (cS x L) vs ⟨false,ar,ats⟩ (R.take j)++(((cS x L) ar).filterMap (aP vs e ats)++ff (cS x L) vs ⟨false,ar,ats⟩ (R.drop (j+1))):=by
          conv=>lhs;rw[h2]
          unfold ff
          rw[List.flatMap_append,List.flatMap_cons]
         rw[h4,show (cS x L) ar=y.rs from HTT.out,h3]
         simp only[List.append_assoc]
        rw[h1,d_,d_,List.length_singleton]
        omega)
       (repeat'(first|refine Ctl ?_|(with_reducible first|(refine j_ hK ?_;clear hK hE K E)|(refine j_ hKh ?_;clear hKh Kh)|(refine j_ hKb (aL ?_);clear hKb Kb)|refine aq 19 [([0,1,2,3,4,5,6,7,8,9,10,11,12,13],14,[[]])] [15,16,17,18,19] hQe fun K E hK hE=>?_)|((with_reducible refine aj (fun h=>?_) (fun h=>?_))<;>(try(exfalso;assumption)))|((first|(with_reducible first|refine ae fun K E hK hE=>?_|refine ak BT (w4 _) ?_|refine aE fun Kh hKh=>?_|refine aD fun Kh hKh=>?_|refine aM fun Kb hKb=>?_)|((with_reducible refine cq (fun o2 ho=>?_));(try simp(disch:=assumption) only[hNl]at ho)))<;>(try simp(disch:=first|assumption|omega) only[go_sem,seval, *]))))
       all_goals(refine ap AF hQ ?_)
       all_goals rw[HBN.out]
       all_goals exact⟨_,_,z_ (.lst _ _ (.same _ .nil)),(Fg.own ho).trans HF.out,rfl,rfl⟩
      ·have hgt:((most:Int)<((NX.length+1:Nat):Int))=False:=eq_false (by omega)
       (repeat'(first|refine Ctl ?_|(with_reducible first|(refine j_ hK ?_;clear hK hE K E)|(refine j_ hKh ?_;clear hKh Kh)|(refine j_ hKb (aL ?_);clear hKb Kb)|refine aq 19 [([0,1,2,3,4,5,6,7,8,9,10,11,12,13],14,[[]])] [15,16,17,18,19] hQe fun K E hK hE=>?_)|((with_reducible refine aj (fun h=>?_) (fun h=>?_))<;>(try(exfalso;assumption)))|((first|(with_reducible first|refine ae fun K E hK hE=>?_|refine ak BT (w4 _) ?_|refine aE fun Kh hKh=>?_|refine aD fun Kh hKh=>?_|refine aM fun Kb hKb=>?_)|((with_reducible refine cq (fun o2 ho=>?_));(try simp(disch:=assumption) only[hNl]at ho)))<;>(try simp(disch:=first|assumption|omega) only[go_sem,seval, *]))))
       exact⟨_,Fg.refl _,m4 - 1,by omega,k+1,o2,NX++[e2],by omega,by omega,by rw[d_];exact ho,by rw[d_];rfl,HNX2,by rw[d_,List.length_singleton];omega,ab,ab,ab,ab,ab,ab,ab,by rw[HAP.out];((try simp(disch:=assumption) only[go_sem,seval, *])<;>rfl),ab,ab,ab⟩
    ·obtain rfl:k=y.rs.length:=by omega
     have HNX2:Hid (NX=ff (cS x L) vs ⟨false,ar,ats⟩ (R.take (j+1))):=u_ (by
      rw[HNX.out,f_,bY HE.out]
      unfold ff
      rw[List.flatMap_append,List.flatMap_cons,List.flatMap_nil,List.append_nil,show (cS x L) (Atm.mk false ar ats).rel=y.rs from HTT.out])
     (repeat'(first|refine Ctl ?_|((with_reducible refine j_ hK ?_);clear hK hE K E)|((with_reducible refine aj (fun h=>?_) (fun h=>?_))<;>(try(exfalso;assumption)))|(((with_reducible refine ae fun K E hK hE=>?_))<;>(try simp(disch:=omega) only[go_sem,seval, *]))))
     exact⟨_,Fg.refl _,m3 - 1,by omega,j+1,o,NX,by omega,by omega,hoo,rfl,HNX2,hNX,ab,ab,ab,ab,ab,ab,ab,ab,ab,ab⟩
   ·obtain rfl:j=R.length:=by omega
    have hnx:=HNX.out
    rw[f_]at hnx
    have HB6:Hid ((eP (cS x L) vs most (body.drop (i+1)) NX).map (yZ (cS x L) vs body)=B):=u_ (by
     have:=HB5.out
     rw[<- hnx,if_neg (by omega)]at this
     exact this)
    have HRW2:Hid (CI vs NX):=u_ (by rw[hnx];exact Ag HRW.out fun r hr=>(HYR.out r (by rw[<- HTT.out];exact hr)).2)
    clear hnx
    (repeat'(first|refine Ctl ?_|((with_reducible refine j_ hK ?_);clear hK hE K E)|((with_reducible refine aj (fun h=>?_) (fun h=>?_))<;>(try(exfalso;assumption)))|(((with_reducible refine ae fun K E hK hE=>?_))<;>(try simp(disch:=omega) only[go_sem,seval, *]))))
    exact⟨S,Fg.own hoo,m - 1,by omega,i+1,NX,o,by omega,by omega,rfl,HRW2,by omega,HB6,ab,ab,ab,ab,ab,ab,ab⟩
 ·obtain rfl:i=body.length:=by omega
  have hb2:=HB.out
  rw[G_]at hb2
  have HB2:Hid (some (yZ (cS x L) vs body R)=B):=u_ hb2
  clear hb2 HB
  (repeat'(first|refine Ctl ?_|((with_reducible refine j_ hK ?_);clear hK hE K E)|((with_reducible refine aj (fun h=>?_) (fun h=>?_))<;>(try(exfalso;assumption)))|(((with_reducible refine ae fun K E hK hE=>?_))<;>(try simp(disch:=omega) only[go_sem,seval, *]))))
  have hRl2:(eh R).length=R.length:=lu
  generalize hOD:yZ (cS x L) vs body R=OD at *
  refine bB (fun m env s'=>∃(i:Nat) (OUT:List (List Int)) (oO:Own),i<=R.length/\m+i=R.length/\S=s'/\Hid (OUT=(((R.take i).map cx).filter (dB (cS x L) vs (cK body))).foldl putRow [])/\OUT.length<=i/\Hid (∀r,r∈OUT->r.length=vs.length)/\env 2=.lst (aA vs) o1/\env 3=.lst (L.map aX) oL/\env 4=.int .i64 (most:Int)/\env 5=.ptr b5 0/\env 6=.ptr b6 0/\env 14=.lst (eh R) oR/\env 22=.lst (aF OUT) oO/\env 23=.int .i64 i) R.length ?_ ?_
  ·exact⟨0,[],.full,by omega,by omega,rfl,u_ rfl,Nat.le_refl _,u_ (fun r hr=>by cases hr),ab,ab,ab,ab,ab,ab,ab,ab⟩
  clear e2 e3 e4 e5 e6 e14 e15 env hi hm2 hlt m
  rintro m env s' ⟨i,OUT,oO,hi,hm2,he0,HOUT,hOl,HOR,e2,e3,e4,e5,e6,e14,e22,e23⟩
  subst he0
  by_cases hlt:i<R.length
  ·obtain⟨e,he⟩:=aN hlt
   have hse:=sJ he
   have hew:=HRW.out e (p_ he)
   have hril:(cx e).length=vs.length:=by rw[cx,a_];exact hew.1
   have HTK:Hid (R.take (i+1)=R.take i++[e]):=u_ (bY he)
   clear he hew
   (repeat'(first|refine Ctl ?_|((with_reducible refine j_ hK ?_);clear hK hE K E)|((with_reducible refine aj (fun h=>?_) (fun h=>?_))<;>(try(exfalso;assumption)))|(((with_reducible refine ae fun K E hK hE=>?_))<;>(try simp(disch:=omega) only[go_sem,seval, *]))))
   refine bB (fun m3 env s3=>∃(k:Nat),k<=body.length/\m3+k=body.length/\S=s3/\env 2=.lst (aA vs) o1/\env 3=.lst (L.map aX) oL/\env 4=.int .i64 (most:Int)/\env 5=.ptr b5 0/\env 6=.ptr b6 0/\env 14=.lst (eh R) oR/\env 22=.lst (aF OUT) oO/\env 23=.int .i64 i/\env 24=.bool (dB (cS x L) vs (cK (body.take k)) (cx e))/\env 25=.int .i64 k) body.length ?_ ?_
   ·exact⟨0,by omega,by omega,rfl,ab,ab,ab,ab,ab,ab,ab,ab,ab,ab⟩
   clear e2 e3 e4 e5 e6 e14 e22 e23 env
   rintro m3 env s3 ⟨k,hk,hm3,he0,e2,e3,e4,e5,e6,e14,e22,e23,e24,e25⟩
   subst he0
   by_cases hltk:k<body.length
   ·obtain⟨a,ha⟩:=aN hltk
    have hsa:=cX ha
    have hain:=p_ ha
    have hnt:=p6 ha
    obtain⟨kk,d0,hrel,hd0,hal⟩:=HS.out.bd a hain
    obtain⟨y,hy⟩:∃y,L[kk]?=some y:=aN (by rw[HL.out.len];exact(n_.1 hd0).1)
    have hyr:=HL.out.row kk y d0 hy hd0
    have hyl:=HL.out.le y (p_ hy)
    have hT:(cS x L) a.rel=y.rs:=jo hrel hy
    have hsy:=dZ hy
    have hLl:(L.map aX).length=L.length:=by simp
    have hkl:kk<L.length:=(n_.1 hy).1
    have hLn:L.length<=140737488355328:=by rw[HL.out.len];exact hcl
    have hrz:eI x.decls a.rel=(kk:Int):=by unfold eI;rw[hrel]
    have w2:=w1 a.rel
    rw[hrz]at w2
    have hal8:=HS.out.bt a hain
    have w3:=fun s=>xZ vs (cx e) o1 .no a (by omega) (by omega) (by rw[hril];exact HS.out.bf a hain) s
    have w4:=fun s=>JH y.rs (aU vs (cx e) a.ts) .no .no ⟨by omega,fun r hr=>by have:=(hyr r hr).2.1;omega⟩ (by rw[aU,a_];omega) s
    have HNT:Hid (dB (cS x L) vs (cK (body.take (k+1))) (cx e)=if a.not=true then(dB (cS x L) vs (cK (body.take k)) (cx e) && decide (aU vs (cx e) a.ts∉y.rs))else dB (cS x L) vs (cK (body.take k)) (cx e)):=u_ (by
     rw[hnt]
     split
     ·unfold dB
      rw[List.all_append]
      simp only[List.all_cons,List.all_nil,Bool.and_true,hT]
     ·rfl)
    obtain⟨an,ar,ats⟩:=a
    simp only[aG]at hsa w3
    simp only[aX]at hsy
    simp only at w2 w4 HNT
    clear ha hain hrel hd0 hal hy hyr hT hrz hnt
    generalize dB (cS x L) vs (cK (body.take k)) (cx e)=NK at *
    cases an with
    |false=>
     simp only[Bool.false_eq_true,if_false]at HNT
     (repeat'(first|refine Ctl ?_|(with_reducible first|(refine j_ hK ?_;clear hK hE K E)|(refine j_ hKh ?_;clear hKh Kh)|(refine j_ hKb (aL ?_);clear hKb Kb)|refine aq 33 [([0,1,2,3,4,5,6,7,8,9,10,11,12,13,14,19,20,21,22,23,24,25,26,27,28],15,[[7,19,20,21,22,23,24,25,26,27,28]]),([16,17,18],29,[[16,17,18],[7]]),([],30,[[],[],[]])] [31] hQe fun K E hK hE=>?_)|((with_reducible refine aj (fun h=>?_) (fun h=>?_))<;>(try(exfalso;assumption)))|(((with_reducible first|refine ae fun K E hK hE=>?_|refine aE fun Kh hKh=>?_|refine aD fun Kh hKh=>?_|refine aM fun Kb hKb=>?_))<;>(try simp(disch:=omega) only[go_sem,seval, *]))))
     exact⟨m3 - 1,by omega,k+1,by omega,by omega,rfl,ab,ab,ab,ab,ab,ab,ab,ab,by rw[HNT.out];((try simp(disch:=assumption) only[go_sem,seval, *])<;>rfl),ab⟩
    |true=>
     simp only[if_true]at HNT
     by_cases hin:aU vs (cx e) ats∈y.rs
     ·have hd:decide (aU vs (cx e) ats∈y.rs)=true:=decide_eq_true hin
      rw[hd]at w4
      have HN2:Hid (dB (cS x L) vs (cK (body.take (k+1))) (cx e)=false):=u_ (by rw[HNT.out];simp[hin])
      clear hd hin HNT
      generalize aU vs (cx e) ats=IV at *
      (repeat'(first|refine Ctl ?_|(with_reducible first|(refine j_ hK ?_;clear hK hE K E)|(refine j_ hKh ?_;clear hKh Kh)|(refine j_ hKb (aL ?_);clear hKb Kb)|refine aq 33 [([0,1,2,3,4,5,6,7,8,9,10,11,12,13,14,19,20,21,22,23,24,25,26,27,28],15,[[7,19,20,21,22,23,24,25,26,27,28]]),([16,17,18],29,[[16,17,18],[7]]),([],30,[[],[],[]])] [31] hQe fun K E hK hE=>?_)|((with_reducible refine aj (fun h=>?_) (fun h=>?_))<;>(try(exfalso;assumption)))|(((with_reducible first|refine ae fun K E hK hE=>?_|refine ak fm (w2 _) ?_|refine ak BV (w3 _) ?_|refine ak Fl (w4 _) ?_|refine aE fun Kh hKh=>?_|refine aD fun Kh hKh=>?_|refine aM fun Kb hKb=>?_))<;>(try simp(disch:=omega) only[go_sem,seval, *]))))
      exact⟨m3 - 1,by omega,k+1,by omega,by omega,rfl,ab,ab,ab,ab,ab,ab,ab,ab,by rw[HN2.out];((try simp(disch:=assumption) only[go_sem,seval, *])<;>rfl),ab⟩
     ·have hd:decide (aU vs (cx e) ats∈y.rs)=false:=decide_eq_false hin
      rw[hd]at w4
      have HN2:Hid (dB (cS x L) vs (cK (body.take (k+1))) (cx e)=NK):=u_ (by rw[HNT.out];simp[hin])
      clear hd hin HNT
      generalize aU vs (cx e) ats=IV at *
      (repeat'(first|refine Ctl ?_|(with_reducible first|(refine j_ hK ?_;clear hK hE K E)|(refine j_ hKh ?_;clear hKh Kh)|(refine j_ hKb (aL ?_);clear hKb Kb)|refine aq 33 [([0,1,2,3,4,5,6,7,8,9,10,11,12,13,14,19,20,21,22,23,24,25,26,27,28],15,[[7,19,20,21,22,23,24,25,26,27,28]]),([16,17,18],29,[[16,17,18],[7]]),([],30,[[],[],[]])] [31] hQe fun K E hK hE=>?_)|((with_reducible refine aj (fun h=>?_) (fun h=>?_))<;>(try(exfalso;assumption)))|(((with_reducible first|refine ae fun K E hK hE=>?_|refine ak fm (w2 _) ?_|refine ak BV (w3 _) ?_|refine ak Fl (w4 _) ?_|refine aE fun Kh hKh=>?_|refine aD fun Kh hKh=>?_|refine aM fun Kb hKb=>?_))<;>(try simp(disch:=omega) only[go_sem,seval, *]))))
      exact⟨m3 - 1,by omega,k+1,by omega,by omega,rfl,ab,ab,ab,ab,ab,ab,ab,ab,by rw[HN2.out];((try simp(disch:=assumption) only[go_sem,seval, *])<;>rfl),ab⟩
   ·obtain rfl:k=body.length:=by omega
    rw[f_]at e24
    have w5:=fun s=>ux OUT (cx e) oO ⟨by omega,fun r hr=>by rw[HOR.out r hr];omega⟩ (by omega) s
    have HST:Hid (((((R.take (i+1)).map cx).filter (dB (cS x L) vs (cK body))).foldl putRow [])=if dB (cS x L) vs (cK body) (cx e)=true then putRow OUT (cx e)else OUT):=u_ (by
     rw[HTK.out,List.map_append,List.filter_append,List.foldl_append,<- HOUT.out,List.map_cons,List.map_nil,List.filter_cons,List.filter_nil]
     split<;>rfl)
    generalize dB (cS x L) vs (cK body) (cx e)=NB at *
    cases NB with
    |true=>
     simp only[if_true]at HST
     have hpl:=(ii (l:=OUT) (r:=cx e)).1
     have HOR2:Hid (∀r,r∈putRow OUT (cx e)->r.length=vs.length):=u_ fun r hr=>by
      rcases eW.1 hr with h|h
      ·exact HOR.out r h
      ·rw[h];exact hril
     (repeat'(first|refine Ctl ?_|((with_reducible refine j_ hK ?_);clear hK hE K E)|((with_reducible refine aj (fun h=>?_) (fun h=>?_))<;>(try(exfalso;assumption)))|(((with_reducible first|refine ae fun K E hK hE=>?_|refine ak Fk (w5 _) ?_))<;>(try simp(disch:=omega) only[go_sem,seval, *]))))
     exact⟨m - 1,by omega,i+1,putRow OUT (cx e),.no,by omega,by omega,rfl,u_ HST.out.symm,by omega,HOR2,ab,ab,ab,ab,ab,ab,ab,ab⟩
    |false=>
     simp only[Bool.false_eq_true,if_false]at HST
     (repeat'(first|refine Ctl ?_|((with_reducible refine j_ hK ?_);clear hK hE K E)|((with_reducible refine aj (fun h=>?_) (fun h=>?_))<;>(try(exfalso;assumption)))|(((with_reducible refine ae fun K E hK hE=>?_))<;>(try simp(disch:=omega) only[go_sem,seval, *]))))
     exact⟨m - 1,by omega,i+1,OUT,oO,by omega,by omega,rfl,u_ HST.out.symm,by omega,HOR,ab,ab,ab,ab,ab,ab,ab,ab⟩
  ·obtain rfl:i=R.length:=by omega
   have HBO:Hid (B=some OUT):=u_ (by
    rw[<- HB2.out,<- hOD,HOUT.out,f_]
    rfl)
   (repeat'(first|refine Ctl ?_|((with_reducible refine j_ hK ?_);clear hK hE K E)|((with_reducible refine aj (fun h=>?_) (fun h=>?_))<;>(try(exfalso;assumption)))|(((with_reducible refine ae fun K E hK hE=>?_))<;>(try simp(disch:=omega) only[go_sem,seval, *]))))
   all_goals(refine ap AF hQ ?_)
   all_goals rw[HBO.out]
   all_goals exact⟨_,_,z_ (.lst _ _ (.same _ .nil)),HF.out,rfl,rfl⟩
end Go.Proofs.YteldpmgepfaiiaaGreatDoor
