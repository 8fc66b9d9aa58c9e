/- Walks of functions that the claim reaches, and plain facts of them. Conditions: those in the statements. -/
import Derived.Test.YtohnaepcgnbaiaaGreatDoorJkSoundGj
set_option linter.unusedSimpArgs false
set_option linter.unusedVariables false
namespace Go.Proofs.YtohnaepcgnbaiaaGreatDoor
def cB:Tr->List Int->List (List Int)
 |.lf b,w=>if b=true then [w] else []
 |.nd v l h,w=>cB l (w.set v 0)++cB h (w.set v 1)
def AgrW (w:List Int)(x:Nat->Bool):Prop:=∀(v:Nat) (c:Int),w[v]?=some c->(c=0->x v=false)/\(c=1->x v=true)
theorem AgrW.set {w:List Int}{x:Nat->Bool}{v:Nat}{b:Bool}(hv:v<w.length)(h2:w[v]?=some 2):AgrW (w.set v (if b then 1 else 0)) x↔AgrW w x/\x v=b:=by
 constructor
 ·intro h
  refine⟨fun u c hu=>?_,?_⟩
  ·by_cases e:u=v
   ·subst e;rw[h2]at hu;injection hu with hu;subst hu;exact⟨fun h=>(by cases h),fun h=>(by cases h)⟩
   ·exact h u c (by rw[i_ (Ne.symm e)];exact hu)
  ·have:=h v _ (e_ hv)
   cases b
   ·exact this.1 rfl
   ·exact this.2 rfl
 ·rintro⟨h,hb⟩ u c hu
  by_cases e:u=v
  ·subst e
   rw[e_ hv]at hu
   injection hu with hu
   subst hu
   cases b
   ·exact⟨fun _=>hb,fun h=>(by cases h)⟩
   ·exact⟨fun h=>(by cases h),fun _=>hb⟩
  ·rw[i_ (Ne.symm e)]at hu
   exact h u c hu
def OpenW (m:Nat)(w:List Int):Prop:=∀v,m<=v->v<w.length->w[v]?=some 2
theorem OpenW.set {m v:Nat}{w:List Int}{c:Int}(h:OpenW m w)(hv:m<=v):OpenW (v+1) (w.set v c):=fun u hu hl=>by
 rw[List.length_set]at hl
 rw[i_ (by omega)]
 exact h u (by omega) hl
theorem ku {n:Nat}:∀{t:Tr} {m:Nat} {w:List Int} {x:Nat->Bool},OkT n m t->w.length=n->OpenW m w->((∃c,c∈cB t w/\AgrW c x)↔AgrW w x/\evT t x=true)
 |.lf b,m,w,x,_,hw,ho=>by
  simp only[cB,evT]
  cases b
  ·simp
  ·simp
 |.nd v l h,m,w,x,⟨h1,h2,h3,h4,h5⟩,hw,ho=>by
  have hv2:=ho v h1 (by omega)
  have a:=ku (x:=x) (w:=w.set v 0) h4 (by rw[List.length_set];exact hw) (ho.set h1)
  have b:=ku (x:=x) (w:=w.set v 1) h5 (by rw[List.length_set];exact hw) (ho.set h1)
  have sa:=AgrW.set (x:=x) (b:=false) (by omega) hv2
  have sb:=AgrW.set (x:=x) (b:=true) (by omega) hv2
  simp only[Bool.false_eq_true,if_false,if_true]at sa sb
  rw[sa]at a
  rw[sb]at b
  simp only[cB,evT]
  constructor
  ·rintro⟨c,hc,hx⟩
   rcases f_.1 hc with hc|hc
   ·obtain⟨⟨k1,k2⟩,k3⟩:=a.1 ⟨c,hc,hx⟩
    exact⟨k1,by rw[k2];simpa using k3⟩
   ·obtain⟨⟨k1,k2⟩,k3⟩:=b.1 ⟨c,hc,hx⟩
    exact⟨k1,by rw[k2];simpa using k3⟩
  ·rintro⟨k1,k2⟩
   by_cases e:x v=true
   ·rw[if_pos e]at k2
    obtain⟨c,hc,hx⟩:=b.2 ⟨⟨k1,e⟩,k2⟩
    exact⟨c,List.mem_append_right _ hc,hx⟩
   ·rw[if_neg e]at k2
    obtain⟨c,hc,hx⟩:=a.2 ⟨⟨k1,by simpa using e⟩,k2⟩
    exact⟨c,List.mem_append_left _ hc,hx⟩
theorem oP {n:Nat}{t:Tr}{m:Nat}{w:List Int}{c:List Int}(ho:OkT n m t)(hw:w.length=n)(hp:OpenW m w)(hc:c∈cB t w){x:Nat->Bool}(hx:AgrW c x):AgrW w x/\evT t x=true:=(ku ho hw hp).1 ⟨c,hc,hx⟩
theorem ju {n:Nat}:∀{t:Tr} {m:Nat} {w:List Int},OkT n m t->w.length=n->OpenW m w->(cB t w).Pairwise fun c d=>∀x,AgrW c x->AgrW d x->False
 |.lf b,m,w,_,_,_=>by
  simp only[cB]
  cases b<;>simp
 |.nd v l h,m,w,⟨h1,h2,h3,h4,h5⟩,hw,ho=>by
  have hv2:=ho v h1 (by omega)
  have sa:=fun x=>AgrW.set (x:=x) (b:=false) (show v<w.length by omega) hv2
  have sb:=fun x=>AgrW.set (x:=x) (b:=true) (show v<w.length by omega) hv2
  simp only[Bool.false_eq_true,if_false,if_true]at sa sb
  simp only[cB]
  rw[List.pairwise_append]
  refine⟨ju h4 (by rw[List.length_set];exact hw) (ho.set h1),ju h5 (by rw[List.length_set];exact hw) (ho.set h1),fun c hc d hd x hx hy=>?_⟩
  have k1:=((sa x).1 (oP h4 (by rw[List.length_set];exact hw) (ho.set h1) hc hx).1).2
  have k2:=((sb x).1 (oP h5 (by rw[List.length_set];exact hw) (ho.set h1) hd hy).1).2
  rw[k1]at k2;cases k2
theorem kv {n:Nat}:∀{t:Tr} {m:Nat} {w c:List Int},OkT n m t->w.length=n->c∈cB t w->c.length=n
 |.lf b,m,w,c,_,hw,hc=>by
  simp only[cB]at hc
  cases b
  ·simp at hc
  ·simp at hc;subst hc;exact hw
 |.nd v l h,m,w,c,⟨h1,h2,h3,h4,h5⟩,hw,hc=>by
  simp only[cB]at hc
  rcases f_.1 hc with hc|hc
  ·exact kv h4 (by rw[List.length_set];exact hw) hc
  ·exact kv h5 (by rw[List.length_set];exact hw) hc
theorem ko {S:List Nat}:∀{t:Tr} {w c:List Int},InV S t->c∈cB t w->∀v:Nat,v∉S->c[v]?=w[v]?
 |.lf b,w,c,_,hc,v,_=>by
  simp only[cB]at hc
  cases b
  ·simp at hc
  ·simp at hc;subst hc;rfl
 |.nd u l h,w,c,⟨i1,i2,i3⟩,hc,v,hv=>by
  have hne:u≠v:=by rintro rfl;exact hv i1
  simp only[cB]at hc
  rcases f_.1 hc with hc|hc
  ·rw[ko i2 hc v hv,i_ hne]
  ·rw[ko i3 hc v hv,i_ hne]
def bI (c:List Int)(i:Nat)(v:Nat)(all:List Nat):List Nat:=all.flatMap fun m=>(if (c[v]?).getD 0≠1 then [m] else [])++(if (c[v]?).getD 0≠0 then [m+2 ^ i] else [])
def iq (c:List Int):Nat->List Nat->List Nat->List Nat
 |_,[],all=>all
 |i,v::vs,all=>iq c (i+1) vs (bI c i v all)
theorem oN {c:List Int}:∀{vs:List Nat} {i:Nat} {all:List Nat} {m:Nat},m∈iq c i vs all↔∃a k,a∈all/\m=a+2 ^ i * k/\k<2 ^ vs.length/\∀(j:Nat) (v:Nat),vs[j]?=some v->((c[v]?).getD 0=0->k.testBit j=false)/\((c[v]?).getD 0=1->k.testBit j=true)
 |[],i,all,m=>by
  simp only[iq]
  constructor
  ·intro h;exact⟨m,0,h,by simp,by simp,fun j v hv=>by simp at hv⟩
  ·rintro⟨a,k,h1,h2,h3,_⟩
   simp at h3
   subst h3
   simp at h2
   subst h2
   exact h1
 |v::vs,i,all,m=>by
  simp only[iq]
  rw[oN]
  constructor
  ·rintro⟨a,k,h1,h2,h3,h4⟩
   simp only[bI,List.mem_flatMap,f_]at h1
   obtain⟨b,hb,h1⟩:=h1
   have bit:∀(d:Nat),d<2->(∀(j u:Nat),(v::vs)[j+1]?=some u->((c[u]?).getD 0=0->(2 * k+d).testBit (j+1)=false)/\((c[u]?).getD 0=1->(2 * k+d).testBit (j+1)=true)):=fun d hd j u hu=>by
    have e:(2 * k+d).testBit (j+1)=k.testBit j:=by rw[Nat.testBit_succ,show (2 * k+d) / 2=k by omega]
    rw[e]
    exact h4 j u (by simpa using hu)
   have lt:∀d,d<2->2 * k+d<2 ^ (v::vs).length:=fun d hd=>by rw[List.length_cons,Nat.pow_succ];omega
   have pw:2 ^ (i+1) * k=2 ^ i * (2 * k):=by rw[Nat.pow_succ,Nat.mul_assoc]
   rcases h1 with h1|h1
   ·split at h1
    ·rename_i hc
     rw[a_]at h1
     subst h1
     refine⟨a,2 * k,hb,by rw[h2,pw],lt 0 (by omega),fun j u hu=>?_⟩
     cases j with
     |zero=>
      simp only[List.getElem?_cons_zero,Option.some.injEq]at hu
      subst hu
      have e:(2 * k).testBit 0=false:=by rw[Nat.testBit_zero];simp
      exact⟨fun _=>e,fun h=>absurd h hc⟩
     |succ j=>exact bit 0 (by omega) j u hu
    ·simp at h1
   ·split at h1
    ·rename_i hc
     rw[a_]at h1
     subst h1
     refine⟨b,2 * k+1,hb,by rw[h2,pw,Nat.mul_add];omega,lt 1 (by omega),fun j u hu=>?_⟩
     cases j with
     |zero=>
      simp only[List.getElem?_cons_zero,Option.some.injEq]at hu
      subst hu
      have e:(2 * k+1).testBit 0=true:=by rw[Nat.testBit_zero];simp
      exact⟨fun h=>absurd h hc,fun _=>e⟩
     |succ j=>exact bit 1 (by omega) j u hu
    ·simp at h1
  ·rintro⟨a,k,h1,h2,h3,h4⟩
   have h0:=h4 0 v rfl
   have hk:k=2 * (k / 2)+k % 2:=by omega
   have hlt:k / 2<2 ^ vs.length:=by rw[List.length_cons,Nat.pow_succ]at h3;omega
   have pw:2 ^ (i+1) * (k / 2)=2 ^ i * (2 * (k / 2)):=by rw[Nat.pow_succ,Nat.mul_assoc]
   have rest:∀(j u:Nat),vs[j]?=some u->((c[u]?).getD 0=0->(k / 2).testBit j=false)/\((c[u]?).getD 0=1->(k / 2).testBit j=true):=fun j u hu=>by
    rw[<- Nat.testBit_succ]
    exact h4 (j+1) u (by simpa using hu)
   rw[Nat.testBit_zero]at h0
   rcases Nat.mod_two_eq_zero_or_one k with e|e
   ·refine⟨a,k / 2,?_,by rw[h2,pw];congr 2;omega,hlt,rest⟩
    simp only[bI,List.mem_flatMap,f_]
    refine⟨a,h1,.inl ?_⟩
    rw[if_pos (fun h=>by have:=h0.2 h;simp[e]at this)]
    simp
   ·refine⟨a+2 ^ i,k / 2,?_,?_,hlt,rest⟩
    ·simp only[bI,List.mem_flatMap,f_]
     refine⟨a,h1,.inr ?_⟩
     rw[if_pos (fun h=>by have:=h0.1 h;simp[e]at this)]
     simp
    ·rw[h2,pw]
     have:k=2 * (k / 2)+1:=by omega
     rw[show 2 ^ i * k=2 ^ i * (2 * (k / 2)+1) from congrArg (2 ^ i * ·) this,Nat.mul_add]
     omega
theorem mO:∀{vs:List Nat} {m j v:Nat} {x:Nat->Bool},vs.Nodup->vs[j]?=some v->cV vs m x v=m.testBit j
 |[],m,j,v,x,_,h=>by simp at h
 |u::vs,m,0,v,x,hn,h=>by
  simp only[List.getElem?_cons_zero,Option.some.injEq]at h
  subst h
  rw[List.nodup_cons]at hn
  simp only[cV]
  rw[asgV_off hn.1,bL,Nat.testBit_zero]
  rcases Nat.mod_two_eq_zero_or_one m with e|e<;>simp[e]
 |u::vs,m,j+1,v,x,hn,h=>by
  rw[List.nodup_cons]at hn
  simp only[cV]
  rw[mO hn.2 (by simpa using h),Nat.testBit_succ]
where
 asgV_off:∀{vs:List Nat} {m v:Nat} {x:Nat->Bool},v∉vs->cV vs m x v=x v
  |[],_,_,_,_=>rfl
  |u::vs,m,v,x,h=>by
   rw[AT,not_or]at h
   simp only[cV]
   rw[asgV_off h.2,cN h.1]
def jL (t:Tr)(w:List Int)(vs:List Nat):List Nat:=(cB t w).flatMap fun c=>iq c 0 vs [0]
theorem sT {n:Nat}{t:Tr}{vs:List Nat}(ho:OkT n 0 t)(hv:InV vs t)(hn:vs.Nodup)(hlt:∀v,v∈vs->v<n){m:Nat} :
  m∈jL t (List.replicate n 2) vs↔m<2 ^ vs.length/\evT t (cV vs m fun _=>false)=true:=by
 have hw:(List.replicate n (2:Int)).length=n:=List.length_replicate
 have hop:OpenW 0 (List.replicate n (2:Int)):=fun v _ hl=>by
  rw[List.length_replicate]at hl
  rw[List.getElem?_replicate,if_pos hl]
 have agr:∀x,AgrW (List.replicate n (2:Int)) x:=fun x v c hc=>by
  rw[List.getElem?_replicate]at hc
  split at hc
  ·injection hc with hc;subst hc;exact⟨fun h=>(by cases h),fun h=>(by cases h)⟩
  ·cases hc
 have one:∀c,c∈cB t (List.replicate n 2)->(m∈iq c 0 vs [0]↔m<2 ^ vs.length/\AgrW c (cV vs m fun _=>false)):=fun c hc=>by
  have hcl:=kv ho hw hc
  rw[oN]
  constructor
  ·rintro⟨a,k,h1,h2,h3,h4⟩
   rw[a_]at h1
   subst h1
   have:m=k:=by rw[h2];simp
   subst this
   refine⟨h3,fun v c' hc'=>?_⟩
   by_cases hv':v∈vs
   ·obtain⟨j,hj⟩:=d_.1 hv'
    rw[mO hn hj]
    have:=h4 j v hj
    rw[hc']at this
    exact this
   ·have:=ko hv hc v hv'
    rw[hc',List.getElem?_replicate]at this
    split at this
    ·injection this with this;subst this;exact⟨fun h=>(by cases h),fun h=>(by cases h)⟩
    ·cases this
  ·rintro⟨h1,h2⟩
   refine⟨0,m,by simp,by simp,h1,fun j v hj=>?_⟩
   have hvn:=hlt v (y_ hj)
   have hg:c[v]?=some c[v]:=m_ (by omega)
   have:=h2 v _ hg
   rw[mO hn hj]at this
   rw[hg]
   exact this
 unfold jL
 rw[List.mem_flatMap]
 constructor
 ·rintro⟨c,hc,hm⟩
  obtain⟨h1,h2⟩:=(one c hc).1 hm
  exact⟨h1,(oP ho hw hop hc h2).2⟩
 ·rintro⟨h1,h2⟩
  obtain⟨c,hc,hx⟩:=(ku ho hw hop).2 ⟨agr _,h2⟩
  exact⟨c,hc,(one c hc).2 ⟨h1,hx⟩⟩
theorem gC {α β:Type}{f:α->List β}:∀{l:List α},(∀a,a∈l->(f a).Nodup)->(l.Pairwise fun a b=>∀x,x∈f a->x∈f b->False)->(l.flatMap f).Nodup
 |[],_,_=>by simp
 |a::l,h1,h2=>by
  rw[List.pairwise_cons]at h2
  rw[List.flatMap_cons,List.nodup_append]
  refine⟨h1 a (by simp),gC (fun b hb=>h1 b (by simp[hb])) h2.2,fun x hx y hy e=>?_⟩
  subst e
  obtain⟨b,hb,hy⟩:=List.mem_flatMap.1 hy
  exact h2.1 b hb x hx hy
theorem sf {c:List Int}{i v:Nat}{all:List Nat}(hn:all.Nodup)(hl:∀a,a∈all->a<2 ^ i):(bI c i v all).Nodup/\∀a,a∈bI c i v all->a<2 ^ (i+1):=by
 constructor
 ·unfold bI
  refine gC (fun a ha=>?_) ?_
  ·have hp:0<2 ^ i:=Nat.two_pow_pos i
   split<;>split<;>simp
  ·refine hn.imp_of_mem fun {a b} ha hb hne=>?_
   have h1:=hl a ha
   have h2:=hl b hb
   intro x hx hy
   rw[f_]at hx hy
   have fx:x=a\/x=a+2 ^ i:=by
    rcases hx with hx|hx
    ·split at hx
     ·exact .inl (a_.1 hx)
     ·simp at hx
    ·split at hx
     ·exact .inr (a_.1 hx)
     ·simp at hx
   have fy:x=b\/x=b+2 ^ i:=by
    rcases hy with hy|hy
    ·split at hy
     ·exact .inl (a_.1 hy)
     ·simp at hy
    ·split at hy
     ·exact .inr (a_.1 hy)
     ·simp at hy
   omega
 ·intro x hx
  simp only[bI,List.mem_flatMap,f_]at hx
  obtain⟨a,ha,hx⟩:=hx
  have h1:=hl a ha
  rw[Nat.pow_succ]
  rcases hx with hx|hx
  ·split at hx
   ·rw[a_]at hx;omega
   ·simp at hx
  ·split at hx
   ·rw[a_]at hx;omega
   ·simp at hx
theorem oM {c:List Int}:∀{vs:List Nat} {i:Nat} {all:List Nat},all.Nodup->(∀a,a∈all->a<2 ^ i)->(iq c i vs all).Nodup
 |[],i,all,hn,_=>hn
 |v::vs,i,all,hn,hl=>by
  obtain⟨h1,h2⟩:=sf (c:=c) (v:=v) hn hl
  exact oM (vs:=vs) h1 h2
theorem nU {n:Nat}{t:Tr}{vs:List Nat}(ho:OkT n 0 t)(hv:InV vs t)(hn:vs.Nodup)(hlt:∀v,v∈vs->v<n):(jL t (List.replicate n 2) vs).Nodup:=by
 have hw:(List.replicate n (2:Int)).length=n:=List.length_replicate
 have hop:OpenW 0 (List.replicate n (2:Int)):=fun v _ hl=>by
  rw[List.length_replicate]at hl
  rw[List.getElem?_replicate,if_pos hl]
 unfold jL
 refine gC (fun c _=>oM (by simp) (by simp)) ?_
 refine(ju ho hw hop).imp_of_mem fun {c d} hc hd hap=>?_
 intro m hm1 hm2
 have one:∀c,c∈cB t (List.replicate n 2)->m∈iq c 0 vs [0]->AgrW c (cV vs m fun _=>false):=fun c hc hm=>by
  rw[oN]at hm
  obtain⟨a,k,h1,h2,h3,h4⟩:=hm
  rw[a_]at h1
  subst h1
  have:m=k:=by rw[h2];simp
  subst this
  intro v c' hc'
  by_cases hv':v∈vs
  ·obtain⟨j,hj⟩:=d_.1 hv'
   rw[mO hn hj]
   have:=h4 j v hj
   rw[hc']at this
   exact this
  ·have:=ko hv hc v hv'
   rw[hc',List.getElem?_replicate]at this
   split at this
   ·injection this with this;subst this;exact⟨fun h=>(by cases h),fun h=>(by cases h)⟩
   ·cases this
 exact hap _ (one c hc hm1) (one d hd hm2)
def dC (t:Tr)(vs:List Nat):List Nat:=(List.range (2 ^ vs.length)).filter fun m=>evT t (cV vs m fun _=>false)
theorem sD:∀{a b:List Nat},a.Pairwise (·<·)->b.Pairwise (·<·)->(∀x,x∈a↔x∈b)->a=b
 |[],[],_,_,_=>rfl
 |[],y::b,_,_,h=>absurd ((h y).2 (by simp)) (by simp)
 |x::a,[],_,_,h=>absurd ((h x).1 (by simp)) (by simp)
 |x::a,y::b,ha,hb,h=>by
  rw[List.pairwise_cons]at ha hb
  have e:x=y:=by
   have h1:=(h x).1 (by simp)
   have h2:=(h y).2 (by simp)
   rcases AT.1 h1 with h1|h1
   ·exact h1
   ·rcases AT.1 h2 with h2|h2
    ·exact h2.symm
    ·have:=hb.1 x h1
     have:=ha.1 y h2
     omega
  subst e
  rw[sD ha.2 hb.2 fun z=>?_]
  have hz:=h z
  simp only[AT]at hz
  constructor
  ·intro hza
   rcases hz.1 (.inr hza)with e|e
   ·subst e;exact absurd (ha.1 z hza) (by omega)
   ·exact e
  ·intro hzb
   rcases hz.2 (.inr hzb)with e|e
   ·subst e;exact absurd (hb.1 z hzb) (by omega)
   ·exact e
theorem kX (t:Tr)(vs:List Nat):(dC t vs).Pairwise (·<·):=List.Pairwise.filter _ List.pairwise_lt_range
theorem fP {t:Tr}{vs:List Nat}{m:Nat}:m∈dC t vs↔m<2 ^ vs.length/\evT t (cV vs m fun _=>false)=true:=by
 unfold dC
 rw[List.mem_filter,List.mem_range]
theorem CM {n:Nat}{t:Tr}{vs:List Nat}(ho:OkT n 0 t)(hv:InV vs t)(hn:vs.Nodup)(hlt:∀v,v∈vs->v<n){l:List Nat}(hp:l.Perm (jL t (List.replicate n 2) vs))(hs:l.Pairwise (·<=·)):l=dC t vs:=by
 refine sD ?_ (kX t vs) fun x=>?_
 ·have hnd:l.Nodup:=hp.nodup_iff.2 (nU ho hv hn hlt)
  exact List.Pairwise.imp₂ (fun a b h1 h2=>by omega) hs hnd
 ·rw[hp.mem_iff,sT ho hv hn hlt,fP]
theorem AH {n:Nat}{t:Tr}{vs:List Nat}(ho:OkT n 0 t)(hv:InV vs t)(hn:vs.Nodup)(hlt:∀v,v∈vs->v<n):(jL t (List.replicate n 2) vs).length=(dC t vs).length:=
 ((List.perm_ext_iff_of_nodup (nU ho hv hn hlt) ((kX t vs).imp fun h=>Nat.ne_of_lt h)).2 fun x=>by rw[sT ho hv hn hlt,fP]).length_eq
theorem pP {c:List Int}{i v:Nat}{all:List Nat}(h:0<all.length):0<(bI c i v all).length:=by
 cases all with
 |nil=>simp at h
 |cons a all=>
  unfold bI
  rw[List.flatMap_cons,p_,p_]
  by_cases h1:(c[v]?).getD 0=1
  ·rw[if_neg (by simp[h1]),if_pos (by rw[h1];decide)]
   simp only[List.length_cons,List.length_nil];omega
  ·rw[if_pos h1]
   simp only[List.length_cons,List.length_nil];omega
theorem tv {c:List Int}:∀{vs:List Nat} {i:Nat} {all:List Nat},0<all.length->0<(iq c i vs all).length
 |[],_,_,h=>h
 |v::vs,i,all,h=>tv (vs:=vs) (pP h)
theorem E2 {t:Tr}{w:List Int}{vs:List Nat}:(cB t w).length<=(jL t w vs).length:=by
 unfold jL
 generalize cB t w=C
 induction C with
 |nil=>simp
 |cons c C ih=>
  rw[List.flatMap_cons,p_,List.length_cons]
  have:=tv (c:=c) (vs:=vs) (i:=0) (all:=[0]) (by simp)
  omega
theorem zG {t:Tr}{vs:List Nat}:(dC t vs).length=en (evT t) vs fun _=>false:=cntV_asg.symm
theorem Hb {n:Nat}{pos:Nat->Nat}{t:Tr}{vs S:List Nat}(ho:OkT n 0 t)(hv:InV S t)(hn:vs.Nodup)(hp:vs.Perm S)(hS:Fe S)(hpos:∀i v,S[i]?=some v->pos v=i):(dC t vs).length=dG pos vs.length t * 2 ^ dm pos vs.length t:=by
 rw[zG,yQ hp _ hn,rC (n:=n) (pos:=pos) (W:=vs.length) S (p:=0) ho hS (fun i v h=>by rw[hpos i v h];omega) (by rw[hp.length_eq];omega) hv,Nat.sub_zero]
theorem CO (t:Tr)(vs:List Nat):(dC t vs).length<=2 ^ vs.length:=by
 have:=List.length_filter_le (fun m=>evT t (cV vs m fun _=>false)) (List.range (2 ^ vs.length))
 rw[List.length_range]at this
 exact this
def bX:List Nat->(Nat->Bool)->Nat
 |[],_=>0
 |v::vs,x=>(x v).toNat+2 * bX vs x
theorem jO:∀(vs:List Nat) (x:Nat->Bool),bX vs x<2 ^ vs.length
 |[],_=>by simp[bX]
 |v::vs,x=>by
  have:=jO vs x
  have h2:(x v).toNat<=1:=Bool.toNat_le _
  simp only[bX,List.length_cons,Nat.pow_succ]
  omega
def iS (n:Nat):Nat->List Nat->List (Nat×Bool)
 |_,[]=>[]
 |i,v::vs=>(v,n.testBit i)::iS n (i+1) vs
def leG:List (Nat×Bool)->((Nat->Bool)->Bool)->(Nat->Bool)->Bool
 |[],g=>g
 |(v,b)::l,g=>leG l fun x=>if b=true then x v && g x else x v || g x
theorem AV {n:Nat}:∀(vs:List Nat) (i low:Nat) (g:(Nat->Bool)->Bool) (x:Nat->Bool),low<2 ^ i->g x=decide (n % 2 ^ i<=low)->leG (iS n i vs) g x=decide (n % 2 ^ (i+vs.length)<=low+2 ^ i * bX vs x)
 |[],i,low,g,x,_,hg=>by
  simp only[iS,leG,bX,List.length_nil,Nat.add_zero,Nat.mul_zero]
  exact hg
 |v::vs,i,low,g,x,hl,hg=>by
  have hm:n % 2 ^ (i+1)=n % 2 ^ i+2 ^ i * (n.testBit i).toNat:=by
   rw[Nat.mod_pow_succ,Nat.testBit_eq_decide_div_mod_eq]
   rcases Nat.mod_two_eq_zero_or_one (n / 2 ^ i)with e|e<;>simp[e]
  have hlt:n % 2 ^ i<2 ^ i:=Nat.mod_lt _ (Nat.two_pow_pos i)
  have hstep:(if n.testBit i=true then x v && g x else x v || g x)=decide (n % 2 ^ (i+1)<=low+2 ^ i * (x v).toNat):=by
   rw[hm,hg]
   cases hb:n.testBit i<;>cases hx:x v<;>simp<;>omega
  have ih:=AV vs (i+1) (low+2 ^ i * (x v).toNat) (fun x=>if n.testBit i=true then x v && g x else x v || g x) x (by
   rw[Nat.pow_succ]
   have h2:(x v).toNat<=1:=Bool.toNat_le _
   have:2 ^ i * (x v).toNat<=2 ^ i * 1:=Nat.mul_le_mul_left _ h2
   omega) hstep
  simp only[iS,leG,bX,List.length_cons]
  rw[ih,show i+1+vs.length=i+(vs.length+1) by omega]
  congr 2
  rw[Nat.pow_succ,Nat.mul_add,<- Nat.mul_assoc]
  omega
theorem LA {n:Nat}{vs:List Nat}{x:Nat->Bool}(hn:n<2 ^ vs.length):leG (iS n 0 vs) (fun _=>true) x=decide (n<=bX vs x):=by
 rw[AV vs 0 0 _ x (by simp) (by simp[Nat.mod_one])]
 simp[Nat.mod_eq_of_lt hn]
def DepF (S:List Nat)(g:(Nat->Bool)->Bool):Prop:=∀x y,(∀v,v∈S->x v=y v)->g x=g y
theorem DepF.mono {S S':List Nat}{g:(Nat->Bool)->Bool}(h:DepF S g)(hs:∀v,v∈S->v∈S'):DepF S' g:=fun x y he=>h x y fun v hv=>he v (hs v hv)
theorem DepF.hang {n:Nat}{S:List Nat}{g:(Nat->Bool)->Bool}(h:DepF S g)(hs:∀v,v∈S->v<n):ep n g:=fun x y he=>h x y fun v hv=>he v (hs v hv)
theorem oD {n:Nat}{S:List Nat}:∀{t:Tr} {m:Nat},OkT n m t->DepF S (evT t)->InV S t
 |.lf _,_,_,_=>trivial
 |.nd v l h,m,⟨h1,h2,h3,h4,h5⟩,hd=>by
  have hl:DepF S (evT l):=fun x y he=>by
   rw[<- gF (h:=h) h4 x,<- gF (h:=h) h4 y]
   refine hd _ _ fun u hu=>?_
   by_cases e:u=v
   ·subst e;rw[bL,bL]
   ·rw[cN e,cN e];exact he u hu
  have hh:DepF S (evT h):=fun x y he=>by
   rw[<- gG (l:=l) h5 x,<- gG (l:=l) h5 y]
   refine hd _ _ fun u hu=>?_
   by_cases e:u=v
   ·subst e;rw[bL,bL]
   ·rw[cN e,cN e];exact he u hu
  refine⟨?_,oD h4 hl,oD h5 hh⟩
  by_cases e:v∈S
  ·exact e
  ·refine absurd (iu h4 h5 fun x=>?_) h3
   rw[<- gF (h:=h) h4 x,<- gG (l:=l) h5 x]
   refine hd _ _ fun u hu=>?_
   have hne:u≠v:=by rintro rfl;exact e hu
   rw[cN hne,cN hne]
theorem eH {n:Nat}{S:List Nat}{g:(Nat->Bool)->Bool}(hs:∀v,v∈S->v<n)(h:DepF S g):InV S (treeT n g):=by
 refine oD cQ fun x y he=>?_
 rw[bU (h.hang hs),bU (h.hang hs)]
 exact h x y he
theorem jB {n:Nat}{S:List Nat}:∀{t:Tr} {m:Nat},OkT n m t->InV S t->(aL t).length+1<=2 ^ (S.filter fun v=>decide (m<=v)).length
 |.lf _,m,_,_=>by simp only[aL,List.length_nil];exact Nat.one_le_two_pow
 |.nd v l h,m,⟨h1,h2,h3,h4,h5⟩,⟨i1,i2,i3⟩=>by
  have a:=jB h4 i2
  have b:=jB h5 i3
  have hc:(S.filter fun u=>decide (v+1<=u)).length+1<=(S.filter fun u=>decide (m<=u)).length:=by
   clear a b i2 i3
   induction S with
   |nil=>simp at i1
   |cons s S ih=>
    rw[List.filter_cons,List.filter_cons]
    by_cases e:s=v
    ·subst e
     rw[if_neg (by simp),if_pos (by simpa using h1),List.length_cons]
     have:(S.filter fun u=>decide (s+1<=u)).length<=(S.filter fun u=>decide (m<=u)).length:=by
      clear ih i1
      induction S with
      |nil=>simp
      |cons u S ih=>
       rw[List.filter_cons,List.filter_cons]
       by_cases hu:s+1<=u
       ·rw[if_pos (by simpa using hu),if_pos (by simp;omega),List.length_cons,List.length_cons];omega
       ·rw[if_neg (by simpa using hu)]
        split
        ·rw[List.length_cons];omega
        ·exact ih
     omega
    ·have i1':v∈S:=by
      rcases AT.1 i1 with h|h
      ·exact absurd h.symm e
      ·exact h
     have:=ih i1'
     by_cases hs:v+1<=s
     ·rw[if_pos (by simpa using hs),if_pos (by simp;omega),List.length_cons,List.length_cons];omega
     ·rw[if_neg (by simpa using hs)]
      split
      ·rw[List.length_cons];omega
      ·exact this
  simp only[aL,List.length_cons,p_]
  have h6:2 ^ ((S.filter fun u=>decide (v+1<=u)).length+1)<=2 ^ (S.filter fun u=>decide (m<=u)).length:=Nat.pow_le_pow_right (by omega) hc
  rw[Nat.pow_succ]at h6
  omega
theorem se {n:Nat}{S:List Nat}{t:Tr}{m k:Nat}(ho:OkT n m t)(hi:InV S t)(hk:S.length<=k):SubN t (2 ^ k - 1):=by
 refine(SubN.self t).mono ?_
 have h1:=jB ho hi
 have h2:(S.filter fun v=>decide (m<=v)).length<=S.length:=List.length_filter_le _ _
 have h3:2 ^ (S.filter fun v=>decide (m<=v)).length<=2 ^ k:=Nat.pow_le_pow_right (by omega) (by omega)
 omega
theorem di {n:Nat}{S:List Nat}{g:(Nat->Bool)->Bool}{k:Nat}(hs:∀v,v∈S->v<n)(h:DepF S g)(hk:S.length<=k):SubN (treeT n g) (2 ^ k - 1):=se cQ (eH hs h) hk
theorem ll {n:Nat}{f g h:(Nat->Bool)->Bool}(hf:ep n f)(hg:ep n g)(hh:ep n h):iteT n (treeT n f) (treeT n g) (treeT n h)=treeT n fun x=>if f x=true then g x else h x:=by
 refine(bY (m:=0) cQ fun x=>?_)
 have hang:ep n fun x=>if f x=true then g x else h x:=fun x y e=>by simp only;rw[hf x y e,hg x y e,hh x y e]
 rw[bU hang,bU hf,bU hg,bU hh]
theorem d9 {n:Nat}(b:Bool):treeT n (fun _=>b)=.lf b:=bY (m:=0) (t:=.lf b) trivial fun x=>rfl
theorem g8 {n:Nat}{f g:(Nat->Bool)->Bool}(h:∀x,f x=g x):treeT n f=treeT n g:=by rw[funext h]
def cz:List Nat->Nat->List Nat
 |[],_=>[]
 |w::ws,n=>n % 2 ^ w::cz ws (n / 2 ^ w)
theorem tQ:∀{a b:List Nat} {n:Nat} {x:Nat->Bool},cV (a++b) n x=cV b (n / 2 ^ a.length) (cV a n x)
 |[],b,n,x=>by simp[cV]
 |v::a,b,n,x=>by
  simp only[List.cons_append,cV,List.length_cons]
  rw[tQ,Nat.div_div_eq_div_mul,Nat.pow_succ,Nat.mul_comm 2]
theorem iw:∀{vs:List Nat} {m v:Nat} {x:Nat->Bool},v∉vs->cV vs m x v=x v
 |[],_,_,_,_=>rfl
 |u::vs,m,v,x,h=>by
  rw[AT,not_or]at h
  simp only[cV]
  rw[iw h.2,cN h.1]
theorem cO:∀{vs:List Nat} {x y:Nat->Bool},(∀v,v∈vs->x v=y v)->bX vs x=bX vs y
 |[],_,_,_=>rfl
 |v::vs,x,y,h=>by
  simp only[bX]
  rw[h v (by simp),cO fun u hu=>h u (by simp[hu])]
theorem nV:∀{vs:List Nat} {n:Nat} {x:Nat->Bool},vs.Nodup->bX vs (cV vs n x)=n % 2 ^ vs.length
 |[],n,x,_=>by simp[bX,Nat.mod_one]
 |v::vs,n,x,hn=>by
  rw[List.nodup_cons]at hn
  simp only[bX,cV,List.length_cons]
  rw[nV hn.2,iw hn.1,bL,Nat.pow_succ,Nat.mul_comm (2 ^ vs.length) 2,Nat.mod_mul]
  rcases Nat.mod_two_eq_zero_or_one n with e|e<;>simp[e]
theorem Hc:∀{ds:List (List Nat)} {n:Nat} {x:Nat->Bool},ds.flatten.Nodup->ds.map (fun a=>bX a (cV ds.flatten n x))=cz (ds.map (·.length)) n
 |[],_,_,_=>rfl
 |a::ds,n,x,hn=>by
  rw[List.flatten_cons,List.nodup_append]at hn
  obtain⟨h1,h2,h3⟩:=hn
  simp only[List.flatten_cons,List.map_cons,cz]
  rw[tQ]
  congr 1
  ·rw[cO (y:=cV a n x) fun v hv=>iw fun hv'=>h3 v hv v hv' rfl,nV h1]
  ·exact Hc h2
theorem pe:∀{vs:List Nat} {x y:Nat->Bool},vs.Nodup->∀v,v∈vs->cV vs (bX vs x) y v=x v
 |[],_,_,_,v,hv=>by simp at hv
 |u::vs,x,y,hn,v,hv=>by
  rw[List.nodup_cons]at hn
  simp only[bX,cV]
  have hb:(x u).toNat<=1:=Bool.toNat_le _
  have e1:((x u).toNat+2 * bX vs x) / 2=bX vs x:=by omega
  have e2:((x u).toNat+2 * bX vs x) % 2=(x u).toNat:=by omega
  rw[e1,e2]
  by_cases e:v=u
  ·subst e
   rw[iw hn.1,bL]
   cases x v<;>rfl
  ·rcases AT.1 hv with h|h
   ·exact absurd h e
   ·exact pe hn.2 v h
theorem nl:∀{ws:List Nat} {a b:Nat},a<2 ^ ws.sum->b<2 ^ ws.sum->cz ws a=cz ws b->a=b
 |[],a,b,ha,hb,_=>by simp at ha hb;omega
 |w::ws,a,b,ha,hb,h=>by
  simp only[cz,List.cons.injEq]at h
  simp only[List.sum_cons,Nat.pow_add]at ha hb
  have:=nl (ws:=ws) (a:=a / 2 ^ w) (b:=b / 2 ^ w) ((Nat.div_lt_iff_lt_mul (Nat.two_pow_pos w)).2 (by rw[Nat.mul_comm];exact ha)) ((Nat.div_lt_iff_lt_mul (Nat.two_pow_pos w)).2 (by rw[Nat.mul_comm];exact hb)) h.2
  rw[<- Nat.div_add_mod a (2 ^ w),<- Nat.div_add_mod b (2 ^ w),this,h.1]
theorem yL {ds:List (List Nat)}:ds.flatten.length=(ds.map (·.length)).sum:=by
 induction ds with
 |nil=>rfl
 |cons a ds ih=>simp
theorem sj {n:Nat}{t:Tr}{ds:List (List Nat)}(ho:OkT n 0 t)(hi:InV ds.flatten t)(hn:ds.flatten.Nodup){r:List Nat} :
  r∈(dC t ds.flatten).map (cz (ds.map (·.length)))↔∃x,evT t x=true/\r=ds.map fun a=>bX a x:=by
 have dep:∀{t:Tr},InV ds.flatten t->∀x y,(∀v,v∈ds.flatten->x v=y v)->evT t x=evT t y:=by
  intro t
  induction t with
  |lf b=>intro _ x y _;rfl
  |nd v l h il ih=>
   intro⟨h1,h2,h3⟩ x y he
   simp only[evT]
   rw[he v h1,il h2 x y he,ih h3 x y he]
 rw[A_]
 constructor
 ·rintro⟨m,hm,rfl⟩
  rw[fP]at hm
  exact⟨cV ds.flatten m fun _=>false,hm.2,(Hc hn).symm⟩
 ·rintro⟨x,hx,rfl⟩
  refine⟨bX ds.flatten x,?_,?_⟩
  ·rw[fP]
   refine⟨jO _ _,?_⟩
   rw[dep hi _ x fun v hv=>pe hn v hv]
   exact hx
  ·rw[<- Hc (x:=fun _=>false) hn]
   refine List.map_congr_left fun a ha=>cO fun v hv=>pe hn v ?_
   exact List.mem_flatten.2 ⟨a,ha,hv⟩
theorem yd {t:Tr}{ds:List (List Nat)}:((dC t ds.flatten).map (cz (ds.map (·.length)))).Nodup:=by
 have h1:(dC t ds.flatten).Nodup:=(kX t _).imp fun h=>Nat.ne_of_lt h
 have h2:∀m,m∈dC t ds.flatten->m<2 ^ (ds.map (·.length)).sum:=fun m hm=>by
  rw[fP]at hm
  rw[<- yL];exact hm.1
 revert h1 h2
 generalize dC t ds.flatten=L
 intro h1 h2
 refine List.pairwise_map.2 ?_
 exact List.Pairwise.imp_of_mem (fun {a b} ha hb hne e=>hne (nl (h2 a ha) (h2 b hb) e)) h1
noncomputable def walkT (put:Nat->Tr->Tr->Tr):Tr->Tr
 |.lf b=>.lf b
 |.nd v l h=>put v (walkT put l) (walkT put h)
theorem iL {n:Nat}:∀{t:Tr} {m:Nat},OkT n m t->∀x y,(∀i,m<=i->i<n->x i=y i)->evT t x=evT t y
 |.lf b,_,_,_,_,_=>rfl
 |.nd v l h,m,⟨h1,h2,h3,h4,h5⟩,x,y,he=>by
  simp only[evT]
  rw[he v h1 h2,iL h4 x y fun i hi hin=>he i (by omega) hin,iL h5 x y fun i hi hin=>he i (by omega) hin]
theorem x6 {n m:Nat}{g:(Nat->Bool)->Bool}(hg:∀x y,(∀i,m<=i->i<n->x i=y i)->g x=g y):OkT n m (treeT n g):=by
 by_cases hm:m<=n
 ·have hk:n - (n - m)=m:=by omega
  have h1:OkT n m (treeF n (n - m) g):=by
   have:=eM (n:=n) (k:=n - m) (g:=g) (by omega)
   rwa [hk]at this
  have h2:treeT n g=treeF n (n - m) g:=bY h1 fun x=>fK x (by omega) fun x y e=>hg x y fun i hi hin=>e i (by omega) hin
  rw[h2];exact h1
 ·have h2:treeT n g=.lf (g fun _=>false):=bY (m:=0) (t:=.lf (g fun _=>false)) trivial fun x=>hg _ _ fun i hi hin=>by omega
  rw[h2];trivial
theorem Ba {n m:Nat}{a b c:Tr}(ha:OkT n m a)(hb:OkT n m b)(hc:OkT n m c):OkT n m (iteT n a b c):=
 x6 fun x y e=>by rw[iL ha x y e,iL hb x y e,iL hc x y e]
noncomputable def exP (n:Nat)(gone:Nat->Bool)(v:Nat)(a b:Tr):Tr:=if gone v=true then iteT n a (.lf true) b else mkT v a b
noncomputable def exT (n:Nat)(gone:Nat->Bool):Tr->Tr:=walkT (exP n gone)
theorem gE {n:Nat}{gone:Nat->Bool}:∀{t:Tr} {m:Nat},OkT n m t->OkT n m (exT n gone t)
 |.lf b,_,_=>trivial
 |.nd v l h,m,⟨h1,h2,h3,h4,h5⟩=>by
  have a:=gE (gone:=gone) h4
  have b:=gE (gone:=gone) h5
  show OkT n m (exP n gone v (exT n gone l) (exT n gone h))
  unfold exP
  split
  ·exact(Ba (b:=.lf true) a (by exact trivial) b).mono (by omega)
  ·exact ld h1 h2 a b
theorem rr {n:Nat}{gone:Nat->Bool}:∀{t:Tr} {m:Nat},OkT n m t->∀x,evT (exT n gone t) x=true↔∃y,(∀v,gone v=false->y v=x v)/\evT t y=true
 |.lf b,_,_,x=>⟨fun h=>⟨x,fun _ _=>rfl,h⟩,fun⟨y,_,h⟩=>h⟩
 |.nd v l h,m,⟨h1,h2,h3,h4,h5⟩,x=>by
  have il:=rr (gone:=gone) h4 x
  have ih:=rr (gone:=gone) h5 x
  have ol:=(gE (gone:=gone) h4).mono (Nat.zero_le _)
  have oh:=(gE (gone:=gone) h5).mono (Nat.zero_le _)
  show evT (exP n gone v (exT n gone l) (exT n gone h)) x=true↔_
  unfold exP
  have upd:∀{t:Tr} {y:Nat->Bool} {b:Bool},OkT n (v+1) t->evT t (da y v b)=evT t y:=fun {t y b} ht=>iL ht _ _ fun i hi _=>cN (by omega)
  by_cases hg:gone v=true
  ·rw[if_pos hg,mJ (b:=.lf true) ol (by exact trivial) oh]
   have hor:(if evT (exT n gone l) x=true then evT (.lf true) x else evT (exT n gone h) x)=true↔evT (exT n gone l) x=true\/evT (exT n gone h) x=true:=by
    by_cases e:evT (exT n gone l) x=true
    ·rw[if_pos e];exact⟨fun _=>.inl e,fun _=>rfl⟩
    ·rw[if_neg e];exact⟨fun h=>.inr h,fun h=>h.resolve_left e⟩
   rw[hor,il,ih]
   constructor
   ·rintro(⟨y,ha,hy⟩|⟨y,ha,hy⟩)
    ·refine⟨da y v false,fun u hu=>?_,?_⟩
     ·rw[cN (by rintro rfl;rw[hg]at hu;cases hu)];exact ha u hu
     ·simp only[evT,bL,Bool.false_eq_true,if_false]
      rw[upd h4];exact hy
    ·refine⟨da y v true,fun u hu=>?_,?_⟩
     ·rw[cN (by rintro rfl;rw[hg]at hu;cases hu)];exact ha u hu
     ·simp only[evT,bL,if_true]
      rw[upd h5];exact hy
   ·rintro⟨y,ha,hy⟩
    simp only[evT]at hy
    by_cases e:y v=true
    ·rw[if_pos e]at hy;exact .inr ⟨y,ha,hy⟩
    ·rw[if_neg e]at hy;exact .inl ⟨y,ha,hy⟩
  ·rw[if_neg hg,lh]
   have hgf:gone v=false:=by cases h:gone v;rfl;exact absurd h hg
   by_cases e:x v=true
   ·rw[if_pos e,ih]
    constructor
    ·rintro⟨y,ha,hy⟩;exact⟨y,ha,by simp only[evT];rw[ha v hgf,if_pos e];exact hy⟩
    ·rintro⟨y,ha,hy⟩;simp only[evT]at hy;rw[ha v hgf,if_pos e]at hy;exact⟨y,ha,hy⟩
   ·rw[if_neg e,il]
    constructor
    ·rintro⟨y,ha,hy⟩;exact⟨y,ha,by simp only[evT];rw[ha v hgf,if_neg e];exact hy⟩
    ·rintro⟨y,ha,hy⟩;simp only[evT]at hy;rw[ha v hgf,if_neg e]at hy;exact⟨y,ha,hy⟩
open Classical in
noncomputable def exF (gone:Nat->Bool)(f:(Nat->Bool)->Bool)(x:Nat->Bool):Bool:=decide (∃y,(∀v,gone v=false->y v=x v)/\f y=true)
theorem mM {gone:Nat->Bool}{f:(Nat->Bool)->Bool}{x:Nat->Bool}:exF gone f x=true↔∃y,(∀v,gone v=false->y v=x v)/\f y=true:=by simp[exF]
theorem tw {n:Nat}{gone:Nat->Bool}{f:(Nat->Bool)->Bool}(hf:ep n f):exT n gone (treeT n f)=treeT n (exF gone f):=by
 refine(bY (gE cQ) fun x=>?_).symm
 rw[Bool.eq_iff_iff,rr cQ,mM]
 constructor
 ·rintro⟨y,a,b⟩;exact⟨y,a,by rwa [bU hf]at b⟩
 ·rintro⟨y,a,b⟩;exact⟨y,a,by rwa [bU hf]⟩
theorem ER {S:List Nat}{gone:Nat->Bool}{f:(Nat->Bool)->Bool}(hf:DepF S f):DepF (S.filter fun v=>!gone v) (exF gone f):=fun x y e=>by
 have key:∀x y:Nat->Bool,(∀v,v∈S.filter (fun v=>!gone v)->x v=y v)->exF gone f x=true->exF gone f y=true:=fun x y e h=>by
  rw[mM]at h ⊢
  obtain⟨z,ha,hz⟩:=h
  refine⟨fun v=>if gone v=true then z v else y v,fun v hv=>by simp[hv],?_⟩
  refine(hf _ z fun v hv=>?_).trans hz
  by_cases hg:gone v=true
  ·exact if_pos hg
  ·have hgf:gone v=false:=by simpa using hg
   exact(if_neg hg).trans ((e v (List.mem_filter.2 ⟨hv,by simp[hgf]⟩)).symm.trans (ha v hgf).symm)
 rw[Bool.eq_iff_iff]
 exact⟨key x y e,key y x fun v hv=>(e v hv).symm⟩
noncomputable def rnP (n:Nat)(by_:Nat->Nat)(v:Nat)(a b:Tr):Tr:=iteT n (mkT (by_ v) (.lf false) (.lf true)) b a
noncomputable def rnT (n:Nat)(by_:Nat->Nat):Tr->Tr:=walkT (rnP n by_)
theorem nI {n:Nat}{by_:Nat->Nat}:∀{t:Tr},OkT n 0 (rnT n by_ t)
 |.lf b=>trivial
 |.nd v l h=>EI
def rnF (by_:Nat->Nat)(f:(Nat->Bool)->Bool)(x:Nat->Bool):Bool:=f fun v=>x (by_ v)
theorem qS {n:Nat}{by_:Nat->Nat}(hb:∀v,v<n->by_ v<n):∀{t:Tr} {m:Nat},OkT n m t->∀x,evT (rnT n by_ t) x=evT t fun v=>x (by_ v)
 |.lf b,_,_,x=>rfl
 |.nd v l h,m,⟨h1,h2,h3,h4,h5⟩,x=>by
  have il:=qS hb h4 x
  have ih:=qS hb h5 x
  have ol:OkT n 0 (mkT (by_ v) (.lf false) (.lf true)):=ld (Nat.zero_le _) (hb v h2) trivial trivial
  show evT (iteT n (mkT (by_ v) (.lf false) (.lf true)) (rnT n by_ h) (rnT n by_ l)) x=_
  rw[mJ ol nI nI,lh]
  simp only[evT,il,ih]
  by_cases e:x (by_ v)=true
  ·simp[e]
  ·simp[e]
theorem zQ {n:Nat}{by_:Nat->Nat}{f:(Nat->Bool)->Bool}(hb:∀v,v<n->by_ v<n)(hf:ep n f):rnT n by_ (treeT n f)=treeT n (rnF by_ f):=by
 refine(bY nI fun x=>?_).symm
 rw[qS hb cQ,bU hf]
 rfl
theorem qT {S:List Nat}{by_:Nat->Nat}{f:(Nat->Bool)->Bool}(hf:DepF S f):DepF (S.map by_) (rnF by_ f):=fun x y e=>hf _ _ fun v hv=>e _ (List.mem_map_of_mem hv)
def du (c:Nat->Nat):Tr->Nat
 |.lf _=>0
 |.nd v l h=>du c l+du c h+c v
theorem rB {n:Nat}{S:List Nat}{c kk:Nat->Nat}(hc:∀v,c v<=2 ^ kk v+1)(hm:∀p q,p<=q->kk q<=kk p)(hs:∀v,v∈S->kk (v+1)+1<=kk v):∀{t:Tr} {m:Nat},OkT n m t->InV S t->du c t+1<=(kk m+2) * 2 ^ kk m
 |.lf _,m,_,_=>by
  simp only[du]
  have h2:2 * 1<=(kk m+2) * 2 ^ kk m:=Nat.mul_le_mul (by omega) (Nat.two_pow_pos _)
  omega
 |.nd v l h,m,⟨h1,h2,h3,h4,h5⟩,⟨i1,i2,i3⟩=>by
  have a:=rB hc hm hs h4 i2
  have b:=rB hc hm hs h5 i3
  have hcv:=hc v
  have h6:=hs v i1
  have h7:=hm m v h1
  simp only[du]
  generalize kk (v+1)=j at *
  have p1:(j+2) * 2 ^ j * 2<=(kk v+1) * 2 ^ kk v:=by
   have e:(j+2) * 2 ^ j * 2=(j+2) * 2 ^ (j+1):=by rw[Nat.pow_succ,Nat.mul_assoc]
   rw[e]
   exact Nat.mul_le_mul (by omega) (Nat.pow_le_pow_right (by omega) (by omega))
  have p2:(kk v+2) * 2 ^ kk v<=(kk m+2) * 2 ^ kk m:=Nat.mul_le_mul (by omega) (Nat.pow_le_pow_right (by omega) h7)
  have p3:(kk v+2) * 2 ^ kk v=(kk v+1) * 2 ^ kk v+2 ^ kk v:=by
   rw[show kk v+2=(kk v+1)+1 by omega,Nat.add_mul,Nat.one_mul]
  generalize (j+2) * 2 ^ j=x at *
  generalize (kk v+1) * 2 ^ kk v=y at *
  omega
def kkS (S:List Nat)(m:Nat):Nat:=S.countP fun u=>decide (m<=u)
theorem AY {S:List Nat}{p q:Nat}(h:p<=q):kkS S q<=kkS S p:=List.countP_mono_left fun x _ hx=>by simp at hx ⊢;omega
theorem AW {S:List Nat}{v:Nat}(h:v∈S):kkS S (v+1)+1<=kkS S v:=by
 unfold kkS
 induction S with
 |nil=>cases h
 |cons s S ih=>
  rw[List.countP_cons,List.countP_cons]
  have hm:S.countP (fun u=>decide (v+1<=u))<=S.countP (fun u=>decide (v<=u)):=List.countP_mono_left fun x _ hx=>by simp at hx ⊢;omega
  by_cases e:s=v
  ·subst e
   simp only[show ¬ s+1<=s by omega,decide_false,Bool.false_eq_true,if_false,Nat.le_refl,decide_true,if_true]
   omega
  ·have ih':=ih (by rcases AT.1 h with h|h;exact absurd h.symm e;exact h)
   by_cases g:v+1<=s
   ·simp only[g,decide_true,if_true,show v<=s by omega];omega
   ·simp only[g,decide_false,Bool.false_eq_true,if_false,show ¬ v<=s by omega];omega
theorem AZ {S:List Nat}{m:Nat}:kkS S m<=S.length:=List.countP_le_length
end Go.Proofs.YtohnaepcgnbaiaaGreatDoor
