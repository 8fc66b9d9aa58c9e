/- Walks of functions that the claim reaches, and plain facts of them. Conditions: those in the statements. -/
import Derived.Test.YtndlnadbnganeaaGreatDoorJnSoundGj
set_option linter.unusedSimpArgs false
set_option linter.unusedVariables false
namespace Go.Proofs.YtndlnadbnganeaaGreatDoor
def cubT:Tr→List Int→List (List Int)
 |.lf b,w=>if b=true then [w] else []
 |.nd v l h,w=>cubT l (w.set v 0)++cubT h (w.set v 1)
def AgrW (w:List Int)(x:Nat→Bool):Prop:=∀(v:Nat) (c:Int),w[v]?=some c→(c=0→x v=false)∧(c=1→x v=true)
theorem AgrW.set {w:List Int}{x:Nat→Bool}{v:Nat}{b:Bool}(hv:v<w.length)(h2:w[v]?=some 2):AgrW (w.set v (if b then 1 else 0)) x↔AgrW w x∧x v=b:=by
 constructor
 ·intro h
  refine⟨fun u c hu=>?_,?_⟩
  ·by_cases e:u=v
   ·subst e;rw[h2]at hu;injection hu with hu;subst hu;exact⟨fun h=>(by cases h),fun h=>(by cases h)⟩
   ·exact h u c (by rw[List.getElem?_set_ne (Ne.symm e)];exact hu)
  ·have:=h v _ (List.getElem?_set_self hv)
   cases b
   ·exact this.1 rfl
   ·exact this.2 rfl
 ·rintro⟨h,hb⟩ u c hu
  by_cases e:u=v
  ·subst e
   rw[List.getElem?_set_self hv]at hu
   injection hu with hu
   subst hu
   cases b
   ·exact⟨fun _=>hb,fun h=>(by cases h)⟩
   ·exact⟨fun h=>(by cases h),fun _=>hb⟩
  ·rw[List.getElem?_set_ne (Ne.symm e)]at hu
   exact h u c hu
def OpenW (m:Nat)(w:List Int):Prop:=∀v,m≤v→v<w.length→w[v]?=some 2
theorem OpenW.set {m v:Nat}{w:List Int}{c:Int}(h:OpenW m w)(hv:m≤v):OpenW (v+1) (w.set v c):=fun u hu hl=>by
 rw[List.length_set]at hl
 rw[List.getElem?_set_ne (by omega)]
 exact h u (by omega) hl
theorem cubT_mem {n:Nat}:∀{t:Tr} {m:Nat} {w:List Int} {x:Nat→Bool},OkT n m t→w.length=n→OpenW m w→((∃c,c∈cubT t w∧AgrW c x)↔AgrW w x∧evT t x=true)
 |.lf b,m,w,x,_,hw,ho=>by
  simp only[cubT,evT]
  cases b
  ·simp
  ·simp
 |.nd v l h,m,w,x,⟨h1,h2,h3,h4,h5⟩,hw,ho=>by
  have hv2:=ho v h1 (by omega)
  have a:=cubT_mem (x:=x) (w:=w.set v 0) h4 (by rw[List.length_set];exact hw) (ho.set h1)
  have b:=cubT_mem (x:=x) (w:=w.set v 1) h5 (by rw[List.length_set];exact hw) (ho.set h1)
  have sa:=AgrW.set (x:=x) (b:=false) (by omega) hv2
  have sb:=AgrW.set (x:=x) (b:=true) (by omega) hv2
  simp only[Bool.false_eq_true,if_false,if_true]at sa sb
  rw[sa]at a
  rw[sb]at b
  simp only[cubT,evT]
  constructor
  ·rintro⟨c,hc,hx⟩
   rcases List.mem_append.1 hc with hc|hc
   ·obtain⟨⟨k1,k2⟩,k3⟩:=a.1 ⟨c,hc,hx⟩
    exact⟨k1,by rw[k2];simpa using k3⟩
   ·obtain⟨⟨k1,k2⟩,k3⟩:=b.1 ⟨c,hc,hx⟩
    exact⟨k1,by rw[k2];simpa using k3⟩
  ·rintro⟨k1,k2⟩
   by_cases e:x v=true
   ·rw[if_pos e]at k2
    obtain⟨c,hc,hx⟩:=b.2 ⟨⟨k1,e⟩,k2⟩
    exact⟨c,List.mem_append_right _ hc,hx⟩
   ·rw[if_neg e]at k2
    obtain⟨c,hc,hx⟩:=a.2 ⟨⟨k1,by simpa using e⟩,k2⟩
    exact⟨c,List.mem_append_left _ hc,hx⟩
theorem cubT_sub {n:Nat}{t:Tr}{m:Nat}{w:List Int}{c:List Int}(ho:OkT n m t)(hw:w.length=n)(hp:OpenW m w)(hc:c∈cubT t w){x:Nat→Bool}(hx:AgrW c x):AgrW w x∧evT t x=true:=(cubT_mem ho hw hp).1 ⟨c,hc,hx⟩
theorem cubT_apart {n:Nat}:∀{t:Tr} {m:Nat} {w:List Int},OkT n m t→w.length=n→OpenW m w→(cubT t w).Pairwise fun c d=>∀x,AgrW c x→AgrW d x→False
 |.lf b,m,w,_,_,_=>by
  simp only[cubT]
  cases b<;>simp
 |.nd v l h,m,w,⟨h1,h2,h3,h4,h5⟩,hw,ho=>by
  have hv2:=ho v h1 (by omega)
  have sa:=fun x=>AgrW.set (x:=x) (b:=false) (show v<w.length by omega) hv2
  have sb:=fun x=>AgrW.set (x:=x) (b:=true) (show v<w.length by omega) hv2
  simp only[Bool.false_eq_true,if_false,if_true]at sa sb
  simp only[cubT]
  rw[List.pairwise_append]
  refine⟨cubT_apart h4 (by rw[List.length_set];exact hw) (ho.set h1),cubT_apart h5 (by rw[List.length_set];exact hw) (ho.set h1),fun c hc d hd x hx hy=>?_⟩
  have k1:=((sa x).1 (cubT_sub h4 (by rw[List.length_set];exact hw) (ho.set h1) hc hx).1).2
  have k2:=((sb x).1 (cubT_sub h5 (by rw[List.length_set];exact hw) (ho.set h1) hd hy).1).2
  rw[k1]at k2;cases k2
theorem cubT_len {n:Nat}:∀{t:Tr} {m:Nat} {w c:List Int},OkT n m t→w.length=n→c∈cubT t w→c.length=n
 |.lf b,m,w,c,_,hw,hc=>by
  simp only[cubT]at hc
  cases b
  ·simp at hc
  ·simp at hc;subst hc;exact hw
 |.nd v l h,m,w,c,⟨h1,h2,h3,h4,h5⟩,hw,hc=>by
  simp only[cubT]at hc
  rcases List.mem_append.1 hc with hc|hc
  ·exact cubT_len h4 (by rw[List.length_set];exact hw) hc
  ·exact cubT_len h5 (by rw[List.length_set];exact hw) hc
theorem cubT_off {S:List Nat}:∀{t:Tr} {w c:List Int},InV S t→c∈cubT t w→∀v:Nat,v∉S→c[v]?=w[v]?
 |.lf b,w,c,_,hc,v,_=>by
  simp only[cubT]at hc
  cases b
  ·simp at hc
  ·simp at hc;subst hc;rfl
 |.nd u l h,w,c,⟨i1,i2,i3⟩,hc,v,hv=>by
  have hne:u≠v:=by rintro rfl;exact hv i1
  simp only[cubT]at hc
  rcases List.mem_append.1 hc with hc|hc
  ·rw[cubT_off i2 hc v hv,List.getElem?_set_ne hne]
  ·rw[cubT_off i3 hc v hv,List.getElem?_set_ne hne]
def stepE (c:List Int)(i:Nat)(v:Nat)(all:List Nat):List Nat:=all.flatMap fun m=>(if (c[v]?).getD 0≠1 then [m] else [])++(if (c[v]?).getD 0≠0 then [m+2 ^ i] else [])
def expE (c:List Int):Nat→List Nat→List Nat→List Nat
 |_,[],all=>all
 |i,v::vs,all=>expE c (i+1) vs (stepE c i v all)
theorem expE_mem {c:List Int}:∀{vs:List Nat} {i:Nat} {all:List Nat} {m:Nat},m∈expE c i vs all↔∃a k,a∈all∧m=a+2 ^ i * k∧k<2 ^ vs.length∧∀(j:Nat) (v:Nat),vs[j]?=some v→((c[v]?).getD 0=0→k.testBit j=false)∧((c[v]?).getD 0=1→k.testBit j=true)
 |[],i,all,m=>by
  simp only[expE]
  constructor
  ·intro h;exact⟨m,0,h,by simp,by simp,fun j v hv=>by simp at hv⟩
  ·rintro⟨a,k,h1,h2,h3,_⟩
   simp at h3
   subst h3
   simp at h2
   subst h2
   exact h1
 |v::vs,i,all,m=>by
  simp only[expE]
  rw[expE_mem]
  constructor
  ·rintro⟨a,k,h1,h2,h3,h4⟩
   simp only[stepE,List.mem_flatMap,List.mem_append]at h1
   obtain⟨b,hb,h1⟩:=h1
   have bit:∀(d:Nat),d<2→(∀(j u:Nat),(v::vs)[j+1]?=some u→((c[u]?).getD 0=0→(2 * k+d).testBit (j+1)=false)∧((c[u]?).getD 0=1→(2 * k+d).testBit (j+1)=true)):=fun d hd j u hu=>by
    have e:(2 * k+d).testBit (j+1)=k.testBit j:=by rw[Nat.testBit_succ,show (2 * k+d) / 2=k by omega]
    rw[e]
    exact h4 j u (by simpa using hu)
   have lt:∀d,d<2→2 * k+d<2 ^ (v::vs).length:=fun d hd=>by rw[List.length_cons,Nat.pow_succ];omega
   have pw:2 ^ (i+1) * k=2 ^ i * (2 * k):=by rw[Nat.pow_succ,Nat.mul_assoc]
   rcases h1 with h1|h1
   ·split at h1
    ·rename_i hc
     rw[List.mem_singleton]at h1
     subst h1
     refine⟨a,2 * k,hb,by rw[h2,pw],lt 0 (by omega),fun j u hu=>?_⟩
     cases j with
     |zero=>
      simp only[List.getElem?_cons_zero,Option.some.injEq]at hu
      subst hu
      have e:(2 * k).testBit 0=false:=by rw[Nat.testBit_zero];simp
      exact⟨fun _=>e,fun h=>absurd h hc⟩
     |succ j=>exact bit 0 (by omega) j u hu
    ·simp at h1
   ·split at h1
    ·rename_i hc
     rw[List.mem_singleton]at h1
     subst h1
     refine⟨b,2 * k+1,hb,by rw[h2,pw,Nat.mul_add];omega,lt 1 (by omega),fun j u hu=>?_⟩
     cases j with
     |zero=>
      simp only[List.getElem?_cons_zero,Option.some.injEq]at hu
      subst hu
      have e:(2 * k+1).testBit 0=true:=by rw[Nat.testBit_zero];simp
      exact⟨fun h=>absurd h hc,fun _=>e⟩
     |succ j=>exact bit 1 (by omega) j u hu
    ·simp at h1
  ·rintro⟨a,k,h1,h2,h3,h4⟩
   have h0:=h4 0 v rfl
   have hk:k=2 * (k / 2)+k % 2:=by omega
   have hlt:k / 2<2 ^ vs.length:=by rw[List.length_cons,Nat.pow_succ]at h3;omega
   have pw:2 ^ (i+1) * (k / 2)=2 ^ i * (2 * (k / 2)):=by rw[Nat.pow_succ,Nat.mul_assoc]
   have rest:∀(j u:Nat),vs[j]?=some u→((c[u]?).getD 0=0→(k / 2).testBit j=false)∧((c[u]?).getD 0=1→(k / 2).testBit j=true):=fun j u hu=>by
    rw[← Nat.testBit_succ]
    exact h4 (j+1) u (by simpa using hu)
   rw[Nat.testBit_zero]at h0
   rcases Nat.mod_two_eq_zero_or_one k with e|e
   ·refine⟨a,k / 2,?_,by rw[h2,pw];congr 2;omega,hlt,rest⟩
    simp only[stepE,List.mem_flatMap,List.mem_append]
    refine⟨a,h1,.inl ?_⟩
    rw[if_pos (fun h=>by have:=h0.2 h;simp[e]at this)]
    simp
   ·refine⟨a+2 ^ i,k / 2,?_,?_,hlt,rest⟩
    ·simp only[stepE,List.mem_flatMap,List.mem_append]
     refine⟨a,h1,.inr ?_⟩
     rw[if_pos (fun h=>by have:=h0.1 h;simp[e]at this)]
     simp
    ·rw[h2,pw]
     have:k=2 * (k / 2)+1:=by omega
     rw[show 2 ^ i * k=2 ^ i * (2 * (k / 2)+1) from congrArg (2 ^ i * ·) this,Nat.mul_add]
     omega
theorem asgV_at:∀{vs:List Nat} {m j v:Nat} {x:Nat→Bool},vs.Nodup→vs[j]?=some v→asgV vs m x v=m.testBit j
 |[],m,j,v,x,_,h=>by simp at h
 |u::vs,m,0,v,x,hn,h=>by
  simp only[List.getElem?_cons_zero,Option.some.injEq]at h
  subst h
  rw[List.nodup_cons]at hn
  simp only[asgV]
  rw[asgV_off hn.1,updB_same,Nat.testBit_zero]
  rcases Nat.mod_two_eq_zero_or_one m with e|e<;>simp[e]
 |u::vs,m,j+1,v,x,hn,h=>by
  rw[List.nodup_cons]at hn
  simp only[asgV]
  rw[asgV_at hn.2 (by simpa using h),Nat.testBit_succ]
where
 asgV_off:∀{vs:List Nat} {m v:Nat} {x:Nat→Bool},v∉vs→asgV vs m x v=x v
  |[],_,_,_,_=>rfl
  |u::vs,m,v,x,h=>by
   rw[List.mem_cons,not_or]at h
   simp only[asgV]
   rw[asgV_off h.2,updB_ne h.1]
def outE (t:Tr)(w:List Int)(vs:List Nat):List Nat:=(cubT t w).flatMap fun c=>expE c 0 vs [0]
theorem outE_mem {n:Nat}{t:Tr}{vs:List Nat}(ho:OkT n 0 t)(hv:InV vs t)(hn:vs.Nodup)(hlt:∀v,v∈vs→v<n){m:Nat} :
  m∈outE t (List.replicate n 2) vs↔m<2 ^ vs.length∧evT t (asgV vs m fun _=>false)=true:=by
 have hw:(List.replicate n (2:Int)).length=n:=List.length_replicate
 have hop:OpenW 0 (List.replicate n (2:Int)):=fun v _ hl=>by
  rw[List.length_replicate]at hl
  rw[List.getElem?_replicate,if_pos hl]
 have agr:∀x,AgrW (List.replicate n (2:Int)) x:=fun x v c hc=>by
  rw[List.getElem?_replicate]at hc
  split at hc
  ·injection hc with hc;subst hc;exact⟨fun h=>(by cases h),fun h=>(by cases h)⟩
  ·cases hc
 have one:∀c,c∈cubT t (List.replicate n 2)→(m∈expE c 0 vs [0]↔m<2 ^ vs.length∧AgrW c (asgV vs m fun _=>false)):=fun c hc=>by
  have hcl:=cubT_len ho hw hc
  rw[expE_mem]
  constructor
  ·rintro⟨a,k,h1,h2,h3,h4⟩
   rw[List.mem_singleton]at h1
   subst h1
   have:m=k:=by rw[h2];simp
   subst this
   refine⟨h3,fun v c' hc'=>?_⟩
   by_cases hv':v∈vs
   ·obtain⟨j,hj⟩:=List.mem_iff_getElem?.1 hv'
    rw[asgV_at hn hj]
    have:=h4 j v hj
    rw[hc']at this
    exact this
   ·have:=cubT_off hv hc v hv'
    rw[hc',List.getElem?_replicate]at this
    split at this
    ·injection this with this;subst this;exact⟨fun h=>(by cases h),fun h=>(by cases h)⟩
    ·cases this
  ·rintro⟨h1,h2⟩
   refine⟨0,m,by simp,by simp,h1,fun j v hj=>?_⟩
   have hvn:=hlt v (List.mem_of_getElem? hj)
   have hg:c[v]?=some c[v]:=List.getElem?_eq_getElem (by omega)
   have:=h2 v _ hg
   rw[asgV_at hn hj]at this
   rw[hg]
   exact this
 unfold outE
 rw[List.mem_flatMap]
 constructor
 ·rintro⟨c,hc,hm⟩
  obtain⟨h1,h2⟩:=(one c hc).1 hm
  exact⟨h1,(cubT_sub ho hw hop hc h2).2⟩
 ·rintro⟨h1,h2⟩
  obtain⟨c,hc,hx⟩:=(cubT_mem ho hw hop).2 ⟨agr _,h2⟩
  exact⟨c,hc,(one c hc).2 ⟨h1,hx⟩⟩
theorem nodup_flat {α β:Type}{f:α→List β}:∀{l:List α},(∀a,a∈l→(f a).Nodup)→(l.Pairwise fun a b=>∀x,x∈f a→x∈f b→False)→(l.flatMap f).Nodup
 |[],_,_=>by simp
 |a::l,h1,h2=>by
  rw[List.pairwise_cons]at h2
  rw[List.flatMap_cons,List.nodup_append]
  refine⟨h1 a (by simp),nodup_flat (fun b hb=>h1 b (by simp[hb])) h2.2,fun x hx y hy e=>?_⟩
  subst e
  obtain⟨b,hb,hy⟩:=List.mem_flatMap.1 hy
  exact h2.1 b hb x hx hy
theorem stepE_ok {c:List Int}{i v:Nat}{all:List Nat}(hn:all.Nodup)(hl:∀a,a∈all→a<2 ^ i):(stepE c i v all).Nodup∧∀a,a∈stepE c i v all→a<2 ^ (i+1):=by
 constructor
 ·unfold stepE
  refine nodup_flat (fun a ha=>?_) ?_
  ·have hp:0<2 ^ i:=Nat.two_pow_pos i
   split<;>split<;>simp
  ·refine hn.imp_of_mem fun {a b} ha hb hne=>?_
   have h1:=hl a ha
   have h2:=hl b hb
   intro x hx hy
   rw[List.mem_append]at hx hy
   have fx:x=a∨x=a+2 ^ i:=by
    rcases hx with hx|hx
    ·split at hx
     ·exact .inl (List.mem_singleton.1 hx)
     ·simp at hx
    ·split at hx
     ·exact .inr (List.mem_singleton.1 hx)
     ·simp at hx
   have fy:x=b∨x=b+2 ^ i:=by
    rcases hy with hy|hy
    ·split at hy
     ·exact .inl (List.mem_singleton.1 hy)
     ·simp at hy
    ·split at hy
     ·exact .inr (List.mem_singleton.1 hy)
     ·simp at hy
   omega
 ·intro x hx
  simp only[stepE,List.mem_flatMap,List.mem_append]at hx
  obtain⟨a,ha,hx⟩:=hx
  have h1:=hl a ha
  rw[Nat.pow_succ]
  rcases hx with hx|hx
  ·split at hx
   ·rw[List.mem_singleton]at hx;omega
   ·simp at hx
  ·split at hx
   ·rw[List.mem_singleton]at hx;omega
   ·simp at hx
theorem expE_nodup {c:List Int}:∀{vs:List Nat} {i:Nat} {all:List Nat},all.Nodup→(∀a,a∈all→a<2 ^ i)→(expE c i vs all).Nodup
 |[],i,all,hn,_=>hn
 |v::vs,i,all,hn,hl=>by
  obtain⟨h1,h2⟩:=stepE_ok (c:=c) (v:=v) hn hl
  exact expE_nodup (vs:=vs) h1 h2
theorem outE_nodup {n:Nat}{t:Tr}{vs:List Nat}(ho:OkT n 0 t)(hv:InV vs t)(hn:vs.Nodup)(hlt:∀v,v∈vs→v<n):(outE t (List.replicate n 2) vs).Nodup:=by
 have hw:(List.replicate n (2:Int)).length=n:=List.length_replicate
 have hop:OpenW 0 (List.replicate n (2:Int)):=fun v _ hl=>by
  rw[List.length_replicate]at hl
  rw[List.getElem?_replicate,if_pos hl]
 unfold outE
 refine nodup_flat (fun c _=>expE_nodup (by simp) (by simp)) ?_
 refine(cubT_apart ho hw hop).imp_of_mem fun {c d} hc hd hap=>?_
 intro m hm1 hm2
 have one:∀c,c∈cubT t (List.replicate n 2)→m∈expE c 0 vs [0]→AgrW c (asgV vs m fun _=>false):=fun c hc hm=>by
  rw[expE_mem]at hm
  obtain⟨a,k,h1,h2,h3,h4⟩:=hm
  rw[List.mem_singleton]at h1
  subst h1
  have:m=k:=by rw[h2];simp
  subst this
  intro v c' hc'
  by_cases hv':v∈vs
  ·obtain⟨j,hj⟩:=List.mem_iff_getElem?.1 hv'
   rw[asgV_at hn hj]
   have:=h4 j v hj
   rw[hc']at this
   exact this
  ·have:=cubT_off hv hc v hv'
   rw[hc',List.getElem?_replicate]at this
   split at this
   ·injection this with this;subst this;exact⟨fun h=>(by cases h),fun h=>(by cases h)⟩
   ·cases this
 exact hap _ (one c hc hm1) (one d hd hm2)
def satV (t:Tr)(vs:List Nat):List Nat:=(List.range (2 ^ vs.length)).filter fun m=>evT t (asgV vs m fun _=>false)
theorem rise_eqN:∀{a b:List Nat},a.Pairwise (·<·)→b.Pairwise (·<·)→(∀x,x∈a↔x∈b)→a=b
 |[],[],_,_,_=>rfl
 |[],y::b,_,_,h=>absurd ((h y).2 (by simp)) (by simp)
 |x::a,[],_,_,h=>absurd ((h x).1 (by simp)) (by simp)
 |x::a,y::b,ha,hb,h=>by
  rw[List.pairwise_cons]at ha hb
  have e:x=y:=by
   have h1:=(h x).1 (by simp)
   have h2:=(h y).2 (by simp)
   rcases List.mem_cons.1 h1 with h1|h1
   ·exact h1
   ·rcases List.mem_cons.1 h2 with h2|h2
    ·exact h2.symm
    ·have:=hb.1 x h1
     have:=ha.1 y h2
     omega
  subst e
  rw[rise_eqN ha.2 hb.2 fun z=>?_]
  have hz:=h z
  simp only[List.mem_cons]at hz
  constructor
  ·intro hza
   rcases hz.1 (.inr hza)with e|e
   ·subst e;exact absurd (ha.1 z hza) (by omega)
   ·exact e
  ·intro hzb
   rcases hz.2 (.inr hzb)with e|e
   ·subst e;exact absurd (hb.1 z hzb) (by omega)
   ·exact e
theorem satV_rise (t:Tr)(vs:List Nat):(satV t vs).Pairwise (·<·):=List.Pairwise.filter _ List.pairwise_lt_range
theorem satV_mem {t:Tr}{vs:List Nat}{m:Nat}:m∈satV t vs↔m<2 ^ vs.length∧evT t (asgV vs m fun _=>false)=true:=by
 unfold satV
 rw[List.mem_filter,List.mem_range]
theorem satV_of {n:Nat}{t:Tr}{vs:List Nat}(ho:OkT n 0 t)(hv:InV vs t)(hn:vs.Nodup)(hlt:∀v,v∈vs→v<n){l:List Nat}(hp:l.Perm (outE t (List.replicate n 2) vs))(hs:l.Pairwise (·≤·)):l=satV t vs:=by
 refine rise_eqN ?_ (satV_rise t vs) fun x=>?_
 ·have hnd:l.Nodup:=hp.nodup_iff.2 (outE_nodup ho hv hn hlt)
  exact List.Pairwise.imp₂ (fun a b h1 h2=>by omega) hs hnd
 ·rw[hp.mem_iff,outE_mem ho hv hn hlt,satV_mem]
theorem outE_len {n:Nat}{t:Tr}{vs:List Nat}(ho:OkT n 0 t)(hv:InV vs t)(hn:vs.Nodup)(hlt:∀v,v∈vs→v<n):(outE t (List.replicate n 2) vs).length=(satV t vs).length:=
 ((List.perm_ext_iff_of_nodup (outE_nodup ho hv hn hlt) ((satV_rise t vs).imp fun h=>Nat.ne_of_lt h)).2 fun x=>by rw[outE_mem ho hv hn hlt,satV_mem]).length_eq
theorem stepE_pos {c:List Int}{i v:Nat}{all:List Nat}(h:0<all.length):0<(stepE c i v all).length:=by
 cases all with
 |nil=>simp at h
 |cons a all=>
  unfold stepE
  rw[List.flatMap_cons,List.length_append,List.length_append]
  by_cases h1:(c[v]?).getD 0=1
  ·rw[if_neg (by simp[h1]),if_pos (by rw[h1];decide)]
   simp only[List.length_cons,List.length_nil];omega
  ·rw[if_pos h1]
   simp only[List.length_cons,List.length_nil];omega
theorem expE_pos {c:List Int}:∀{vs:List Nat} {i:Nat} {all:List Nat},0<all.length→0<(expE c i vs all).length
 |[],_,_,h=>h
 |v::vs,i,all,h=>expE_pos (vs:=vs) (stepE_pos h)
theorem cubT_le {t:Tr}{w:List Int}{vs:List Nat}:(cubT t w).length≤(outE t w vs).length:=by
 unfold outE
 generalize cubT t w=C
 induction C with
 |nil=>simp
 |cons c C ih=>
  rw[List.flatMap_cons,List.length_append,List.length_cons]
  have:=expE_pos (c:=c) (vs:=vs) (i:=0) (all:=[0]) (by simp)
  omega
theorem satV_cnt {t:Tr}{vs:List Nat}:(satV t vs).length=cntV (evT t) vs fun _=>false:=cntV_asg.symm
theorem satV_T {n:Nat}{pos:Nat→Nat}{t:Tr}{vs S:List Nat}(ho:OkT n 0 t)(hv:InV S t)(hn:vs.Nodup)(hp:vs.Perm S)(hS:SrtV S)(hpos:∀i v,S[i]?=some v→pos v=i):(satV t vs).length=cntT pos vs.length t * 2 ^ levT pos vs.length t:=by
 rw[satV_cnt,cntV_perm hp _ hn,cntT_V (n:=n) (pos:=pos) (W:=vs.length) S (p:=0) ho hS (fun i v h=>by rw[hpos i v h];omega) (by rw[hp.length_eq];omega) hv,Nat.sub_zero]
theorem satV_le (t:Tr)(vs:List Nat):(satV t vs).length≤2 ^ vs.length:=by
 have:=List.length_filter_le (fun m=>evT t (asgV vs m fun _=>false)) (List.range (2 ^ vs.length))
 rw[List.length_range]at this
 exact this
def numA:List Nat→(Nat→Bool)→Nat
 |[],_=>0
 |v::vs,x=>(x v).toNat+2 * numA vs x
theorem numA_lt:∀(vs:List Nat) (x:Nat→Bool),numA vs x<2 ^ vs.length
 |[],_=>by simp[numA]
 |v::vs,x=>by
  have:=numA_lt vs x
  have h2:(x v).toNat≤1:=Bool.toNat_le _
  simp only[numA,List.length_cons,Nat.pow_succ]
  omega
def zipB (n:Nat):Nat→List Nat→List (Nat×Bool)
 |_,[]=>[]
 |i,v::vs=>(v,n.testBit i)::zipB n (i+1) vs
def leG:List (Nat×Bool)→((Nat→Bool)→Bool)→(Nat→Bool)→Bool
 |[],g=>g
 |(v,b)::l,g=>leG l fun x=>if b=true then x v && g x else x v || g x
theorem leG_ev {n:Nat}:∀(vs:List Nat) (i low:Nat) (g:(Nat→Bool)→Bool) (x:Nat→Bool),low<2 ^ i→g x=decide (n % 2 ^ i≤low)→leG (zipB n i vs) g x=decide (n % 2 ^ (i+vs.length)≤low+2 ^ i * numA vs x)
 |[],i,low,g,x,_,hg=>by
  simp only[zipB,leG,numA,List.length_nil,Nat.add_zero,Nat.mul_zero]
  exact hg
 |v::vs,i,low,g,x,hl,hg=>by
  have hm:n % 2 ^ (i+1)=n % 2 ^ i+2 ^ i * (n.testBit i).toNat:=by
   rw[Nat.mod_pow_succ,Nat.testBit_eq_decide_div_mod_eq]
   rcases Nat.mod_two_eq_zero_or_one (n / 2 ^ i)with e|e<;>simp[e]
  have hlt:n % 2 ^ i<2 ^ i:=Nat.mod_lt _ (Nat.two_pow_pos i)
  have hstep:(if n.testBit i=true then x v && g x else x v || g x)=decide (n % 2 ^ (i+1)≤low+2 ^ i * (x v).toNat):=by
   rw[hm,hg]
   cases hb:n.testBit i<;>cases hx:x v<;>simp<;>omega
  have ih:=leG_ev vs (i+1) (low+2 ^ i * (x v).toNat) (fun x=>if n.testBit i=true then x v && g x else x v || g x) x (by
   rw[Nat.pow_succ]
   have h2:(x v).toNat≤1:=Bool.toNat_le _
   have:2 ^ i * (x v).toNat≤2 ^ i * 1:=Nat.mul_le_mul_left _ h2
   omega) hstep
  simp only[zipB,leG,numA,List.length_cons]
  rw[ih,show i+1+vs.length=i+(vs.length+1) by omega]
  congr 2
  rw[Nat.pow_succ,Nat.mul_add,← Nat.mul_assoc]
  omega
theorem leG_ge {n:Nat}{vs:List Nat}{x:Nat→Bool}(hn:n<2 ^ vs.length):leG (zipB n 0 vs) (fun _=>true) x=decide (n≤numA vs x):=by
 rw[leG_ev vs 0 0 _ x (by simp) (by simp[Nat.mod_one])]
 simp[Nat.mod_eq_of_lt hn]
def DepF (S:List Nat)(g:(Nat→Bool)→Bool):Prop:=∀x y,(∀v,v∈S→x v=y v)→g x=g y
theorem DepF.mono {S S':List Nat}{g:(Nat→Bool)→Bool}(h:DepF S g)(hs:∀v,v∈S→v∈S'):DepF S' g:=fun x y he=>h x y fun v hv=>he v (hs v hv)
theorem DepF.hang {n:Nat}{S:List Nat}{g:(Nat→Bool)→Bool}(h:DepF S g)(hs:∀v,v∈S→v<n):Hang n g:=fun x y he=>h x y fun v hv=>he v (hs v hv)
theorem inV_of {n:Nat}{S:List Nat}:∀{t:Tr} {m:Nat},OkT n m t→DepF S (evT t)→InV S t
 |.lf _,_,_,_=>trivial
 |.nd v l h,m,⟨h1,h2,h3,h4,h5⟩,hd=>by
  have hl:DepF S (evT l):=fun x y he=>by
   rw[← evT_lo (h:=h) h4 x,← evT_lo (h:=h) h4 y]
   refine hd _ _ fun u hu=>?_
   by_cases e:u=v
   ·subst e;rw[updB_same,updB_same]
   ·rw[updB_ne e,updB_ne e];exact he u hu
  have hh:DepF S (evT h):=fun x y he=>by
   rw[← evT_hi (l:=l) h5 x,← evT_hi (l:=l) h5 y]
   refine hd _ _ fun u hu=>?_
   by_cases e:u=v
   ·subst e;rw[updB_same,updB_same]
   ·rw[updB_ne e,updB_ne e];exact he u hu
  refine⟨?_,inV_of h4 hl,inV_of h5 hh⟩
  by_cases e:v∈S
  ·exact e
  ·refine absurd (canonT h4 h5 fun x=>?_) h3
   rw[← evT_lo (h:=h) h4 x,← evT_hi (l:=l) h5 x]
   refine hd _ _ fun u hu=>?_
   have hne:u≠v:=by rintro rfl;exact e hu
   rw[updB_ne hne,updB_ne hne]
theorem treeT_inV {n:Nat}{S:List Nat}{g:(Nat→Bool)→Bool}(hs:∀v,v∈S→v<n)(h:DepF S g):InV S (treeT n g):=by
 refine inV_of treeT_ok fun x y he=>?_
 rw[treeT_ev (h.hang hs),treeT_ev (h.hang hs)]
 exact h x y he
theorem subs_dep {n:Nat}{S:List Nat}:∀{t:Tr} {m:Nat},OkT n m t→InV S t→(subsT t).length+1≤2 ^ (S.filter fun v=>decide (m≤v)).length
 |.lf _,m,_,_=>by simp only[subsT,List.length_nil];exact Nat.one_le_two_pow
 |.nd v l h,m,⟨h1,h2,h3,h4,h5⟩,⟨i1,i2,i3⟩=>by
  have a:=subs_dep h4 i2
  have b:=subs_dep h5 i3
  have hc:(S.filter fun u=>decide (v+1≤u)).length+1≤(S.filter fun u=>decide (m≤u)).length:=by
   clear a b i2 i3
   induction S with
   |nil=>simp at i1
   |cons s S ih=>
    rw[List.filter_cons,List.filter_cons]
    by_cases e:s=v
    ·subst e
     rw[if_neg (by simp),if_pos (by simpa using h1),List.length_cons]
     have:(S.filter fun u=>decide (s+1≤u)).length≤(S.filter fun u=>decide (m≤u)).length:=by
      clear ih i1
      induction S with
      |nil=>simp
      |cons u S ih=>
       rw[List.filter_cons,List.filter_cons]
       by_cases hu:s+1≤u
       ·rw[if_pos (by simpa using hu),if_pos (by simp;omega),List.length_cons,List.length_cons];omega
       ·rw[if_neg (by simpa using hu)]
        split
        ·rw[List.length_cons];omega
        ·exact ih
     omega
    ·have i1':v∈S:=by
      rcases List.mem_cons.1 i1 with h|h
      ·exact absurd h.symm e
      ·exact h
     have:=ih i1'
     by_cases hs:v+1≤s
     ·rw[if_pos (by simpa using hs),if_pos (by simp;omega),List.length_cons,List.length_cons];omega
     ·rw[if_neg (by simpa using hs)]
      split
      ·rw[List.length_cons];omega
      ·exact this
  simp only[subsT,List.length_cons,List.length_append]
  have h6:2 ^ ((S.filter fun u=>decide (v+1≤u)).length+1)≤2 ^ (S.filter fun u=>decide (m≤u)).length:=Nat.pow_le_pow_right (by omega) hc
  rw[Nat.pow_succ]at h6
  omega
theorem subN_dep {n:Nat}{S:List Nat}{t:Tr}{m k:Nat}(ho:OkT n m t)(hi:InV S t)(hk:S.length≤k):SubN t (2 ^ k - 1):=by
 refine(SubN.self t).mono ?_
 have h1:=subs_dep ho hi
 have h2:(S.filter fun v=>decide (m≤v)).length≤S.length:=List.length_filter_le _ _
 have h3:2 ^ (S.filter fun v=>decide (m≤v)).length≤2 ^ k:=Nat.pow_le_pow_right (by omega) (by omega)
 omega
theorem subN_tree {n:Nat}{S:List Nat}{g:(Nat→Bool)→Bool}{k:Nat}(hs:∀v,v∈S→v<n)(h:DepF S g)(hk:S.length≤k):SubN (treeT n g) (2 ^ k - 1):=subN_dep treeT_ok (treeT_inV hs h) hk
theorem iteT_tree {n:Nat}{f g h:(Nat→Bool)→Bool}(hf:Hang n f)(hg:Hang n g)(hh:Hang n h):iteT n (treeT n f) (treeT n g) (treeT n h)=treeT n fun x=>if f x=true then g x else h x:=by
 refine(treeT_eq (m:=0) treeT_ok fun x=>?_)
 have hang:Hang n fun x=>if f x=true then g x else h x:=fun x y e=>by simp only;rw[hf x y e,hg x y e,hh x y e]
 rw[treeT_ev hang,treeT_ev hf,treeT_ev hg,treeT_ev hh]
theorem treeT_const {n:Nat}(b:Bool):treeT n (fun _=>b)=.lf b:=treeT_eq (m:=0) (t:=.lf b) trivial fun x=>rfl
theorem treeT_congr {n:Nat}{f g:(Nat→Bool)→Bool}(h:∀x,f x=g x):treeT n f=treeT n g:=by rw[funext h]
def splitW:List Nat→Nat→List Nat
 |[],_=>[]
 |w::ws,n=>n % 2 ^ w::splitW ws (n / 2 ^ w)
theorem asgV_app:∀{a b:List Nat} {n:Nat} {x:Nat→Bool},asgV (a++b) n x=asgV b (n / 2 ^ a.length) (asgV a n x)
 |[],b,n,x=>by simp[asgV]
 |v::a,b,n,x=>by
  simp only[List.cons_append,asgV,List.length_cons]
  rw[asgV_app,Nat.div_div_eq_div_mul,Nat.pow_succ,Nat.mul_comm 2]
theorem asgV_out:∀{vs:List Nat} {m v:Nat} {x:Nat→Bool},v∉vs→asgV vs m x v=x v
 |[],_,_,_,_=>rfl
 |u::vs,m,v,x,h=>by
  rw[List.mem_cons,not_or]at h
  simp only[asgV]
  rw[asgV_out h.2,updB_ne h.1]
theorem numA_congr:∀{vs:List Nat} {x y:Nat→Bool},(∀v,v∈vs→x v=y v)→numA vs x=numA vs y
 |[],_,_,_=>rfl
 |v::vs,x,y,h=>by
  simp only[numA]
  rw[h v (by simp),numA_congr fun u hu=>h u (by simp[hu])]
theorem numA_asg:∀{vs:List Nat} {n:Nat} {x:Nat→Bool},vs.Nodup→numA vs (asgV vs n x)=n % 2 ^ vs.length
 |[],n,x,_=>by simp[numA,Nat.mod_one]
 |v::vs,n,x,hn=>by
  rw[List.nodup_cons]at hn
  simp only[numA,asgV,List.length_cons]
  rw[numA_asg hn.2,asgV_out hn.1,updB_same,Nat.pow_succ,Nat.mul_comm (2 ^ vs.length) 2,Nat.mod_mul]
  rcases Nat.mod_two_eq_zero_or_one n with e|e<;>simp[e]
theorem rowA:∀{ds:List (List Nat)} {n:Nat} {x:Nat→Bool},ds.flatten.Nodup→ds.map (fun a=>numA a (asgV ds.flatten n x))=splitW (ds.map (·.length)) n
 |[],_,_,_=>rfl
 |a::ds,n,x,hn=>by
  rw[List.flatten_cons,List.nodup_append]at hn
  obtain⟨h1,h2,h3⟩:=hn
  simp only[List.flatten_cons,List.map_cons,splitW]
  rw[asgV_app]
  congr 1
  ·rw[numA_congr (y:=asgV a n x) fun v hv=>asgV_out fun hv'=>h3 v hv v hv' rfl,numA_asg h1]
  ·exact rowA h2
theorem asgV_num:∀{vs:List Nat} {x y:Nat→Bool},vs.Nodup→∀v,v∈vs→asgV vs (numA vs x) y v=x v
 |[],_,_,_,v,hv=>by simp at hv
 |u::vs,x,y,hn,v,hv=>by
  rw[List.nodup_cons]at hn
  simp only[numA,asgV]
  have hb:(x u).toNat≤1:=Bool.toNat_le _
  have e1:((x u).toNat+2 * numA vs x) / 2=numA vs x:=by omega
  have e2:((x u).toNat+2 * numA vs x) % 2=(x u).toNat:=by omega
  rw[e1,e2]
  by_cases e:v=u
  ·subst e
   rw[asgV_out hn.1,updB_same]
   cases x v<;>rfl
  ·rcases List.mem_cons.1 hv with h|h
   ·exact absurd h e
   ·exact asgV_num hn.2 v h
theorem splitW_inj:∀{ws:List Nat} {a b:Nat},a<2 ^ ws.sum→b<2 ^ ws.sum→splitW ws a=splitW ws b→a=b
 |[],a,b,ha,hb,_=>by simp at ha hb;omega
 |w::ws,a,b,ha,hb,h=>by
  simp only[splitW,List.cons.injEq]at h
  simp only[List.sum_cons,Nat.pow_add]at ha hb
  have:=splitW_inj (ws:=ws) (a:=a / 2 ^ w) (b:=b / 2 ^ w) ((Nat.div_lt_iff_lt_mul (Nat.two_pow_pos w)).2 (by rw[Nat.mul_comm];exact ha)) ((Nat.div_lt_iff_lt_mul (Nat.two_pow_pos w)).2 (by rw[Nat.mul_comm];exact hb)) h.2
  rw[← Nat.div_add_mod a (2 ^ w),← Nat.div_add_mod b (2 ^ w),this,h.1]
theorem flat_lenD {ds:List (List Nat)}:ds.flatten.length=(ds.map (·.length)).sum:=by
 induction ds with
 |nil=>rfl
 |cons a ds ih=>simp
theorem sat_rows {n:Nat}{t:Tr}{ds:List (List Nat)}(ho:OkT n 0 t)(hi:InV ds.flatten t)(hn:ds.flatten.Nodup){r:List Nat} :
  r∈(satV t ds.flatten).map (splitW (ds.map (·.length)))↔∃x,evT t x=true∧r=ds.map fun a=>numA a x:=by
 have dep:∀{t:Tr},InV ds.flatten t→∀x y,(∀v,v∈ds.flatten→x v=y v)→evT t x=evT t y:=by
  intro t
  induction t with
  |lf b=>intro _ x y _;rfl
  |nd v l h il ih=>
   intro⟨h1,h2,h3⟩ x y he
   simp only[evT]
   rw[he v h1,il h2 x y he,ih h3 x y he]
 rw[List.mem_map]
 constructor
 ·rintro⟨m,hm,rfl⟩
  rw[satV_mem]at hm
  exact⟨asgV ds.flatten m fun _=>false,hm.2,(rowA hn).symm⟩
 ·rintro⟨x,hx,rfl⟩
  refine⟨numA ds.flatten x,?_,?_⟩
  ·rw[satV_mem]
   refine⟨numA_lt _ _,?_⟩
   rw[dep hi _ x fun v hv=>asgV_num hn v hv]
   exact hx
  ·rw[← rowA (x:=fun _=>false) hn]
   refine List.map_congr_left fun a ha=>numA_congr fun v hv=>asgV_num hn v ?_
   exact List.mem_flatten.2 ⟨a,ha,hv⟩
theorem sat_nodup {t:Tr}{ds:List (List Nat)}:((satV t ds.flatten).map (splitW (ds.map (·.length)))).Nodup:=by
 have h1:(satV t ds.flatten).Nodup:=(satV_rise t _).imp fun h=>Nat.ne_of_lt h
 have h2:∀m,m∈satV t ds.flatten→m<2 ^ (ds.map (·.length)).sum:=fun m hm=>by
  rw[satV_mem]at hm
  rw[← flat_lenD];exact hm.1
 revert h1 h2
 generalize satV t ds.flatten=L
 intro h1 h2
 refine List.pairwise_map.2 ?_
 exact List.Pairwise.imp_of_mem (fun {a b} ha hb hne e=>hne (splitW_inj (h2 a ha) (h2 b hb) e)) h1
end Go.Proofs.YtndlnadbnganeaaGreatDoor
