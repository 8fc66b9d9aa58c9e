/- Walks of functions that the claim reaches, and plain facts of them. Conditions: those in the statements. -/
import Derived.Test.YtohnaepcgnbaiaaGreatDoorJjSoundCj
import Derived.Lib.Strings
import Derived.MapKept
import Derived.Test.YtohnaepcgnbaiaaGreatDoorJjQmj
import Derived.Test.YtohnaepcgnbaiaaGreatDoorJjIterj
set_option linter.unusedSimpArgs false
set_option linter.unusedVariables false
namespace Go.Proofs.YtohnaepcgnbaiaaGreatDoor
open Go.RowKit
section
variable {P : Program} {N : Nat} {w0 w w' : World} {G G' : Gh} {s s' : St}
theorem keyEq_now {kd:TypeDesc}{a b:Value}{x y:VV}{t:Bool}(hk:kfit (qkOf kd) x=true)(ha:R G a x)(hb:R G b y)(h:keyEq x y=some t) :
  Instr.sameNow kd a b=some t:=by
 unfold keyEq at h
 split at h
 ·simp only[Option.some.injEq]at h
  subst h
  cases ha with
  |str a=>
   cases hb with
   |str b=>
    cases kd<;>simp[qkOf,kfit]at hk
    simp only[Instr.sameNow,Option.some.injEq]
    rw[Bool.eq_iff_iff,MapKept.bytes_beq,decide_eq_true_eq]
    constructor
    ·intro e;injection e with e;rw[e]
    ·intro e;rw[Array.toList_inj.1 e]
 ·rename_i k x k' y
  split at h
  ·rename_i e
   subst e
   simp only[Option.some.injEq]at h
   subst h
   cases ha
   cases hb
   cases kd<;>simp[qkOf,kfit]at hk
   simp only[Instr.sameNow,if_true,Option.some.injEq]
   rw[Bool.eq_iff_iff,beq_iff_eq,decide_eq_true_eq]
  ·cases h
 ·cases h
def RM (G:Gh)(es:List MapEntry)(xs:List (VV×VV)):Prop:=
 es.length=xs.length∧∀(i:Nat) (k x:VV),xs[i]?=some (k,x)→∃e,es[i]?=some e∧R G e.key k∧R G e.val x
theorem RM.tail {e:MapEntry}{es:List MapEntry}{x:VV×VV}{xs:List (VV×VV)}(h:RM G (e::es) (x::xs)):RM G es xs:=
 ⟨by have:=h.1;simpa using this,fun i k y hi=>by simpa using h.2 (i+1) k y (by simpa using hi)⟩
theorem RM.head {e:MapEntry}{es:List MapEntry}{k x:VV}{xs:List (VV×VV)}(h:RM G (e::es) ((k,x)::xs)):R G e.key k∧R G e.val x:=by
 obtain⟨e',he,h1,h2⟩:=h.2 0 k x rfl
 simp at he
 subst he
 exact⟨h1,h2⟩
theorem run_mget {kd:TypeDesc}{a:Value}{x:VV}(hk:kfit (qkOf kd) x=true)(ha:R G a x) :
  ∀(xs:List (VV×VV)) (es:List MapEntry) (n:Nat) (r:Option VV),RM G es xs→mget x xs=some r →
   ∃q,Instr.findNow kd a es n=some q∧(match r,q with|some y,some (_,v)=>R G v y|none,none=>True|_,_=>False)
 |[],[],n,r,_,h=>by
  simp only[mget,Option.some.injEq]at h
  subst h
  exact⟨none,rfl,trivial⟩
 |[],e::es,n,r,hm,_=>by have:=hm.1;simp at this
 |y::xs,[],n,r,hm,_=>by have:=hm.1;simp at this
 |(k,y)::xs,e::es,n,r,hm,h=>by
  obtain⟨h1,h2⟩:=hm.head
  simp only[mget]at h
  cases hq:keyEq x k with
  |none=>simp[hq]at h
  |some t=>
   have hn:=keyEq_now hk ha h1 hq
   cases t with
   |true=>
    simp only[hq,Option.some.injEq]at h
    subst h
    exact⟨some (n,e.val),by simp[Instr.findNow,hn],h2⟩
   |false=>
    simp only[hq]at h
    obtain⟨q,hq',hr⟩:=run_mget hk ha xs es (n+1) r hm.tail h
    exact⟨q,by simp[Instr.findNow,hn,hq'],hr⟩
theorem run_checkKey {T:TypeId}{kd:TypeDesc}{x:VV}{a:Value}(hd:P.underlying T=some kd)(hk:kfit (qkOf kd) x=true)(b:Bool)(n:Nat) :
  (Instr.checkKey b (n+1) T a).run P w=.ok () w:=by
 cases kd<;>simp[qkOf,kfit]at hk<;>simp[Instr.checkKey,run_underlying hd]
theorem kind_key {T:TypeId}{x:VV}(hk:kfit (qi P T).k x=true) :
  ∃kd,P.underlying T=some kd∧kfit (qkOf kd) x=true:=by
 obtain⟨d,i,hd,hi,hkT,_⟩:=qi_spec (P:=P) T (.inr (.inl (by intro e;rw[e]at hk;cases x<;>simp[kfit]at hk)))
 exact⟨d,hd,by rw[hkT]at hk;exact hk⟩
theorem run_vlookup {T:TypeId}{m key:Value}{x k y:VV}{ok:Bool}(hS:Sim w0 G w s)(hm:R G m x)(hkey:R G key k)
  (h:vlookup (qi P T) (qi P (elemT (qi P T))) (qi P (keyT (qi P T))) x k ok s=some y):∃v,(Instr.lookup T m key ok).run P w=.ok v w∧R G v y:=by
 unfold vlookup at h
 split at h
 ·rename_i kt et b hk
  split at h
  ·rename_i es hb hkk
   have ho:=hS.ok b
   rw[hb]at ho
   obtain⟨_,c,clock,hh,hsz,hrel⟩:=ho
   have hd:=kind_map hk
   have hek:elemT (qi P T)=et:=by simp[elemT,hk]
   have hkt:keyT (qi P T)=kt:=by simp[keyT,hk]
   rw[hek]at h
   rw[hkt]at hkk
   obtain⟨kd,hkd,hkk'⟩:=kind_key (P:=P) hkk
   cases hm
   have hRM:RM G c.toList es:=⟨by simpa using hsz.1,fun i k x hi=>by simpa using hrel i k x hi⟩
   have hget:(getObj b).run P w=.ok (.map c clock) w:=by simp[getObj,Sem.run,hh]
   cases hg:mget k es with
   |none=>simp[hg]at h
   |some r=>
    obtain⟨q,hq,hr⟩:=run_mget hkk' hkey es c.toList 0 r hRM hg
    cases r with
    |some z=>
     simp only[hg,Option.some.injEq]at h
     cases q with
     |none=>exact hr.elim
     |some q=>
      obtain⟨n,v⟩:=q
      subst h
      refine⟨if ok then .tuple #[v,.bool true] else v,?_,?_⟩
      ·unfold Instr.lookup
       simp only[Sem.run_bind,run_underlying hd,Result.andThen_ok,hget,Sem.run_pure,run_checkKey hkd hkk',Instr.findKey,run_underlying hkd,hq]
      ·cases ok with
       |true=>exact .tup _ _ rfl (fun j v y hv hy=>by
         match j with
         |0=>simp at hv hy;subst hv;subst hy;exact hr
         |1=>simp at hv hy;subst hv;subst hy;exact .bool _
         |j+2=>simp at hv)
       |false=>exact hr
    |none=>
     cases q with
     |some q=>exact hr.elim
     |none=>
      simp only[hg]at h
      cases hz:vzero (qi P et)with
      |none=>simp[hz]at h
      |some z=>
       simp only[hz,Option.map_some,Option.some.injEq]at h
       subst h
       unfold vzero at hz
       split at hz
       ·rename_i hzok
        obtain⟨zv,i,d,hi,hde,hke,hs,hzz,hpos,hzs,⟨hag,hnt⟩,hrl⟩:=RLs.zero (P:=P) (G:=G) hzok
        have hzr:R G zv z:=by
         rw[hke]at hz
         cases hd':(qkOf d).agg with
         |true=>
          rw[hd']at hz hag
          simp only[if_true,Option.some.injEq]at hz
          subst hz
          have hone:zv.oneCell'=false:=by cases h:zv.oneCell'<;>simp[h]at hag ⊢
          cases zv with
          |agg cs=>exact .agg cs _ hrl.1 hrl.2.1 hrl.2.2
          |tuple vs=>simp[notTup]at hnt
          |_=>simp[Value.oneCell']at hone
         |false=>
          rw[hd']at hz hag
          simp only[Bool.false_eq_true,if_false]at hz
          have hone:zv.oneCell'=true:=by cases h:zv.oneCell'<;>simp[h]at hag ⊢
          have hc:zv.cells=#[zv]:=by cases zv<;>first|rfl|(simp[Value.oneCell']at hone)
          exact hrl.2.2 0 zv z (by rw[hc];rfl) hz
        refine⟨if ok then .tuple #[zv,.bool false] else zv,?_,?_⟩
        ·unfold Instr.lookup
         simp only[Sem.run_bind,run_underlying hd,Result.andThen_ok,hget,Sem.run_pure,run_checkKey hkd hkk',Instr.findKey,run_underlying hkd,hq,zeroValue,typeInfo,run_program,hi,hzz]
        ·cases ok with
         |true=>exact .tup _ _ rfl (fun j v y hv hy=>by
           match j with
           |0=>simp at hv hy;subst hv;subst hy;exact hzr
           |1=>simp at hv hy;subst hv;subst hy;exact .bool _
           |j+2=>simp at hv)
         |false=>exact hzr
       ·cases hz
  ·cases h
 ·cases h
theorem key_diff {x k:VV}{a b:Value}(hq:keyEq x k=some false)(ha:R G a x)(hb:R G b k):b≠a:=by
 rintro rfl
 unfold keyEq at hq
 split at hq
 ·rename_i s t
  simp only[Option.some.injEq,decide_eq_false_iff_not]at hq
  generalize h1:VV.str s=u at ha
  cases ha<;>cases h1
  generalize h2:VV.str t=u2 at hb
  cases hb<;>first|(cases h2;exact hq rfl)|cases h2
 ·rename_i k1 m k2 m2
  split at hq
  ·simp only[Option.some.injEq,decide_eq_false_iff_not]at hq
   generalize h1:VV.int k1 m=u at ha
   cases ha<;>cases h1
   cases hb
   exact hq rfl
  ·cases hq
 ·cases hq
theorem key_one {x:VV}{a b:Value}{kd:TypeDesc}(hk:kfit (qkOf kd) x=true)(ha:R G a x)(hb:R G b x):a=b:=by
 cases x with
 |int k n=>cases ha;cases hb;rfl
 |str l=>
  generalize hl:l=l' at hb
  cases ha with
  |str a=>
   cases hb with
   |str b=>
    obtain rfl:a=b:=Array.toList_inj.1 hl
    rfl
 |_=>cases kd<;>simp[qkOf,kfit]at hk
theorem run_mput {kd:TypeDesc}{a v:Value}{x y:VV}(hk:kfit (qkOf kd) x=true)(ha:R G a x)(hv:R G v y) :
  ∀(xs:List (VV×VV)) (es:List MapEntry) (n:Nat) (zs:List (VV×VV)),RM G es xs→mput x y xs=some zs →
   (∃i u,Instr.findNow kd a es n=some (some (n+i,u))∧∃e,es[i]?=some e∧R G e.key x∧∀born,RM G (es.set i ⟨a,v,born⟩) zs)∨(Instr.findNow kd a es n=some none∧(∀e,e∈es→e.key≠a)∧∀born,RM G (es++[⟨a,v,born⟩]) zs)
 |[],[],n,zs,_,h=>by
  simp only[mput,Option.some.injEq]at h
  subst h
  refine .inr ⟨rfl,(fun e he=>by cases he),fun born=>⟨rfl,fun i k z hi=>?_⟩⟩
  cases i with
  |zero=>simp at hi;obtain⟨rfl,rfl⟩:=hi;exact⟨_,rfl,ha,hv⟩
  |succ i=>simp at hi
 |[],e::es,n,r,hm,_=>by have:=hm.1;simp at this
 |y::xs,[],n,r,hm,_=>by have:=hm.1;simp at this
 |(k,z)::xs,e::es,n,zs,hm,h=>by
  obtain⟨h1,h2⟩:=hm.head
  simp only[mput]at h
  cases hq:keyEq x k with
  |none=>simp[hq]at h
  |some t=>
   have hn:=keyEq_now hk ha h1 hq
   cases t with
   |true=>
    simp only[hq,Option.some.injEq]at h
    subst h
    have hxk:R G e.key x:=by
     unfold keyEq at hq
     split at hq
     ·simp at hq;subst hq;exact h1
     ·split at hq
      ·rename_i e';subst e';simp at hq;subst hq;exact h1
      ·cases hq
     ·cases hq
    refine .inl ⟨0,e.val,by simp[Instr.findNow,hn],e,rfl,hxk,fun born=>⟨by simpa using hm.tail.1,fun i k' z' hi=>?_⟩⟩
    cases i with
    |zero=>simp at hi;obtain⟨rfl,rfl⟩:=hi;exact⟨_,rfl,ha,hv⟩
    |succ i=>simpa using hm.tail.2 i k' z' (by simpa using hi)
   |false=>
    simp only[hq]at h
    cases hr:mput x y xs with
    |none=>simp[hr]at h
    |some ys=>
     simp only[hr,Option.map_some,Option.some.injEq]at h
     subst h
     have cons:∀es',RM G es' ys→RM G (e::es') ((k,z)::ys):=fun es' he=>⟨by simpa using he.1,fun i k' z' hi=>by
      cases i with
      |zero=>simp at hi;obtain⟨rfl,rfl⟩:=hi;exact⟨e,rfl,h1,h2⟩
      |succ i=>simpa using he.2 i k' z' (by simpa using hi)⟩
     rcases run_mput hk ha hv xs es (n+1) ys hm.tail hr with ⟨i,u,hf,e',he',hke,hall⟩|⟨hf,hno,hall⟩
     ·exact .inl ⟨i+1,u,by simp only[Instr.findNow,hn,hf];congr 3;omega,e',by simpa using he',hke,fun born=>by simpa using cons _ (hall born)⟩
     ·exact .inr ⟨by simp[Instr.findNow,hn,hf],fun e2 he2=>by
       rcases List.mem_cons.1 he2 with rfl|he2
       ·exact key_diff hq ha h1
       ·exact hno e2 he2,fun born=>by simpa using cons _ (hall born)⟩
theorem key_same {x:VV}{a b:Value}{kd:TypeDesc}(hk:kfit (qkOf kd) x=true)(ha:R G a x)(hb:R G b x):(Instr.keyThatStays b a).run P w=.ok a w:=by
 cases x with
 |int k n=>
  cases ha;cases hb
  simp[Instr.keyThatStays,Instr.sameBits]
 |str l=>
  generalize hl:l=l' at hb
  cases ha with
  |str a=>
   cases hb with
   |str b=>
    obtain rfl:a=b:=Array.toList_inj.1 hl
    have:(Instr.sameBits 10000 (.string ⟨a⟩) (.string ⟨a⟩))=true:=by
     rw[Instr.sameBits]
     exact(MapKept.bytes_beq _ _).2 rfl
    simp[Instr.keyThatStays,this]
 |_=>cases kd<;>simp[qkOf,kfit]at hk
theorem Sim.set_map (h:Sim w0 G w s){b:Nat}{xs ys:List (VV×VV)}(hb:s b=.map xs)(c':Array MapEntry)(clock:Nat)(hm:RM G c'.toList ys)(hst:MapKept.Stamped c' clock) :
  Sim w0 G { w with heap:=w.heap.setIfInBounds b (.map c' clock) } (s.set b (.map ys)):=by
 have ho:=h.ok b
 rw[hb]at ho
 obtain⟨hB,c,cl,hh,hsz,_⟩:=ho
 have hlt:b<w.heap.size:=(Array.getElem?_eq_some_iff.1 hh).1
 have hother:∀k,k≠b→(w.heap.setIfInBounds b (.map c' clock))[k]?=w.heap[k]?:=fun k hk=>Array.getElem?_setIfInBounds_ne (Ne.symm hk)
 have hn:∀i,G.K b i=none:=fun i=>by
  cases hk:G.K b i with
  |none=>rfl
  |some v=>
   have:=h.K b i v hk
   simp[World.cell?,hh]at this
 refine⟨h.below.trans ⟨rfl,rfl,rfl,by simp,fun k hk=>hother k (by omega)⟩,fun x i v hk=>?_,fun x q hq=>by simpa using h.cap x q hq,fun x=>?_,h.gl,h.rows.keep' (Gh.le.refl G) (by simp) (fun g _ hg=>⟨?_,hother g ?_,fun _=>rfl⟩) (fun x T xs rs hx=>?_)⟩
 rotate_left 2
 ·rw[St.set_other _ _ (by rintro rfl;rw[hb]at hg;cases hg)];exact hg
 ·rintro rfl;rw[hb]at hg;cases hg
 ·have hxb:x≠b:=by rintro rfl;rw[St.set_same]at hx;cases hx
  rw[St.set_other _ _ hxb]at hx
  exact⟨hx,hother x hxb⟩
 ·have hne:x≠b:=by rintro rfl;rw[hn]at hk;cases hk
  exact(World.cell?_of_block (w:=w) (hother x hne)).trans (h.K x i v hk)
 ·by_cases hx:x=b
  ·subst hx
   rw[St.set_same]
   exact⟨hB,c',clock,by simp[hlt],⟨by simpa using hm.1,hst⟩,fun i k y hi=>by simpa using hm.2 i k y hi⟩
  ·rw[St.set_other s _ hx]
   exact(h.ok x).keep (hother x hx) (Gh.le.refl G) (fun _=>rfl)
theorem run_vupdate {T:TypeId}{m key v:Value}{x k y:VV}{s':St}(hS:Sim w0 G w s)(hm:R G m x)(hkey:R G key k)(hv:R G v y)
  (h:vupdate (qi P T) (qi P (keyT (qi P T))) x k y s=some s'):∃w',(Instr.mapUpdate T m key v).run P w=.ok () w'∧Sim w0 G w' s':=by
 unfold vupdate at h
 split at h
 ·rename_i kt et b hk
  split at h
  ·rename_i es hb hkk
   have ho:=hS.ok b
   rw[hb]at ho
   obtain⟨_,c,clock,hh,hsz,hrel⟩:=ho
   have hd:=kind_map hk
   have hkt:keyT (qi P T)=kt:=by simp[keyT,hk]
   rw[hkt]at hkk
   obtain⟨kd,hkd,hkk'⟩:=kind_key (P:=P) hkk
   cases hm
   have hRM:RM G c.toList es:=⟨by simpa using hsz.1,fun i k x hi=>by simpa using hrel i k x hi⟩
   have hget:(getObj b).run P w=.ok (.map c clock) w:=by simp[getObj,Sem.run,hh]
   have hset:∀o,(setObj b o).run P w=.ok () { w with heap:=w.heap.setIfInBounds b o }:=fun o=>by simp[setObj,Sem.run,hh]
   cases hp:mput k y es with
   |none=>simp[hp]at h
   |some zs=>
    simp only[hp,Option.map_some,Option.some.injEq]at h
    subst h
    rcases run_mput hkk' hkey hv es c.toList 0 zs hRM hp with ⟨i,u,hf,e,he,hke,hall⟩|⟨hf,hno,hall⟩
    ·rw[Nat.zero_add]at hf
     have he':c[i]?=some e:=by simpa using he
     have hce:(c.modify i fun e=>{ e with key:=key,val:=v })=(c.toList.set i ⟨key,v,e.born⟩).toArray:=by
      apply Array.ext_getElem?
      intro j
      have hta:((c.toList.set i ⟨key,v,e.born⟩).toArray)[j]?=(c.toList.set i ⟨key,v,e.born⟩)[j]?:=by simp
      rw[Array.getElem?_modify,hta,List.getElem?_set]
      by_cases hj:i=j
      ·subst hj
       have:i<c.size:=(Array.getElem?_eq_some_iff.1 he').1
       simp only[this,Array.length_toList,if_true]
       rw[he']
       rfl
      ·simp[hj]
     refine⟨_,?_,hS.set_map hb (c.modify i fun e=>{ e with key:=key,val:=v }) clock (by rw[hce];exact hall e.born) (MapKept.stamped_modify hsz.2 i _ (fun _ _=>rfl) (fun e2 _ he2=>by rw[he']at he2;injection he2 with he2;subst he2;exact key_one hkk' hkey hke))⟩
     unfold Instr.mapUpdate
     simp only[Sem.run_bind,run_underlying hd,Result.andThen_ok,hget,Sem.run_pure,run_checkKey hkd hkk',Instr.findKey,run_underlying hkd,hf,he',Option.map_some,Option.getD_some,key_same (P:=P) hkk' hkey hke,hset]
    ·refine⟨_,?_,hS.set_map hb (c.push ⟨key,v,clock⟩) (clock+1) (by simpa using hall clock) (MapKept.stamped_push hsz.2 hno)⟩
     unfold Instr.mapUpdate
     simp only[Sem.run_bind,run_underlying hd,Result.andThen_ok,hget,Sem.run_pure,run_checkKey hkd hkk',Instr.findKey,run_underlying hkd,hf,hset]
  ·cases h
 ·cases h
end
section
variable {P : Program} {w0 w : World} {G : Gh} {s : St}
theorem run_buildSliceM {T e:TypeId}{len:Nat}{parts:List (Nat×VV)}{vps:Array (Nat×Value)}{xs:List (List VV)}(hS:Sim w0 G w s)
  (hk:(qi P T).k=.slice e) (hz:(qi P e).zok=true) (hlen:parts.length=len) (h0:0<len) (hbig:len * (qi P e).sz≤16777216)
  (hl:vps.size=parts.length) (hp:∀(i:Nat) (p:Nat×VV) (q:Nat×Value),parts[i]?=some p→vps[i]?=some q→p.1=q.1∧R G q.2 p.2)
  (h:vrow (qi P e).sz 0 parts=some xs) :
  ∃v w' G',(Instr.buildSlice T len vps).run P w=.ok v w'∧G.le G'∧s w.heap.size=.free∧Sim w0 G' w' (s.set w.heap.size (.row e (qi P e).sz xs.flatten))∧R G' v (.mrw w.heap.size len):=by
 obtain⟨dT,iT,hdT,hiT,hkT,_⟩:=qi_spec (P:=P) T (.inr (.inl (by rw[hk];simp)))
 have hdT':dT=.slice e:=by
  rw[hk]at hkT
  cases dT<;>simp[qkOf]at hkT
  rw[hkT]
 subst hdT'
 obtain⟨z,i,d,hi,hd,hke,hs,hzz,hpos,hzs,hag,hrl⟩:=RLs.zero (P:=P) (G:=G) hz
 obtain⟨hxl,hx2,hx3,_⟩:=vrow_spec parts 0 xs h
 have hzne:len * i.size≠0:=by
  have:=Nat.mul_pos h0 hpos
  omega
 obtain⟨vs,hf,hvs,_,hall⟩:=run_fillRow (G:=G) parts vps.toList 0 xs ((Array.range (len * i.size)).map fun q=>z.cells[q % z.cells.size]!) h
  (by simpa using hl) (fun i p q hpi hqi=>hp i p q hpi (by simpa using hqi)) (by simp[hlen,hs])
 have hvsz:vs.size=len * i.size:=by rw[hvs];simp
 obtain⟨G',hG,hq,hS'⟩:=hS.alloc_row e vs xs.flatten len i.size hvsz (by rw[flat_len hx2,hxl,hlen,hs];exact Nat.le_refl _) (by
   have:len≤len * i.size:=Nat.le_mul_of_pos_right _ hpos
   have hb2:=hbig
   rw[hs]at hb2
   simp only[maxLen];omega) (fun j y hy=>by
  obtain⟨a,b,x,h1,h2,h3⟩:=flat_get hx2 hy
  obtain⟨v,hv,hr⟩:=hall a b x y h1 h2
  rw[Nat.zero_add]at hv
  refine⟨hx3 x (List.mem_of_getElem? h1) y (List.mem_of_getElem? h2),v,?_,hr⟩
  rw[h3];exact hv)
 rw[hs]
 refine⟨.slice (some ⟨w.heap.size,0,none⟩) len len,_,G',?_,hG,hS.fresh,hS',R.mrw w.heap.size len len i.size (by simpa using hq) (Nat.le_refl _)⟩
 unfold Instr.buildSlice
 simp only[Sem.run_bind,run_underlying hdT,Result.andThen_ok,run_sizeOf hi,Sem.run_ite]
 rw[if_neg (by rw[hs]at hbig;omega)]
 simp only[hzne,if_false,Sem.run_bind,zeroValue,typeInfo,run_program,hi,Result.andThen_ok,hzz,Sem.run_pure]
 rw[hs]at hf
 rw[hf]
 simp only[newRow,Sem.run_bind,run_newObj,Result.andThen_ok,Sem.run_pure]
 rfl
end
theorem nodup_le {α:Type}:∀{X Y:List α},X.Nodup→(∀x,x∈X→x∈Y)→X.length≤Y.length
 |[],_,_,_=>Nat.zero_le _
 |a::X,Y,hn,hs=>by
  obtain⟨p,q,rfl⟩:=List.append_of_mem (hs a (by simp))
  rw[List.nodup_cons]at hn
  have:=nodup_le (X:=X) (Y:=p++q) hn.2 fun x hx=>by
   have h1:=hs x (by simp[hx])
   rw[List.mem_append,List.mem_cons]at h1
   rw[List.mem_append]
   rcases h1 with h1|h1|h1
   ·exact .inl h1
   ·subst h1;exact absurd hx hn.1
   ·exact .inr h1
  simp only[List.length_cons,List.length_append]at this ⊢
  omega
open Classical in
noncomputable def ixN:List Tr→Tr→Nat
 |[],_=>0
 |a::l,t=>if a=t then 0 else ixN l t+1
theorem ixN_get:∀{ns:List Tr} {t:Tr},t∈ns→ns[ixN ns t]?=some t
 |a::l,t,h=>by
  unfold ixN
  split
  ·rename_i e;subst e;rfl
  ·rename_i e
   rcases List.mem_cons.1 h with h|h
   ·exact absurd h.symm e
   ·simpa using ixN_get h
theorem ixN_lt {ns:List Tr}{t:Tr}(h:t∈ns):ixN ns t<ns.length:=(List.getElem?_eq_some_iff.1 (ixN_get h)).1
theorem ixN_at {ns:List Tr}{t:Tr}{k:Nat}(hn:ns.Nodup)(h:ns[k]?=some t):ixN ns t=k:=
 (List.getElem?_inj (ixN_lt (List.mem_of_getElem? h)) hn).1 ((ixN_get (List.mem_of_getElem? h)).trans h.symm)
theorem ixN_inj {ns:List Tr}{t u:Tr}(ht:t∈ns)(hu:u∈ns)(h:ixN ns t=ixN ns u):t=u:=by
 have a:=ixN_get ht
 rw[h,ixN_get hu]at a
 injection a with a
 exact a.symm
theorem ixN_app:∀{ns m:List Tr} {t:Tr},t∈ns→ixN (ns++m) t=ixN ns t
 |a::l,m,t,h=>by
  simp only[List.cons_append,ixN]
  split
  ·rfl
  ·rename_i e
   rcases List.mem_cons.1 h with h|h
   ·exact absurd h.symm e
   ·rw[ixN_app h]
theorem ixN_new:∀{ns:List Tr} {t:Tr},t∉ns→ixN (ns++[t]) t=ns.length
 |[],t,_=>by simp[ixN]
 |a::l,t,h=>by
  simp only[List.cons_append,ixN]
  rw[if_neg (fun e=>h (by simp[e])),ixN_new (fun e=>h (by simp[e])),List.length_cons]
structure NsOk (n:Nat) (ns:List Tr):Prop where
 z:ns[0]?=some (.lf false)
 o:ns[1]?=some (.lf true)
 nd:ns.Nodup
 ok:∀t,t∈ns→OkT n 0 t
 ch:∀v l h,.nd v l h∈ns→l∈ns∧h∈ns
theorem NsOk.lf {n:Nat}{ns:List Tr}(h:NsOk n ns)(b:Bool):.lf b∈ns∧ixN ns (.lf b)=if b then 1 else 0:=by
 cases b with
 |false=>exact⟨List.mem_of_getElem? h.z,ixN_at h.nd h.z⟩
 |true=>exact⟨List.mem_of_getElem? h.o,ixN_at h.nd h.o⟩
theorem NsOk.two {n:Nat}{ns:List Tr}(h:NsOk n ns){v:Nat}{l r:Tr}(hm:.nd v l r∈ns):2≤ixN ns (.nd v l r):=by
 have h1:=ixN_get hm
 rcases Nat.lt_or_ge (ixN ns (.nd v l r)) 2 with hl|hl
 ·rcases(show ixN ns (.nd v l r)=0∨ixN ns (.nd v l r)=1 by omega)with e|e
  ·rw[e,h.z]at h1;cases h1
  ·rw[e,h.o]at h1;cases h1
 ·exact hl
theorem NsOk.new (n:Nat):NsOk n [.lf false,.lf true]:=
 ⟨rfl,rfl,by simp,fun t ht=>by
  simp only[List.mem_cons,List.not_mem_nil,or_false]at ht
  rcases ht with rfl|rfl<;>trivial,fun v l h hm=>by simp at hm⟩
theorem NsOk.len {n:Nat}{ns:List Tr}(h:NsOk n ns):2≤ns.length:=by
 have:=(List.getElem?_eq_some_iff.1 h.o).1
 omega
theorem NsOk.add {n v:Nat}{ns:List Tr}{l r:Tr}(h:NsOk n ns)(hl:l∈ns)(hr:r∈ns)(hne:l≠r)(hv:v<n)(ol:OkT n (v+1) l)(or_:OkT n (v+1) r)(hn:.nd v l r∉ns):NsOk n (ns++[.nd v l r]):=by
 have h2:=h.len
 refine⟨by rw[List.getElem?_append_left (by omega)];exact h.z,by rw[List.getElem?_append_left (by omega)];exact h.o,?_,fun t ht=>?_,fun v' l' r' ht=>?_⟩
 ·rw[List.nodup_append]
  exact⟨h.nd,by simp,fun a ha b hb=>by rw[List.mem_singleton]at hb;subst hb;rintro rfl;exact hn ha⟩
 ·rcases List.mem_append.1 ht with ht|ht
  ·exact h.ok t ht
  ·rw[List.mem_singleton]at ht;subst ht;exact⟨Nat.zero_le _,hv,hne,ol,or_⟩
 ·rcases List.mem_append.1 ht with ht|ht
  ·obtain⟨a,b⟩:=h.ch v' l' r' ht
   exact⟨List.mem_append_left _ a,List.mem_append_left _ b⟩
  ·rw[List.mem_singleton]at ht
   injection ht with h1 h2 h3
   subst h2;subst h3
   exact⟨List.mem_append_left _ hl,List.mem_append_left _ hr⟩
theorem NsOk.subs {n:Nat}{ns:List Tr}(h:NsOk n ns):∀{t u:Tr},t∈ns→u∈subsT t→u∈ns
 |.lf _,u,_,hu=>by simp[subsT]at hu
 |.nd v l r,u,ht,hu=>by
  obtain⟨hl,hr⟩:=h.ch v l r ht
  simp only[subsT,List.mem_cons,List.mem_append]at hu
  rcases hu with rfl|hu|hu
  ·exact ht
  ·exact h.subs hl hu
  ·exact h.subs hr hu
def CntN (ns:List Tr)(N:Nat):Prop:=∃U:List Tr,U.length≤N∧∀t,t∈ns→t∈U
def FitN (ns:List Tr)(R:Tr)(B:Nat):Prop:=∀X:List Tr,X.Nodup→(∀t,t∈X→t∈ns∨t∈subsT R)→X.length≤B
structure ExtN (ns ns':List Tr) (R:Tr):Prop where
 pre:∃m,ns'=ns++m
 new:∀t,t∈ns'→t∈ns∨t∈subsT R
 mem:R∈ns'
theorem ExtN.sub {ns ns':List Tr}{R t:Tr}(h:ExtN ns ns' R)(ht:t∈ns):t∈ns'∧ixN ns' t=ixN ns t:=by
 obtain⟨m,rfl⟩:=h.pre
 exact⟨List.mem_append_left _ ht,ixN_app ht⟩
theorem ExtN.refl {ns:List Tr}{R:Tr}(h:R∈ns):ExtN ns ns R:=⟨⟨[],by simp⟩,fun t ht=>.inl ht,h⟩
theorem FitN.len {ns:List Tr}{R:Tr}{B:Nat}(h:FitN ns R B)(hn:ns.Nodup):ns.length≤B:=h ns hn fun t ht=>.inl ht
theorem FitN.of {ns:List Tr}{R:Tr}{N m B:Nat}(h:CntN ns N)(hR:SubN R m)(hB:N+m≤B):FitN ns R B:=fun X hX hs=>by
 obtain⟨U,h1,h2⟩:=h
 obtain⟨S,h3,h4⟩:=hR
 have:=nodup_le (Y:=U++S) hX fun x hx=>by
  rw[List.mem_append]
  rcases hs x hx with h|h
  ·exact .inl (h2 x h)
  ·exact .inr (h4 x h)
 rw[List.length_append]at this
 omega
theorem CntN.ext {ns ns':List Tr}{R:Tr}{N m:Nat}(h:CntN ns N)(hR:SubN R m)(he:ExtN ns ns' R):CntN ns' (N+m):=by
 obtain⟨U,h1,h2⟩:=h
 obtain⟨S,h3,h4⟩:=hR
 refine⟨U++S,by rw[List.length_append];omega,fun t ht=>?_⟩
 rw[List.mem_append]
 rcases he.new t ht with h|h
 ·exact .inl (h2 t h)
 ·exact .inr (h4 t h)
theorem CntN.mono {ns:List Tr}{N N':Nat}(h:CntN ns N)(hN:N≤N'):CntN ns N':=by
 obtain⟨U,h1,h2⟩:=h
 exact⟨U,by omega,h2⟩
noncomputable def keyN (ns:List Tr)(v:Nat)(l h:Tr):K3:=((v:Int),(ixN ns l:Int),(ixN ns h:Int))
structure TabN (hs:K3→Nat) (ps:List Pl) (ns:List Tr):Prop where
 ok:TabOk hs ps
 fwd:∀(i:Nat) (key:K3) (x:Int),ps[i]?=some (.fl key x)→∃v l h,.nd v l h∈ns∧key=keyN ns v l h∧x=(ixN ns (.nd v l h):Int)
 bwd:∀v l h,.nd v l h∈ns→∃i:Nat,ps[i]?=some (.fl (keyN ns v l h) (ixN ns (.nd v l h):Int))
theorem keyN_inj {n:Nat}{ns:List Tr}(h:NsOk n ns){v v':Nat}{l r l' r':Tr}(hl:l∈ns)(hr:r∈ns)(hl':l'∈ns)(hr':r'∈ns)(he:keyN ns v l r=keyN ns v' l' r'):v=v'∧l=l'∧r=r':=by
 unfold keyN at he
 injection he with h1 h2
 injection h2 with h2 h3
 exact⟨by omega,ixN_inj hl hl' (by omega),ixN_inj hr hr' (by omega)⟩
theorem TabN.there {n:Nat}{hs:K3→Nat}{ps:List Pl}{ns:List Tr}(h:TabN hs ps ns){v:Nat}{l r:Tr}(hm:.nd v l r∈ns):∃i:Nat,fndP ps (keyN ns v l r) ps.length (hs (keyN ns v l r))=some (i,true)∧ps[i]?=some (.fl (keyN ns v l r) (ixN ns (.nd v l r):Int)):=by
 obtain⟨i,hi⟩:=h.bwd v l r hm
 exact⟨i,h.ok.there hi,hi⟩
theorem TabN.absent {n:Nat}{hs:K3→Nat}{ps:List Pl}{ns:List Tr}(h:TabN hs ps ns)(hN:NsOk n ns){v:Nat}{l r:Tr}(hl:l∈ns)(hr:r∈ns)(hm:.nd v l r∉ns):∀(i:Nat) (x:Int),ps[i]?≠some (.fl (keyN ns v l r) x):=fun i x hi=>by
 obtain⟨v',l',r',h1,h2,_⟩:=h.fwd i _ x hi
 obtain⟨a,b⟩:=hN.ch v' l' r' h1
 obtain⟨rfl,rfl,rfl⟩:=keyN_inj hN hl hr a b h2
 exact hm h1
theorem TabN.put {n:Nat}{hs:K3→Nat}{ps:List Pl}{ns:List Tr}(h:TabN hs ps ns)(hN:NsOk n ns){v k:Nat}{l r:Tr}(hl:l∈ns)(hr:r∈ns)(hm:.nd v l r∉ns)(hk:ps[k]?=some .em)(hp:PathP hs ps (keyN ns v l r) k)(hu:usedP ps+1<ps.length) :
  TabN hs (ps.set k (.fl (keyN ns v l r) (ns.length:Int))) (ns++[.nd v l r]):=by
 have hkl:=(List.getElem?_eq_some_iff.1 hk).1
 have key:∀v' l' r',.nd v' l' r'∈ns→keyN (ns++[.nd v l r]) v' l' r'=keyN ns v' l' r'∧ixN (ns++[.nd v l r]) (.nd v' l' r')=ixN ns (.nd v' l' r'):=fun v' l' r' hm'=>by
  obtain⟨a,b⟩:=hN.ch v' l' r' hm'
  unfold keyN
  rw[ixN_app a,ixN_app b,ixN_app hm']
  exact⟨rfl,rfl⟩
 have keyn:keyN (ns++[.nd v l r]) v l r=keyN ns v l r:=by unfold keyN;rw[ixN_app hl,ixN_app hr]
 refine⟨h.ok.put hk hp (usedP_two hu),fun i k0 x hi=>?_,fun v' l' r' hm'=>?_⟩
 ·by_cases e:i=k
  ·subst e
   rw[List.getElem?_set_self hkl]at hi
   injection hi with hi
   injection hi with hi1 hi2
   exact⟨v,l,r,by simp,by rw[keyn];exact hi1.symm,by rw[ixN_new hm];exact hi2.symm⟩
  ·rw[List.getElem?_set_ne (Ne.symm e)]at hi
   obtain⟨v',l',r',h1,h2,h3⟩:=h.fwd i k0 x hi
   obtain⟨k1,k2⟩:=key v' l' r' h1
   exact⟨v',l',r',List.mem_append_left _ h1,by rw[k1];exact h2,by rw[k2];exact h3⟩
 ·rcases List.mem_append.1 hm' with hm'|hm'
  ·obtain⟨i,hi⟩:=h.bwd v' l' r' hm'
   obtain⟨k1,k2⟩:=key v' l' r' hm'
   refine⟨i,?_⟩
   rw[k1,k2,List.getElem?_set_ne (by rintro rfl;rw[hk]at hi;cases hi)]
   exact hi
  ·rw[List.mem_singleton]at hm'
   injection hm' with h1 h2 h3
   subst h1;subst h2;subst h3
   exact⟨k,by rw[keyn,ixN_new hm];exact List.getElem?_set_self hkl⟩
theorem TabN.grown {hs hs':K3→Nat}{ps ps':List Pl}{ns:List Tr}(h:TabN hs ps ns)(ho:TabOk hs' ps')(he:∀(key:K3) (x:Int),(∃i:Nat,ps'[i]?=some (.fl key x))↔∃i:Nat,ps[i]?=some (.fl key x)):TabN hs' ps' ns:=
 ⟨ho,fun i key x hi=>by
  obtain⟨j,hj⟩:=(he key x).1 ⟨i,hi⟩
  exact h.fwd j key x hj,fun v l r hm=>(he _ _).2 (h.bwd v l r hm)⟩
theorem TabN.new {hs:K3→Nat}{m:Nat}(hst:∀key,hs key<m):TabN hs (List.replicate m Pl.em) [.lf false,.lf true]:=by
 refine⟨.new hst,fun i key x hi=>?_,fun v l h hm=>?_⟩
 ·rw[List.getElem?_replicate]at hi
  split at hi
  ·injection hi with hi
   cases hi
  ·cases hi
 ·simp at hm
def cntV (g:(Nat→Bool)→Bool):List Nat→(Nat→Bool)→Nat
 |[],x=>if g x=true then 1 else 0
 |v::vs,x=>cntV g vs (updB x v false)+cntV g vs (updB x v true)
theorem cntV_perm {g:(Nat→Bool)→Bool}{a b:List Nat}(h:a.Perm b):∀(x:Nat→Bool),a.Nodup→cntV g a x=cntV g b x:=by
 induction h with
 |nil=>intro x _;rfl
 |cons v h ih=>
  intro x hn
  rw[List.nodup_cons]at hn
  simp only[cntV]
  rw[ih _ hn.2,ih _ hn.2]
 |swap v w l=>
  intro x hn
  simp only[List.nodup_cons,List.mem_cons,not_or]at hn
  have hne:w≠v:=hn.1.1
  simp only[cntV]
  rw[updB_comm (b:=false) (c:=false) hne,updB_comm (b:=false) (c:=true) hne,updB_comm (b:=true) (c:=false) hne,updB_comm (b:=true) (c:=true) hne]
  omega
 |trans h1 h2 ih1 ih2=>
  intro x hn
  rw[ih1 x hn,ih2 x (h1.nodup_iff.1 hn)]
def asgV:List Nat→Nat→(Nat→Bool)→(Nat→Bool)
 |[],_,x=>x
 |v::vs,m,x=>asgV vs (m / 2) (updB x v (m % 2 == 1))
theorem cntV_asg {g:(Nat→Bool)→Bool}:∀{vs:List Nat} {x:Nat→Bool},cntV g vs x=((List.range (2 ^ vs.length)).filter fun m=>g (asgV vs m x)).length
 |[],x=>by
  simp only[cntV,List.length_nil,Nat.pow_zero,asgV]
  cases h:g x<;>simp[List.range_succ,h]
 |v::vs,x=>by
  have split:∀n,((List.range (2 * n)).filter fun m=>g (asgV (v::vs) m x)).length=((List.range n).filter fun m=>g (asgV vs m (updB x v false))).length+((List.range n).filter fun m=>g (asgV vs m (updB x v true))).length:=by
   intro n
   induction n with
   |zero=>rfl
   |succ n ih=>
    have e:2 * (n+1)=2 * n+1+1:=by omega
    have h0:asgV (v::vs) (2 * n) x=asgV vs n (updB x v false):=by
     simp only[asgV]
     rw[show 2 * n / 2=n by omega,show 2 * n % 2=0 by omega]
     rfl
    have h1:asgV (v::vs) (2 * n+1) x=asgV vs n (updB x v true):=by
     simp only[asgV]
     rw[show (2 * n+1) / 2=n by omega,show (2 * n+1) % 2=1 by omega]
     rfl
    rw[e,List.range_succ,List.range_succ,List.filter_append,List.filter_append,List.range_succ,List.filter_append,List.filter_append,List.length_append,List.length_append,List.length_append,List.length_append,ih]
    simp only[List.filter_cons,List.filter_nil,h0,h1]
    split<;>split<;>simp_all<;>omega
  rw[List.length_cons,Nat.pow_succ,Nat.mul_comm,split,← cntV_asg,← cntV_asg]
  rfl
def levT (pos:Nat→Nat)(W:Nat):Tr→Nat
 |.lf _=>W
 |.nd v _ _=>pos v
def cntT (pos:Nat→Nat)(W:Nat):Tr→Nat
 |.lf b=>if b=true then 1 else 0
 |.nd v l h=>cntT pos W l * 2 ^ (levT pos W l - (pos v+1))+cntT pos W h * 2 ^ (levT pos W h - (pos v+1))
def InV (S:List Nat):Tr→Prop
 |.lf _=>True
 |.nd v l h=>v∈S∧InV S l∧InV S h
theorem cntV_one {g:(Nat→Bool)→Bool}{b:Bool}:∀{vs:List Nat} {x:Nat→Bool},(∀x,g x=b)→cntV g vs x=if b=true then 2 ^ vs.length else 0
 |[],x,h=>by simp only[cntV,h];cases b<;>rfl
 |v::vs,x,h=>by
  simp only[cntV]
  rw[cntV_one h,cntV_one h]
  cases b
  ·rfl
  ·simp only[if_true,List.length_cons,Nat.pow_succ];omega
def SrtV (S:List Nat):Prop:=S.Pairwise (·<·)
theorem cntT_V {n:Nat}{pos:Nat→Nat}{W:Nat}:∀(S:List Nat) {p m:Nat} {t:Tr} {x:Nat→Bool},OkT n m t→SrtV S→(∀i v,S[i]?=some v→pos v=p+i)→p+S.length=W→InV S t→cntV (evT t) S x=cntT pos W t * 2 ^ (levT pos W t - p)
 |[],p,m,.lf b,x,_,_,_,hW,_=>by
  simp only[cntV,evT,cntT,levT]
  have:W - p=0:=by simp only[List.length_nil]at hW;omega
  rw[this]
  cases b<;>rfl
 |[],p,m,.nd v l h,x,_,_,_,_,hI=>by simp[InV]at hI
 |s::S,p,m,.lf b,x,_,_,_,hW,_=>by
  rw[cntV_one (g:=evT (.lf b)) (b:=b) (fun x=>rfl)]
  simp only[cntT,levT]
  have:W - p=(s::S).length:=by omega
  rw[this]
  cases b<;>simp
 |s::S,p,m,.nd v l h,x,hO,hS,hp,hW,hI=>by
  have hp0:=hp 0 s rfl
  have hp':∀i v,S[i]?=some v→pos v=(p+1)+i:=fun i v hv=>by
   have:=hp (i+1) v (by simpa using hv)
   omega
  have hW':(p+1)+S.length=W:=by simp only[List.length_cons]at hW;omega
  have hS':SrtV S∧∀w,w∈S→s<w:=by
   unfold SrtV at hS ⊢
   rw[List.pairwise_cons]at hS
   exact⟨hS.2,hS.1⟩
  have later:∀{t:Tr} {k:Nat},OkT n k t→s<k→InV (s::S) t→InV S t:=by
   intro t
   induction t with
   |lf b=>intro k _ _ _;trivial
   |nd w l h il ih=>
    intro k ⟨h1,h2,h3,h4,h5⟩ hk ⟨i1,i2,i3⟩
    refine⟨?_,il h4 (by omega) i2,ih h5 (by omega) i3⟩
    rcases List.mem_cons.1 i1 with e|e
    ·omega
    ·exact e
  obtain⟨o1,o2,o3,o4,o5⟩:=hO
  obtain⟨i1,i2,i3⟩:=hI
  rcases List.mem_cons.1 i1 with e|e
  ·subst e
   have a:=cntT_V (t:=l) (x:=updB x v false) S o4 hS'.1 hp' hW' (later o4 (by omega) i2)
   have b:=cntT_V (t:=h) (x:=updB x v true) S o5 hS'.1 hp' hW' (later o5 (by omega) i3)
   have ea:cntV (evT (.nd v l h)) S (updB x v false)=cntV (evT l) S (updB x v false):=cntV_congr fun y hy=>by
    simp only[evT]
    rw[hy v (fun h=>absurd (hS'.2 v h) (by omega)),updB_same]
    simp
   have eb:cntV (evT (.nd v l h)) S (updB x v true)=cntV (evT h) S (updB x v true):=cntV_congr fun y hy=>by
    simp only[evT]
    rw[hy v (fun h=>absurd (hS'.2 v h) (by omega)),updB_same]
    simp
   simp only[cntV]
   rw[ea,eb,a,b]
   simp only[cntT,levT]
   have:pos v - p=0:=by omega
   rw[this,Nat.pow_zero,Nat.mul_one]
   have e2:pos v+1=p+1:=by omega
   rw[e2]
  ·have hI':InV S (.nd v l h):=⟨e,later o4 (by have:=hS'.2 v e;omega) i2,later o5 (by have:=hS'.2 v e;omega) i3⟩
   have a:=fun x=>cntT_V (t:=.nd v l h) (x:=x) S ⟨o1,o2,o3,o4,o5⟩ hS'.1 hp' hW' hI'
   simp only[cntV]
   rw[a,a]
   have hlev:p+1≤levT pos W (.nd v l h):=by
    obtain⟨i,hi⟩:=List.mem_iff_getElem?.1 e
    have:=hp' i v hi
    simp only[levT];omega
   have:levT pos W (.nd v l h) - p=(levT pos W (.nd v l h) - (p+1))+1:=by omega
   rw[this,Nat.pow_succ,← Nat.mul_assoc]
   omega
where
 cntV_congr {g g':(Nat→Bool)→Bool}:∀{S:List Nat} {x:Nat→Bool},(∀y,(∀v,v∉S→y v=x v)→g y=g' y)→cntV g S x=cntV g' S x
  |[],x,h=>by simp only[cntV];rw[h x fun _ _=>rfl]
  |s::S,x,h=>by
   simp only[cntV]
   have k:∀b,cntV g S (updB x s b)=cntV g' S (updB x s b):=fun b=>cntV_congr fun y hy=>h y fun v hv=>by
    rw[List.mem_cons,not_or]at hv
    rw[hy v hv.2,updB_ne hv.1]
   rw[k,k]
def cubT:Tr→List Int→List (List Int)
 |.lf b,w=>if b=true then [w] else []
 |.nd v l h,w=>cubT l (w.set v 0)++cubT h (w.set v 1)
def AgrW (w:List Int)(x:Nat→Bool):Prop:=∀(v:Nat) (c:Int),w[v]?=some c→(c=0→x v=false)∧(c=1→x v=true)
theorem AgrW.set {w:List Int}{x:Nat→Bool}{v:Nat}{b:Bool}(hv:v<w.length)(h2:w[v]?=some 2):AgrW (w.set v (if b then 1 else 0)) x↔AgrW w x∧x v=b:=by
 constructor
 ·intro h
  refine⟨fun u c hu=>?_,?_⟩
  ·by_cases e:u=v
   ·subst e;rw[h2]at hu;injection hu with hu;subst hu;exact⟨fun h=>(by cases h),fun h=>(by cases h)⟩
   ·exact h u c (by rw[List.getElem?_set_ne (Ne.symm e)];exact hu)
  ·have:=h v _ (List.getElem?_set_self hv)
   cases b
   ·exact this.1 rfl
   ·exact this.2 rfl
 ·rintro⟨h,hb⟩ u c hu
  by_cases e:u=v
  ·subst e
   rw[List.getElem?_set_self hv]at hu
   injection hu with hu
   subst hu
   cases b
   ·exact⟨fun _=>hb,fun h=>(by cases h)⟩
   ·exact⟨fun h=>(by cases h),fun _=>hb⟩
  ·rw[List.getElem?_set_ne (Ne.symm e)]at hu
   exact h u c hu
def OpenW (m:Nat)(w:List Int):Prop:=∀v,m≤v→v<w.length→w[v]?=some 2
theorem OpenW.set {m v:Nat}{w:List Int}{c:Int}(h:OpenW m w)(hv:m≤v):OpenW (v+1) (w.set v c):=fun u hu hl=>by
 rw[List.length_set]at hl
 rw[List.getElem?_set_ne (by omega)]
 exact h u (by omega) hl
theorem cubT_mem {n:Nat}:∀{t:Tr} {m:Nat} {w:List Int} {x:Nat→Bool},OkT n m t→w.length=n→OpenW m w→((∃c,c∈cubT t w∧AgrW c x)↔AgrW w x∧evT t x=true)
 |.lf b,m,w,x,_,hw,ho=>by
  simp only[cubT,evT]
  cases b
  ·simp
  ·simp
 |.nd v l h,m,w,x,⟨h1,h2,h3,h4,h5⟩,hw,ho=>by
  have hv2:=ho v h1 (by omega)
  have a:=cubT_mem (x:=x) (w:=w.set v 0) h4 (by rw[List.length_set];exact hw) (ho.set h1)
  have b:=cubT_mem (x:=x) (w:=w.set v 1) h5 (by rw[List.length_set];exact hw) (ho.set h1)
  have sa:=AgrW.set (x:=x) (b:=false) (by omega) hv2
  have sb:=AgrW.set (x:=x) (b:=true) (by omega) hv2
  simp only[Bool.false_eq_true,if_false,if_true]at sa sb
  rw[sa]at a
  rw[sb]at b
  simp only[cubT,evT]
  constructor
  ·rintro⟨c,hc,hx⟩
   rcases List.mem_append.1 hc with hc|hc
   ·obtain⟨⟨k1,k2⟩,k3⟩:=a.1 ⟨c,hc,hx⟩
    exact⟨k1,by rw[k2];simpa using k3⟩
   ·obtain⟨⟨k1,k2⟩,k3⟩:=b.1 ⟨c,hc,hx⟩
    exact⟨k1,by rw[k2];simpa using k3⟩
  ·rintro⟨k1,k2⟩
   by_cases e:x v=true
   ·rw[if_pos e]at k2
    obtain⟨c,hc,hx⟩:=b.2 ⟨⟨k1,e⟩,k2⟩
    exact⟨c,List.mem_append_right _ hc,hx⟩
   ·rw[if_neg e]at k2
    obtain⟨c,hc,hx⟩:=a.2 ⟨⟨k1,by simpa using e⟩,k2⟩
    exact⟨c,List.mem_append_left _ hc,hx⟩
theorem cubT_sub {n:Nat}{t:Tr}{m:Nat}{w:List Int}{c:List Int}(ho:OkT n m t)(hw:w.length=n)(hp:OpenW m w)(hc:c∈cubT t w){x:Nat→Bool}(hx:AgrW c x):AgrW w x∧evT t x=true:=(cubT_mem ho hw hp).1 ⟨c,hc,hx⟩
theorem cubT_apart {n:Nat}:∀{t:Tr} {m:Nat} {w:List Int},OkT n m t→w.length=n→OpenW m w→(cubT t w).Pairwise fun c d=>∀x,AgrW c x→AgrW d x→False
 |.lf b,m,w,_,_,_=>by
  simp only[cubT]
  cases b<;>simp
 |.nd v l h,m,w,⟨h1,h2,h3,h4,h5⟩,hw,ho=>by
  have hv2:=ho v h1 (by omega)
  have sa:=fun x=>AgrW.set (x:=x) (b:=false) (show v<w.length by omega) hv2
  have sb:=fun x=>AgrW.set (x:=x) (b:=true) (show v<w.length by omega) hv2
  simp only[Bool.false_eq_true,if_false,if_true]at sa sb
  simp only[cubT]
  rw[List.pairwise_append]
  refine⟨cubT_apart h4 (by rw[List.length_set];exact hw) (ho.set h1),cubT_apart h5 (by rw[List.length_set];exact hw) (ho.set h1),fun c hc d hd x hx hy=>?_⟩
  have k1:=((sa x).1 (cubT_sub h4 (by rw[List.length_set];exact hw) (ho.set h1) hc hx).1).2
  have k2:=((sb x).1 (cubT_sub h5 (by rw[List.length_set];exact hw) (ho.set h1) hd hy).1).2
  rw[k1]at k2;cases k2
theorem cubT_len {n:Nat}:∀{t:Tr} {m:Nat} {w c:List Int},OkT n m t→w.length=n→c∈cubT t w→c.length=n
 |.lf b,m,w,c,_,hw,hc=>by
  simp only[cubT]at hc
  cases b
  ·simp at hc
  ·simp at hc;subst hc;exact hw
 |.nd v l h,m,w,c,⟨h1,h2,h3,h4,h5⟩,hw,hc=>by
  simp only[cubT]at hc
  rcases List.mem_append.1 hc with hc|hc
  ·exact cubT_len h4 (by rw[List.length_set];exact hw) hc
  ·exact cubT_len h5 (by rw[List.length_set];exact hw) hc
theorem cubT_off {S:List Nat}:∀{t:Tr} {w c:List Int},InV S t→c∈cubT t w→∀v:Nat,v∉S→c[v]?=w[v]?
 |.lf b,w,c,_,hc,v,_=>by
  simp only[cubT]at hc
  cases b
  ·simp at hc
  ·simp at hc;subst hc;rfl
 |.nd u l h,w,c,⟨i1,i2,i3⟩,hc,v,hv=>by
  have hne:u≠v:=by rintro rfl;exact hv i1
  simp only[cubT]at hc
  rcases List.mem_append.1 hc with hc|hc
  ·rw[cubT_off i2 hc v hv,List.getElem?_set_ne hne]
  ·rw[cubT_off i3 hc v hv,List.getElem?_set_ne hne]
def stepE (c:List Int)(i:Nat)(v:Nat)(all:List Nat):List Nat:=all.flatMap fun m=>(if (c[v]?).getD 0≠1 then [m] else [])++(if (c[v]?).getD 0≠0 then [m+2 ^ i] else [])
def expE (c:List Int):Nat→List Nat→List Nat→List Nat
 |_,[],all=>all
 |i,v::vs,all=>expE c (i+1) vs (stepE c i v all)
theorem expE_mem {c:List Int}:∀{vs:List Nat} {i:Nat} {all:List Nat} {m:Nat},m∈expE c i vs all↔∃a k,a∈all∧m=a+2 ^ i * k∧k<2 ^ vs.length∧∀(j:Nat) (v:Nat),vs[j]?=some v→((c[v]?).getD 0=0→k.testBit j=false)∧((c[v]?).getD 0=1→k.testBit j=true)
 |[],i,all,m=>by
  simp only[expE]
  constructor
  ·intro h;exact⟨m,0,h,by simp,by simp,fun j v hv=>by simp at hv⟩
  ·rintro⟨a,k,h1,h2,h3,_⟩
   simp at h3
   subst h3
   simp at h2
   subst h2
   exact h1
 |v::vs,i,all,m=>by
  simp only[expE]
  rw[expE_mem]
  constructor
  ·rintro⟨a,k,h1,h2,h3,h4⟩
   simp only[stepE,List.mem_flatMap,List.mem_append]at h1
   obtain⟨b,hb,h1⟩:=h1
   have bit:∀(d:Nat),d<2→(∀(j u:Nat),(v::vs)[j+1]?=some u→((c[u]?).getD 0=0→(2 * k+d).testBit (j+1)=false)∧((c[u]?).getD 0=1→(2 * k+d).testBit (j+1)=true)):=fun d hd j u hu=>by
    have e:(2 * k+d).testBit (j+1)=k.testBit j:=by rw[Nat.testBit_succ,show (2 * k+d) / 2=k by omega]
    rw[e]
    exact h4 j u (by simpa using hu)
   have lt:∀d,d<2→2 * k+d<2 ^ (v::vs).length:=fun d hd=>by rw[List.length_cons,Nat.pow_succ];omega
   have pw:2 ^ (i+1) * k=2 ^ i * (2 * k):=by rw[Nat.pow_succ,Nat.mul_assoc]
   rcases h1 with h1|h1
   ·split at h1
    ·rename_i hc
     rw[List.mem_singleton]at h1
     subst h1
     refine⟨a,2 * k,hb,by rw[h2,pw],lt 0 (by omega),fun j u hu=>?_⟩
     cases j with
     |zero=>
      simp only[List.getElem?_cons_zero,Option.some.injEq]at hu
      subst hu
      have e:(2 * k).testBit 0=false:=by rw[Nat.testBit_zero];simp
      exact⟨fun _=>e,fun h=>absurd h hc⟩
     |succ j=>exact bit 0 (by omega) j u hu
    ·simp at h1
   ·split at h1
    ·rename_i hc
     rw[List.mem_singleton]at h1
     subst h1
     refine⟨b,2 * k+1,hb,by rw[h2,pw,Nat.mul_add];omega,lt 1 (by omega),fun j u hu=>?_⟩
     cases j with
     |zero=>
      simp only[List.getElem?_cons_zero,Option.some.injEq]at hu
      subst hu
      have e:(2 * k+1).testBit 0=true:=by rw[Nat.testBit_zero];simp
      exact⟨fun h=>absurd h hc,fun _=>e⟩
     |succ j=>exact bit 1 (by omega) j u hu
    ·simp at h1
  ·rintro⟨a,k,h1,h2,h3,h4⟩
   have h0:=h4 0 v rfl
   have hk:k=2 * (k / 2)+k % 2:=by omega
   have hlt:k / 2<2 ^ vs.length:=by rw[List.length_cons,Nat.pow_succ]at h3;omega
   have pw:2 ^ (i+1) * (k / 2)=2 ^ i * (2 * (k / 2)):=by rw[Nat.pow_succ,Nat.mul_assoc]
   have rest:∀(j u:Nat),vs[j]?=some u→((c[u]?).getD 0=0→(k / 2).testBit j=false)∧((c[u]?).getD 0=1→(k / 2).testBit j=true):=fun j u hu=>by
    rw[← Nat.testBit_succ]
    exact h4 (j+1) u (by simpa using hu)
   rw[Nat.testBit_zero]at h0
   rcases Nat.mod_two_eq_zero_or_one k with e|e
   ·refine⟨a,k / 2,?_,by rw[h2,pw];congr 2;omega,hlt,rest⟩
    simp only[stepE,List.mem_flatMap,List.mem_append]
    refine⟨a,h1,.inl ?_⟩
    rw[if_pos (fun h=>by have:=h0.2 h;simp[e]at this)]
    simp
   ·refine⟨a+2 ^ i,k / 2,?_,?_,hlt,rest⟩
    ·simp only[stepE,List.mem_flatMap,List.mem_append]
     refine⟨a,h1,.inr ?_⟩
     rw[if_pos (fun h=>by have:=h0.1 h;simp[e]at this)]
     simp
    ·rw[h2,pw]
     have:k=2 * (k / 2)+1:=by omega
     rw[show 2 ^ i * k=2 ^ i * (2 * (k / 2)+1) from congrArg (2 ^ i * ·) this,Nat.mul_add]
     omega
theorem asgV_at:∀{vs:List Nat} {m j v:Nat} {x:Nat→Bool},vs.Nodup→vs[j]?=some v→asgV vs m x v=m.testBit j
 |[],m,j,v,x,_,h=>by simp at h
 |u::vs,m,0,v,x,hn,h=>by
  simp only[List.getElem?_cons_zero,Option.some.injEq]at h
  subst h
  rw[List.nodup_cons]at hn
  simp only[asgV]
  rw[asgV_off hn.1,updB_same,Nat.testBit_zero]
  rcases Nat.mod_two_eq_zero_or_one m with e|e<;>simp[e]
 |u::vs,m,j+1,v,x,hn,h=>by
  rw[List.nodup_cons]at hn
  simp only[asgV]
  rw[asgV_at hn.2 (by simpa using h),Nat.testBit_succ]
where
 asgV_off:∀{vs:List Nat} {m v:Nat} {x:Nat→Bool},v∉vs→asgV vs m x v=x v
  |[],_,_,_,_=>rfl
  |u::vs,m,v,x,h=>by
   rw[List.mem_cons,not_or]at h
   simp only[asgV]
   rw[asgV_off h.2,updB_ne h.1]
def outE (t:Tr)(w:List Int)(vs:List Nat):List Nat:=(cubT t w).flatMap fun c=>expE c 0 vs [0]
theorem outE_mem {n:Nat}{t:Tr}{vs:List Nat}(ho:OkT n 0 t)(hv:InV vs t)(hn:vs.Nodup)(hlt:∀v,v∈vs→v<n){m:Nat} :
  m∈outE t (List.replicate n 2) vs↔m<2 ^ vs.length∧evT t (asgV vs m fun _=>false)=true:=by
 have hw:(List.replicate n (2:Int)).length=n:=List.length_replicate
 have hop:OpenW 0 (List.replicate n (2:Int)):=fun v _ hl=>by
  rw[List.length_replicate]at hl
  rw[List.getElem?_replicate,if_pos hl]
 have agr:∀x,AgrW (List.replicate n (2:Int)) x:=fun x v c hc=>by
  rw[List.getElem?_replicate]at hc
  split at hc
  ·injection hc with hc;subst hc;exact⟨fun h=>(by cases h),fun h=>(by cases h)⟩
  ·cases hc
 have one:∀c,c∈cubT t (List.replicate n 2)→(m∈expE c 0 vs [0]↔m<2 ^ vs.length∧AgrW c (asgV vs m fun _=>false)):=fun c hc=>by
  have hcl:=cubT_len ho hw hc
  rw[expE_mem]
  constructor
  ·rintro⟨a,k,h1,h2,h3,h4⟩
   rw[List.mem_singleton]at h1
   subst h1
   have:m=k:=by rw[h2];simp
   subst this
   refine⟨h3,fun v c' hc'=>?_⟩
   by_cases hv':v∈vs
   ·obtain⟨j,hj⟩:=List.mem_iff_getElem?.1 hv'
    rw[asgV_at hn hj]
    have:=h4 j v hj
    rw[hc']at this
    exact this
   ·have:=cubT_off hv hc v hv'
    rw[hc',List.getElem?_replicate]at this
    split at this
    ·injection this with this;subst this;exact⟨fun h=>(by cases h),fun h=>(by cases h)⟩
    ·cases this
  ·rintro⟨h1,h2⟩
   refine⟨0,m,by simp,by simp,h1,fun j v hj=>?_⟩
   have hvn:=hlt v (List.mem_of_getElem? hj)
   have hg:c[v]?=some c[v]:=List.getElem?_eq_getElem (by omega)
   have:=h2 v _ hg
   rw[asgV_at hn hj]at this
   rw[hg]
   exact this
 unfold outE
 rw[List.mem_flatMap]
 constructor
 ·rintro⟨c,hc,hm⟩
  obtain⟨h1,h2⟩:=(one c hc).1 hm
  exact⟨h1,(cubT_sub ho hw hop hc h2).2⟩
 ·rintro⟨h1,h2⟩
  obtain⟨c,hc,hx⟩:=(cubT_mem ho hw hop).2 ⟨agr _,h2⟩
  exact⟨c,hc,(one c hc).2 ⟨h1,hx⟩⟩
theorem nodup_flat {α β:Type}{f:α→List β}:∀{l:List α},(∀a,a∈l→(f a).Nodup)→(l.Pairwise fun a b=>∀x,x∈f a→x∈f b→False)→(l.flatMap f).Nodup
 |[],_,_=>by simp
 |a::l,h1,h2=>by
  rw[List.pairwise_cons]at h2
  rw[List.flatMap_cons,List.nodup_append]
  refine⟨h1 a (by simp),nodup_flat (fun b hb=>h1 b (by simp[hb])) h2.2,fun x hx y hy e=>?_⟩
  subst e
  obtain⟨b,hb,hy⟩:=List.mem_flatMap.1 hy
  exact h2.1 b hb x hx hy
theorem stepE_ok {c:List Int}{i v:Nat}{all:List Nat}(hn:all.Nodup)(hl:∀a,a∈all→a<2 ^ i):(stepE c i v all).Nodup∧∀a,a∈stepE c i v all→a<2 ^ (i+1):=by
 constructor
 ·unfold stepE
  refine nodup_flat (fun a ha=>?_) ?_
  ·have hp:0<2 ^ i:=Nat.two_pow_pos i
   split<;>split<;>simp
  ·refine hn.imp_of_mem fun {a b} ha hb hne=>?_
   have h1:=hl a ha
   have h2:=hl b hb
   intro x hx hy
   rw[List.mem_append]at hx hy
   have fx:x=a∨x=a+2 ^ i:=by
    rcases hx with hx|hx
    ·split at hx
     ·exact .inl (List.mem_singleton.1 hx)
     ·simp at hx
    ·split at hx
     ·exact .inr (List.mem_singleton.1 hx)
     ·simp at hx
   have fy:x=b∨x=b+2 ^ i:=by
    rcases hy with hy|hy
    ·split at hy
     ·exact .inl (List.mem_singleton.1 hy)
     ·simp at hy
    ·split at hy
     ·exact .inr (List.mem_singleton.1 hy)
     ·simp at hy
   omega
 ·intro x hx
  simp only[stepE,List.mem_flatMap,List.mem_append]at hx
  obtain⟨a,ha,hx⟩:=hx
  have h1:=hl a ha
  rw[Nat.pow_succ]
  rcases hx with hx|hx
  ·split at hx
   ·rw[List.mem_singleton]at hx;omega
   ·simp at hx
  ·split at hx
   ·rw[List.mem_singleton]at hx;omega
   ·simp at hx
theorem expE_nodup {c:List Int}:∀{vs:List Nat} {i:Nat} {all:List Nat},all.Nodup→(∀a,a∈all→a<2 ^ i)→(expE c i vs all).Nodup
 |[],i,all,hn,_=>hn
 |v::vs,i,all,hn,hl=>by
  obtain⟨h1,h2⟩:=stepE_ok (c:=c) (v:=v) hn hl
  exact expE_nodup (vs:=vs) h1 h2
theorem outE_nodup {n:Nat}{t:Tr}{vs:List Nat}(ho:OkT n 0 t)(hv:InV vs t)(hn:vs.Nodup)(hlt:∀v,v∈vs→v<n):(outE t (List.replicate n 2) vs).Nodup:=by
 have hw:(List.replicate n (2:Int)).length=n:=List.length_replicate
 have hop:OpenW 0 (List.replicate n (2:Int)):=fun v _ hl=>by
  rw[List.length_replicate]at hl
  rw[List.getElem?_replicate,if_pos hl]
 unfold outE
 refine nodup_flat (fun c _=>expE_nodup (by simp) (by simp)) ?_
 refine(cubT_apart ho hw hop).imp_of_mem fun {c d} hc hd hap=>?_
 intro m hm1 hm2
 have one:∀c,c∈cubT t (List.replicate n 2)→m∈expE c 0 vs [0]→AgrW c (asgV vs m fun _=>false):=fun c hc hm=>by
  rw[expE_mem]at hm
  obtain⟨a,k,h1,h2,h3,h4⟩:=hm
  rw[List.mem_singleton]at h1
  subst h1
  have:m=k:=by rw[h2];simp
  subst this
  intro v c' hc'
  by_cases hv':v∈vs
  ·obtain⟨j,hj⟩:=List.mem_iff_getElem?.1 hv'
   rw[asgV_at hn hj]
   have:=h4 j v hj
   rw[hc']at this
   exact this
  ·have:=cubT_off hv hc v hv'
   rw[hc',List.getElem?_replicate]at this
   split at this
   ·injection this with this;subst this;exact⟨fun h=>(by cases h),fun h=>(by cases h)⟩
   ·cases this
 exact hap _ (one c hc hm1) (one d hd hm2)
def satV (t:Tr)(vs:List Nat):List Nat:=(List.range (2 ^ vs.length)).filter fun m=>evT t (asgV vs m fun _=>false)
theorem rise_eqN:∀{a b:List Nat},a.Pairwise (·<·)→b.Pairwise (·<·)→(∀x,x∈a↔x∈b)→a=b
 |[],[],_,_,_=>rfl
 |[],y::b,_,_,h=>absurd ((h y).2 (by simp)) (by simp)
 |x::a,[],_,_,h=>absurd ((h x).1 (by simp)) (by simp)
 |x::a,y::b,ha,hb,h=>by
  rw[List.pairwise_cons]at ha hb
  have e:x=y:=by
   have h1:=(h x).1 (by simp)
   have h2:=(h y).2 (by simp)
   rcases List.mem_cons.1 h1 with h1|h1
   ·exact h1
   ·rcases List.mem_cons.1 h2 with h2|h2
    ·exact h2.symm
    ·have:=hb.1 x h1
     have:=ha.1 y h2
     omega
  subst e
  rw[rise_eqN ha.2 hb.2 fun z=>?_]
  have hz:=h z
  simp only[List.mem_cons]at hz
  constructor
  ·intro hza
   rcases hz.1 (.inr hza)with e|e
   ·subst e;exact absurd (ha.1 z hza) (by omega)
   ·exact e
  ·intro hzb
   rcases hz.2 (.inr hzb)with e|e
   ·subst e;exact absurd (hb.1 z hzb) (by omega)
   ·exact e
theorem satV_rise (t:Tr)(vs:List Nat):(satV t vs).Pairwise (·<·):=List.Pairwise.filter _ List.pairwise_lt_range
theorem satV_mem {t:Tr}{vs:List Nat}{m:Nat}:m∈satV t vs↔m<2 ^ vs.length∧evT t (asgV vs m fun _=>false)=true:=by
 unfold satV
 rw[List.mem_filter,List.mem_range]
theorem satV_of {n:Nat}{t:Tr}{vs:List Nat}(ho:OkT n 0 t)(hv:InV vs t)(hn:vs.Nodup)(hlt:∀v,v∈vs→v<n){l:List Nat}(hp:l.Perm (outE t (List.replicate n 2) vs))(hs:l.Pairwise (·≤·)):l=satV t vs:=by
 refine rise_eqN ?_ (satV_rise t vs) fun x=>?_
 ·have hnd:l.Nodup:=hp.nodup_iff.2 (outE_nodup ho hv hn hlt)
  exact List.Pairwise.imp₂ (fun a b h1 h2=>by omega) hs hnd
 ·rw[hp.mem_iff,outE_mem ho hv hn hlt,satV_mem]
theorem outE_len {n:Nat}{t:Tr}{vs:List Nat}(ho:OkT n 0 t)(hv:InV vs t)(hn:vs.Nodup)(hlt:∀v,v∈vs→v<n):(outE t (List.replicate n 2) vs).length=(satV t vs).length:=
 ((List.perm_ext_iff_of_nodup (outE_nodup ho hv hn hlt) ((satV_rise t vs).imp fun h=>Nat.ne_of_lt h)).2 fun x=>by rw[outE_mem ho hv hn hlt,satV_mem]).length_eq
theorem stepE_pos {c:List Int}{i v:Nat}{all:List Nat}(h:0<all.length):0<(stepE c i v all).length:=by
 cases all with
 |nil=>simp at h
 |cons a all=>
  unfold stepE
  rw[List.flatMap_cons,List.length_append,List.length_append]
  by_cases h1:(c[v]?).getD 0=1
  ·rw[if_neg (by simp[h1]),if_pos (by rw[h1];decide)]
   simp only[List.length_cons,List.length_nil];omega
  ·rw[if_pos h1]
   simp only[List.length_cons,List.length_nil];omega
theorem expE_pos {c:List Int}:∀{vs:List Nat} {i:Nat} {all:List Nat},0<all.length→0<(expE c i vs all).length
 |[],_,_,h=>h
 |v::vs,i,all,h=>expE_pos (vs:=vs) (stepE_pos h)
theorem cubT_le {t:Tr}{w:List Int}{vs:List Nat}:(cubT t w).length≤(outE t w vs).length:=by
 unfold outE
 generalize cubT t w=C
 induction C with
 |nil=>simp
 |cons c C ih=>
  rw[List.flatMap_cons,List.length_append,List.length_cons]
  have:=expE_pos (c:=c) (vs:=vs) (i:=0) (all:=[0]) (by simp)
  omega
theorem satV_cnt {t:Tr}{vs:List Nat}:(satV t vs).length=cntV (evT t) vs fun _=>false:=cntV_asg.symm
theorem satV_T {n:Nat}{pos:Nat→Nat}{t:Tr}{vs S:List Nat}(ho:OkT n 0 t)(hv:InV S t)(hn:vs.Nodup)(hp:vs.Perm S)(hS:SrtV S)(hpos:∀i v,S[i]?=some v→pos v=i):(satV t vs).length=cntT pos vs.length t * 2 ^ levT pos vs.length t:=by
 rw[satV_cnt,cntV_perm hp _ hn,cntT_V (n:=n) (pos:=pos) (W:=vs.length) S (p:=0) ho hS (fun i v h=>by rw[hpos i v h];omega) (by rw[hp.length_eq];omega) hv,Nat.sub_zero]
theorem satV_le (t:Tr)(vs:List Nat):(satV t vs).length≤2 ^ vs.length:=by
 have:=List.length_filter_le (fun m=>evT t (asgV vs m fun _=>false)) (List.range (2 ^ vs.length))
 rw[List.length_range]at this
 exact this
def numA:List Nat→(Nat→Bool)→Nat
 |[],_=>0
 |v::vs,x=>(x v).toNat+2 * numA vs x
theorem numA_lt:∀(vs:List Nat) (x:Nat→Bool),numA vs x<2 ^ vs.length
 |[],_=>by simp[numA]
 |v::vs,x=>by
  have:=numA_lt vs x
  have h2:(x v).toNat≤1:=Bool.toNat_le _
  simp only[numA,List.length_cons,Nat.pow_succ]
  omega
def zipB (n:Nat):Nat→List Nat→List (Nat×Bool)
 |_,[]=>[]
 |i,v::vs=>(v,n.testBit i)::zipB n (i+1) vs
def leG:List (Nat×Bool)→((Nat→Bool)→Bool)→(Nat→Bool)→Bool
 |[],g=>g
 |(v,b)::l,g=>leG l fun x=>if b=true then x v && g x else x v || g x
theorem leG_ev {n:Nat}:∀(vs:List Nat) (i low:Nat) (g:(Nat→Bool)→Bool) (x:Nat→Bool),low<2 ^ i→g x=decide (n % 2 ^ i≤low)→leG (zipB n i vs) g x=decide (n % 2 ^ (i+vs.length)≤low+2 ^ i * numA vs x)
 |[],i,low,g,x,_,hg=>by
  simp only[zipB,leG,numA,List.length_nil,Nat.add_zero,Nat.mul_zero]
  exact hg
 |v::vs,i,low,g,x,hl,hg=>by
  have hm:n % 2 ^ (i+1)=n % 2 ^ i+2 ^ i * (n.testBit i).toNat:=by
   rw[Nat.mod_pow_succ,Nat.testBit_eq_decide_div_mod_eq]
   rcases Nat.mod_two_eq_zero_or_one (n / 2 ^ i)with e|e<;>simp[e]
  have hlt:n % 2 ^ i<2 ^ i:=Nat.mod_lt _ (Nat.two_pow_pos i)
  have hstep:(if n.testBit i=true then x v && g x else x v || g x)=decide (n % 2 ^ (i+1)≤low+2 ^ i * (x v).toNat):=by
   rw[hm,hg]
   cases hb:n.testBit i<;>cases hx:x v<;>simp<;>omega
  have ih:=leG_ev vs (i+1) (low+2 ^ i * (x v).toNat) (fun x=>if n.testBit i=true then x v && g x else x v || g x) x (by
   rw[Nat.pow_succ]
   have h2:(x v).toNat≤1:=Bool.toNat_le _
   have:2 ^ i * (x v).toNat≤2 ^ i * 1:=Nat.mul_le_mul_left _ h2
   omega) hstep
  simp only[zipB,leG,numA,List.length_cons]
  rw[ih,show i+1+vs.length=i+(vs.length+1) by omega]
  congr 2
  rw[Nat.pow_succ,Nat.mul_add,← Nat.mul_assoc]
  omega
theorem leG_ge {n:Nat}{vs:List Nat}{x:Nat→Bool}(hn:n<2 ^ vs.length):leG (zipB n 0 vs) (fun _=>true) x=decide (n≤numA vs x):=by
 rw[leG_ev vs 0 0 _ x (by simp) (by simp[Nat.mod_one])]
 simp[Nat.mod_eq_of_lt hn]
def DepF (S:List Nat)(g:(Nat→Bool)→Bool):Prop:=∀x y,(∀v,v∈S→x v=y v)→g x=g y
theorem DepF.mono {S S':List Nat}{g:(Nat→Bool)→Bool}(h:DepF S g)(hs:∀v,v∈S→v∈S'):DepF S' g:=fun x y he=>h x y fun v hv=>he v (hs v hv)
theorem DepF.hang {n:Nat}{S:List Nat}{g:(Nat→Bool)→Bool}(h:DepF S g)(hs:∀v,v∈S→v<n):Hang n g:=fun x y he=>h x y fun v hv=>he v (hs v hv)
theorem inV_of {n:Nat}{S:List Nat}:∀{t:Tr} {m:Nat},OkT n m t→DepF S (evT t)→InV S t
 |.lf _,_,_,_=>trivial
 |.nd v l h,m,⟨h1,h2,h3,h4,h5⟩,hd=>by
  have hl:DepF S (evT l):=fun x y he=>by
   rw[← evT_lo (h:=h) h4 x,← evT_lo (h:=h) h4 y]
   refine hd _ _ fun u hu=>?_
   by_cases e:u=v
   ·subst e;rw[updB_same,updB_same]
   ·rw[updB_ne e,updB_ne e];exact he u hu
  have hh:DepF S (evT h):=fun x y he=>by
   rw[← evT_hi (l:=l) h5 x,← evT_hi (l:=l) h5 y]
   refine hd _ _ fun u hu=>?_
   by_cases e:u=v
   ·subst e;rw[updB_same,updB_same]
   ·rw[updB_ne e,updB_ne e];exact he u hu
  refine⟨?_,inV_of h4 hl,inV_of h5 hh⟩
  by_cases e:v∈S
  ·exact e
  ·refine absurd (canonT h4 h5 fun x=>?_) h3
   rw[← evT_lo (h:=h) h4 x,← evT_hi (l:=l) h5 x]
   refine hd _ _ fun u hu=>?_
   have hne:u≠v:=by rintro rfl;exact e hu
   rw[updB_ne hne,updB_ne hne]
theorem treeT_inV {n:Nat}{S:List Nat}{g:(Nat→Bool)→Bool}(hs:∀v,v∈S→v<n)(h:DepF S g):InV S (treeT n g):=by
 refine inV_of treeT_ok fun x y he=>?_
 rw[treeT_ev (h.hang hs),treeT_ev (h.hang hs)]
 exact h x y he
theorem subs_dep {n:Nat}{S:List Nat}:∀{t:Tr} {m:Nat},OkT n m t→InV S t→(subsT t).length+1≤2 ^ (S.filter fun v=>decide (m≤v)).length
 |.lf _,m,_,_=>by simp only[subsT,List.length_nil];exact Nat.one_le_two_pow
 |.nd v l h,m,⟨h1,h2,h3,h4,h5⟩,⟨i1,i2,i3⟩=>by
  have a:=subs_dep h4 i2
  have b:=subs_dep h5 i3
  have hc:(S.filter fun u=>decide (v+1≤u)).length+1≤(S.filter fun u=>decide (m≤u)).length:=by
   clear a b i2 i3
   induction S with
   |nil=>simp at i1
   |cons s S ih=>
    rw[List.filter_cons,List.filter_cons]
    by_cases e:s=v
    ·subst e
     rw[if_neg (by simp),if_pos (by simpa using h1),List.length_cons]
     have:(S.filter fun u=>decide (s+1≤u)).length≤(S.filter fun u=>decide (m≤u)).length:=by
      clear ih i1
      induction S with
      |nil=>simp
      |cons u S ih=>
       rw[List.filter_cons,List.filter_cons]
       by_cases hu:s+1≤u
       ·rw[if_pos (by simpa using hu),if_pos (by simp;omega),List.length_cons,List.length_cons];omega
       ·rw[if_neg (by simpa using hu)]
        split
        ·rw[List.length_cons];omega
        ·exact ih
     omega
    ·have i1':v∈S:=by
      rcases List.mem_cons.1 i1 with h|h
      ·exact absurd h.symm e
      ·exact h
     have:=ih i1'
     by_cases hs:v+1≤s
     ·rw[if_pos (by simpa using hs),if_pos (by simp;omega),List.length_cons,List.length_cons];omega
     ·rw[if_neg (by simpa using hs)]
      split
      ·rw[List.length_cons];omega
      ·exact this
  simp only[subsT,List.length_cons,List.length_append]
  have h6:2 ^ ((S.filter fun u=>decide (v+1≤u)).length+1)≤2 ^ (S.filter fun u=>decide (m≤u)).length:=Nat.pow_le_pow_right (by omega) hc
  rw[Nat.pow_succ]at h6
  omega
theorem subN_dep {n:Nat}{S:List Nat}{t:Tr}{m k:Nat}(ho:OkT n m t)(hi:InV S t)(hk:S.length≤k):SubN t (2 ^ k - 1):=by
 refine(SubN.self t).mono ?_
 have h1:=subs_dep ho hi
 have h2:(S.filter fun v=>decide (m≤v)).length≤S.length:=List.length_filter_le _ _
 have h3:2 ^ (S.filter fun v=>decide (m≤v)).length≤2 ^ k:=Nat.pow_le_pow_right (by omega) (by omega)
 omega
theorem subN_tree {n:Nat}{S:List Nat}{g:(Nat→Bool)→Bool}{k:Nat}(hs:∀v,v∈S→v<n)(h:DepF S g)(hk:S.length≤k):SubN (treeT n g) (2 ^ k - 1):=subN_dep treeT_ok (treeT_inV hs h) hk
theorem iteT_tree {n:Nat}{f g h:(Nat→Bool)→Bool}(hf:Hang n f)(hg:Hang n g)(hh:Hang n h):iteT n (treeT n f) (treeT n g) (treeT n h)=treeT n fun x=>if f x=true then g x else h x:=by
 refine(treeT_eq (m:=0) treeT_ok fun x=>?_)
 have hang:Hang n fun x=>if f x=true then g x else h x:=fun x y e=>by simp only;rw[hf x y e,hg x y e,hh x y e]
 rw[treeT_ev hang,treeT_ev hf,treeT_ev hg,treeT_ev hh]
theorem treeT_const {n:Nat}(b:Bool):treeT n (fun _=>b)=.lf b:=treeT_eq (m:=0) (t:=.lf b) trivial fun x=>rfl
theorem treeT_congr {n:Nat}{f g:(Nat→Bool)→Bool}(h:∀x,f x=g x):treeT n f=treeT n g:=by rw[funext h]
end Go.Proofs.YtohnaepcgnbaiaaGreatDoor
