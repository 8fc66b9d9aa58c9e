/- Walks of functions that the claim reaches, and plain facts of them. Conditions: those in the statements. -/
import Derived.Test.YtgdbgfjhenobdaaGreatDoorJmUdj
import Derived.Test.YtgdbgfjhenobdaaGreatDoorJmBldj
import Derived.Test.YtgdbgfjhenobdaaGreatDoorJmYaj
import Derived.Lib.ItoaLen
import Derived.Test.YtgdbgfjhenobdaaGreatDoorJmDaj
import Derived.Test.YtgdbgfjhenobdaaGreatDoorJmPkj
import Derived.Test.YtgdbgfjhenobdaaGreatDoorJmGpj
set_option linter.unusedSimpArgs false
set_option linter.unusedVariables false
set_option maxRecDepth 100000
namespace Go.Proofs.YtgdbgfjhenobdaaGreatDoor
open Go.RowKit
def nameB (t:List UInt8):Bool:=signB ⟨1,t,0⟩
def trmB (t:Trm):Bool:=if t.var=true then nameB t.nm && decide (t.n=0)else decide (t.nm=[]) && decide (0≤t.n) && decide (t.n≤9999999999)
def atmB (a:Atm):Bool:=a.ts.all trmB && nameB a.rel && decide (0<a.ts.length) && decide (a.ts.length≤8)
theorem trmC_at {l:List Trm}{i:Nat}{x:Trm}(h:l[i]?=some x):(l.map trmC)[i]?=some (trmC x):=by rw[List.getElem?_map,h];rfl
def AtmOk (a:Atm):Prop:=a.rel.length≤140737488355328∧a.ts.length≤140737488355328∧∀t,t∈a.ts→t.nm.length≤140737488355328∧-9223372036854775808≤t.n∧t.n≤9223372036854775807
def dmB (d:Dm):Bool:=nameB d.name && decide (0≤d.size) && decide (d.size≤9999999999)
def dclB (d:Dcl):Bool:=nameB d.name && decide (d.doms.length≠0) && decide (d.doms.length≤8) && d.doms.all nameB
def rulB (x:Rul):Bool:=atmB x.head && !x.head.not && decide (x.head.rel≠[100,111,109]) && decide (x.head.rel≠[114,101,108]) && decide (x.body.length≤8) && x.body.all atmB
def pgmB (x:Pgm):Bool:=decide (x.doms.length≤32) && decide (x.decls.length≤32) && decide (x.rules.length≤64) && x.doms.all dmB && x.decls.all dclB && x.rules.all rulB
def DmOk (d:Dm):Prop:=d.name.length≤140737488355328∧-9223372036854775808≤d.size∧d.size≤9223372036854775807
def DclOk (d:Dcl):Prop:=d.name.length≤140737488355328∧d.doms.length≤140737488355328∧∀t,t∈d.doms→t.length≤140737488355328
def RulOk (x:Rul):Prop:=AtmOk x.head∧x.body.length≤140737488355328∧∀a,a∈x.body→AtmOk a
def PgmOk (x:Pgm):Prop:=x.doms.length≤140737488355328∧x.decls.length≤140737488355328∧x.rules.length≤140737488355328∧(∀d,d∈x.doms→DmOk d)∧(∀d,d∈x.decls→DclOk d)∧∀y,y∈x.rules→RulOk y
theorem dmC_at {l:List Dm}{i:Nat}{x:Dm}(h:l[i]?=some x):(l.map dmC)[i]?=some (dmC x):=by rw[List.getElem?_map,h];rfl
theorem dclC_at {l:List Dcl}{i:Nat}{x:Dcl}(h:l[i]?=some x):(l.map dclC)[i]?=some (dclC x):=by rw[List.getElem?_map,h];rfl
theorem rulC_at {l:List Rul}{i:Nat}{x:Rul}(h:l[i]?=some x):(l.map rulC)[i]?=some (rulC x):=by rw[List.getElem?_map,h];rfl
theorem atmC_at {l:List Atm}{i:Nat}{x:Atm}(h:l[i]?=some x):(l.map atmC)[i]?=some (atmC x):=by rw[List.getElem?_map,h];rfl
theorem strs_at {l:List (List UInt8)}{i:Nat}{x:List UInt8}(h:l[i]?=some x):(strs l)[i]?=some [.str x]:=by simp[strs,h]
def dmT (d:Dm):List UInt8:=[100,111,109,32]++d.name++[32]++Lib.itoa d.size++[46,10]
def dclT (d:Dcl):List UInt8:=[114,101,108,32]++d.name++[40]++Lib.join d.doms [44,32]++[41,46,10]
theorem nameB_len {t:List UInt8}(h:nameB t=true):t.length≤32:=by
 simp only[nameB,signB,Bool.and_eq_true,decide_eq_true_eq]at h
 have h2:=oneK_le32 t
 rw[h.2]at h2
 exact h2
theorem ujoin_le {α:Type}{f:α→List UInt8}{l:List α}{m k:Nat}(hl:l.length≤k)(h:∀x,x∈l→(f x).length≤m):(Lib.join (l.map f) [44,32]).length≤k * (m+2):=by
 have h1:=join_len m [44,32] (l.map f) (fun t ht=>by
  obtain⟨x,hx,rfl⟩:=List.mem_map.1 ht
  exact h x hx)
 rw[List.length_map]at h1
 exact Nat.le_trans h1 (Nat.mul_le_mul_right _ hl)
theorem dm_small {d:Dm}(h:dmB d=true):(dmT d).length≤100∧0≤d.size∧d.size≤9999999999∧d.name.length≤32:=by
 simp only[dmB,Bool.and_eq_true,decide_eq_true_eq]at h
 obtain⟨⟨h1,h2⟩,h3⟩:=h
 have h5:=nameB_len h1
 have:=Lib.itoa_length_le d.size (by omega) (by omega)
 refine⟨?_,h2,h3,h5⟩
 simp only[dmT,List.length_append,List.length_cons,List.length_nil]
 omega
theorem dcl_small {d:Dcl}(h:dclB d=true):(dclT d).length≤400∧d.name.length≤32∧d.doms.length≤8∧(Lib.join d.doms [44,32]).length≤8 * 34:=by
 simp only[dclB,Bool.and_eq_true,decide_eq_true_eq,List.all_eq_true]at h
 obtain⟨⟨⟨h1,h2⟩,h3⟩,h4⟩:=h
 have h5:=nameB_len h1
 have h6:=ujoin_le (f:=id) (m:=32) h3 (fun t ht=>nameB_len (h4 t ht))
 rw[List.map_id]at h6
 refine⟨?_,h5,h3,h6⟩
 simp only[dclT,List.length_append,List.length_cons,List.length_nil]
 omega
def InU (e:Nat)(L:List Sgn):Prop:=∀y,y∈L→y.at_≤e∧signB y=true
theorem InU.tail {e:Nat}{L:List Sgn}(h:InU e L):InU e L.tail:=fun y hy=>h y (List.mem_of_mem_tail hy)
def PlU {α:Type}(e:Nat)(Ok:α→Prop)(N:Nat):PU α→Prop
 |.ok (a,L)=>Ok a∧InU e L∧L.length<N
 |.error (a,er)=>a≤e∧er≠0
theorem PlU.bu {α β:Type}{e N M:Nat}{Ok:α→Prop}{Ok2:β→Prop}{x:PU α}{k:α→List Sgn→PU β}(h:PlU e Ok N x)(hk:∀a L,Ok a→InU e L→L.length<N→PlU e Ok2 M (k a L)):PlU e Ok2 M (bu x k):=by
 cases x with
 |ok q=>obtain⟨a,L⟩:=q;exact hk a L h.1 h.2.1 h.2.2
 |error q=>exact h
theorem PlU.mono {α:Type}{e N M:Nat}{Ok Ok2:α→Prop}{x:PU α}(h:PlU e Ok N x)(hk:∀a,Ok a→Ok2 a)(hn:N≤M):PlU e Ok2 M x:=by
 cases x with
 |ok q=>obtain⟨a,L⟩:=q;exact⟨hk _ h.1,h.2.1,Nat.lt_of_lt_of_le h.2.2 hn⟩
 |error q=>exact h
theorem placeU_in {e:Nat}{L:List Sgn}(h:InU e L):place e L≤e:=by
 cases L with
 |nil=>exact Nat.le_refl _
 |cons x L=>exact(h x (by simp)).1
theorem PlU.must {e:Nat}{L:List Sgn}{t:List UInt8}(h:InU e L):PlU e (fun _=>True) L.length (mustU e L t):=by
 unfold mustU;split
 ·rename_i hi
  refine⟨trivial,h.tail,?_⟩
  cases L with
  |nil=>simp[isT]at hi
  |cons x L=>simp
 ·exact⟨placeU_in h,by decide⟩
theorem PlU.room {e:Nat}{L:List Sgn}{hv mst:Nat}{b:Bool}(h:InU e L):PlU e (fun _=>mst≤hv→b=false) (L.length+1) (roomU e L hv mst b):=by
 unfold roomU;split
 ·exact⟨placeU_in h,by decide⟩
 ·rename_i hc
  refine⟨fun hm=>?_,h,by omega⟩
  cases b with
  |false=>rfl
  |true=>exact absurd ⟨hm,rfl⟩ hc
theorem room_same {e:Nat}{L L':List Sgn}{hv mst:Nat}{b:Bool}{u:Unit}(h:roomU e L hv mst b=.ok (u,L')):L'=L:=by
 unfold roomU at h;split at h
 ·cases h
 ·injection h with h;injection h with _ h;exact h.symm
theorem sign1 {x:Sgn}(h:signB x=true)(k:x.kind=1):nameB x.text=true:=by
 obtain⟨kd,t,a⟩:=x
 simp only at k
 subst k
 exact h
theorem PlU.name {e:Nat}{L:List Sgn}(h:InU e L):PlU e (fun t=>nameB t=true∧isT L 0 t=true∧nextB [1] L=true) L.length (nameU e L):=by
 cases L with
 |nil=>exact⟨Nat.le_refl _,by decide⟩
 |cons x L=>
  simp only[nameU,kindU];split
  ·rename_i hk
   exact⟨⟨sign1 (h x (by simp)).2 hk,by simp[isT],by simp[nextB,hk]⟩,fun y hy=>h y (by simp[hy]),by simp⟩
  ·exact⟨(h x (by simp)).1,by decide⟩
theorem sign2 {x:Sgn}(h:signB x=true)(k:x.kind=2):numN x.text≤9999999999:=by
 obtain⟨kd,t,a⟩:=x
 simp only at k
 subst k
 simp only[signB,Bool.and_eq_true,decide_eq_true_eq]at h
 obtain⟨h1,h2⟩:=h
 cases t with
 |nil=>exact absurd rfl h1
 |cons c r=>
  simp only[oneK]at h2
  split at h2
  ·split at h2
   ·simp at h2
   ·rename_i hn
    injection h2 with _ h3
    have hd:=takeRun (p:=digB) (c::r)
    rw[h3,List.take_length]at hd
    obtain⟨n,hn2⟩:=decFrom_all (c::r) 0 hd
    have hc:=hd c (by simp)
    have e1:¬ c=45:=by rintro rfl;revert hc;decide
    have e2:¬ c=43:=by rintro rfl;revert hc;decide
    have h4:Lib.atoi (c::r)=some (n:Int):=by simp[Lib.atoi,e1,e2,Lib.decNat,hn2]
    have h5:=Lib.decFrom_lt _ _ _ hn2
    have h6:(10:Nat) ^ (c::r).length≤10 ^ 10:=Nat.pow_le_pow_right (by omega) (by omega)
    simp only[numN,h4,Option.getD_some,Int.toNat_natCast]
    omega
  ·split at h2
   ·split at h2
    ·simp at h2
    ·injection h2 with h2 _;exact absurd h2 (by decide)
   ·injection h2 with h2 _;exact absurd h2 (by decide)
theorem PlU.num {e:Nat}{L:List Sgn}(h:InU e L):PlU e (fun n=>n≤9999999999∧nextB [1,2] L=true) L.length (numU e L):=by
 cases L with
 |nil=>exact⟨Nat.le_refl _,by decide⟩
 |cons x L=>
  simp only[numU,kindU];split
  ·rename_i hk
   exact⟨⟨sign2 (h x (by simp)).2 hk,by simp[nextB,hk]⟩,fun y hy=>h y (by simp[hy]),by simp⟩
  ·exact⟨(h x (by simp)).1,by decide⟩
theorem next12 {L:List Sgn}(h:nextB [1] L=true):nextB [1,2] L=true:=by
 cases L with
 |nil=>cases h
 |cons x L=>simp only[nextB,List.contains_cons,List.contains_nil,Bool.or_false,Bool.or_eq_true]at h ⊢;exact .inl h
theorem PlU.term {e:Nat}{L:List Sgn}(h:InU e L):PlU e (fun t=>trmB t=true∧nextB [1,2] L=true) L.length (termU e L):=by
 unfold termU;split
 ·refine PlU.bu (PlU.num h) fun n L' hn hL hl=>⟨⟨?_,hn.2⟩,hL,hl⟩
  have:=hn.1
  simp only[trmB,Bool.false_eq_true,if_false,Bool.and_eq_true,decide_eq_true_eq]
  exact⟨⟨trivial,by omega⟩,by omega⟩
 ·refine PlU.bu (PlU.name h) fun t L' ht hL hl=>⟨⟨?_,next12 ht.2.2⟩,hL,hl⟩
  simp only[trmB,if_true,ht.1,Bool.true_and,decide_eq_true_eq]
theorem PlU.listGo {α:Type}{e:Nat}{one:List Sgn→PU α}{ks:List Int}{Ok:α→Prop}(hone:∀L,InU e L→PlU e (fun x=>Ok x∧nextB ks L=true) L.length (one L)) :
  ∀(f:Nat) (out:List α) (L:List Sgn),(∀x,x∈out→Ok x)→out.length≤8→InU e L→L.length<f→PlU e (fun xs=>(∀x,x∈xs→Ok x)∧0<xs.length∧xs.length≤8) L.length (listGo e one ks f out L)
 |0,out,L,_,_,_,hf=>by omega
 |f+1,out,L,ho,hl,h,hf=>by
  simp only[Proofs.YtgdbgfjhenobdaaGreatDoor.listGo]
  cases hr:roomU e L out.length 8 (nextB ks L)with
  |error q=>have:=PlU.room (hv:=out.length) (mst:=8) (b:=nextB ks L) h;rw[hr]at this;exact this
  |ok q=>
   obtain⟨u,L1⟩:=q
   have h0:=PlU.room (hv:=out.length) (mst:=8) (b:=nextB ks L) h
   rw[hr]at h0
   have e1:=room_same hr
   subst e1
   rw[bu_ok]
   refine PlU.bu (hone L1 h) fun x L2 hx hL2 hl2=>?_
   have h8:out.length<8:=by
    rcases Nat.lt_or_ge out.length 8 with h|h
    ·exact h
    ·have:=h0.1 h;rw[this]at hx;cases hx.2
   have ho2:∀y,y∈out++[x]→Ok y:=fun y hy=>by
    rcases List.mem_append.1 hy with hy|hy
    ·exact ho y hy
    ·rw[List.mem_singleton]at hy;subst hy;exact hx.1
   split
   ·refine(PlU.listGo hone f (out++[x]) L2.tail ho2 (by simp;omega) hL2.tail (by rw[List.length_tail];omega)).mono (fun _ h=>h) (by rw[List.length_tail];omega)
   ·exact⟨⟨ho2,by simp,by simp;omega⟩,hL2,hl2⟩
theorem PlU.list {α:Type}{e:Nat}{one:List Sgn→PU α}{ks:List Int}{Ok:α→Prop}(hone:∀L,InU e L→PlU e (fun x=>Ok x∧nextB ks L=true) L.length (one L)){L:List Sgn}(h:InU e L) :
  PlU e (fun xs=>(∀x,x∈xs→Ok x)∧0<xs.length∧xs.length≤8) L.length (listU e one ks L):=by
 unfold listU
 refine PlU.bu (PlU.must h) fun _ L1 _ h1 l1=>PlU.bu (PlU.listGo hone (L1.length+1) [] L1 (fun x hx=>by cases hx) (by simp) h1 (by omega)) fun xs L2 hx h2 l2=>PlU.bu (PlU.must h2) fun _ L3 _ h3 l3=>⟨hx,h3,by omega⟩
theorem PlU.atom {e:Nat}{L:List Sgn}{nt:Bool}(h:InU e L):PlU e (fun a=>atmB a=true∧a.not=nt∧isT L 0 a.rel=true∧nextB [1] L=true) L.length (atomU e L nt):=by
 unfold atomU
 refine PlU.bu (PlU.name h) fun rel L1 hr h1 l1=>PlU.bu (PlU.list (Ok:=fun t=>trmB t=true) (fun L h=>PlU.term h) h1) fun ts L2 ht h2 l2=>⟨⟨?_,rfl,hr.2.1,hr.2.2⟩,h2,by omega⟩
 simp only[atmB,Bool.and_eq_true,decide_eq_true_eq,List.all_eq_true]
 exact⟨⟨⟨ht.1,hr.1⟩,ht.2.1⟩,ht.2.2⟩
theorem PlU.bodyGo {e:Nat}:∀(f:Nat) (out:List Atm) (L:List Sgn),(∀x,x∈out→atmB x=true)→out.length≤8→InU e L→L.length<f→PlU e (fun xs=>(∀x,x∈xs→atmB x=true)∧xs.length≤8) (L.length+1) (bodyGo e f out L)
 |0,out,L,_,_,_,hf=>by omega
 |f+1,out,L,ho,hl,h,hf=>by
  simp only[Proofs.YtgdbgfjhenobdaaGreatDoor.bodyGo]
  cases hr:roomU e L out.length 8 (nextB [1] L || isT L 0 [33])with
  |error q=>have:=PlU.room (hv:=out.length) (mst:=8) (b:=nextB [1] L || isT L 0 [33]) h;rw[hr]at this;exact this
  |ok q=>
   obtain⟨u,L1⟩:=q
   have h0:=PlU.room (hv:=out.length) (mst:=8) (b:=nextB [1] L || isT L 0 [33]) h
   rw[hr]at h0
   have e1:=room_same hr
   subst e1
   rw[bu_ok]
   have hM:InU e (if isT L1 0 [33]=true then L1.tail else L1)∧(if isT L1 0 [33]=true then L1.tail else L1).length≤L1.length:=by
    split
    ·exact⟨h.tail,by simp⟩
    ·exact⟨h,Nat.le_refl _⟩
   refine PlU.bu (PlU.atom hM.1) fun x L2 hx hL2 hl2=>?_
   have h8:out.length<8:=by
    rcases Nat.lt_or_ge out.length 8 with h|h
    ·exact h
    ·have:=h0.1 h
     simp only[Bool.or_eq_false_iff]at this
     have h3:=hx.2.2.2
     rw[this.2,if_neg (by simp),this.1]at h3
     cases h3
   have ho2:∀y,y∈out++[x]→atmB y=true:=fun y hy=>by
    rcases List.mem_append.1 hy with hy|hy
    ·exact ho y hy
    ·rw[List.mem_singleton]at hy;subst hy;exact hx.1
   split
   ·refine(PlU.bodyGo f (out++[x]) L2.tail ho2 (by simp;omega) hL2.tail (by rw[List.length_tail];omega)).mono (fun _ h=>h) (by rw[List.length_tail];omega)
   ·exact⟨⟨ho2,by simp;omega⟩,hL2,by omega⟩
theorem PlU.rule {e:Nat}{L:List Sgn}(h:InU e L)(h1:isT L 0 [100,111,109]=false)(h2:isT L 0 [114,101,108]=false):PlU e (fun x=>rulB x=true∧nextB [1] L=true) L.length (ruleU e L):=by
 unfold ruleU
 refine PlU.bu (PlU.atom h) fun hd L1 hh i1 l1=>?_
 have key:PlU e (fun xs=>(∀x,x∈xs→atmB x=true)∧xs.length≤8) (L1.length+1) (if isT L1 0 [58,45]=true then Proofs.YtgdbgfjhenobdaaGreatDoor.bodyGo e (L1.length+1) [] L1.tail else .ok ([],L1)):=by
  split
  ·exact(PlU.bodyGo (L1.length+1) [] L1.tail (fun x hx=>by cases hx) (by simp) i1.tail (by rw[List.length_tail];omega)).mono (fun _ h=>h) (by rw[List.length_tail];omega)
  ·exact⟨⟨(fun x hx=>by cases hx),by simp⟩,i1,by omega⟩
 refine PlU.bu key fun b L2 hb i2 l2=>PlU.bu (PlU.must i2) fun _ L3 _ i3 l3=>⟨⟨?_,hh.2.2.2⟩,i3,by omega⟩
 have d1:hd.rel≠[100,111,109]:=by intro e;have:=hh.2.2.1;rw[e,h1]at this;cases this
 have d2:hd.rel≠[114,101,108]:=by intro e;have:=hh.2.2.1;rw[e,h2]at this;cases this
 simp only[rulB,Bool.and_eq_true,decide_eq_true_eq,List.all_eq_true,Bool.not_eq_true']
 exact⟨⟨⟨⟨⟨hh.1,hh.2.1⟩,d1⟩,d2⟩,hb.2⟩,hb.1⟩
theorem pgmB_of {ds:List Dm}{cs:List Dcl}{rs:List Rul}(l1:ds.length≤32)(l2:cs.length≤32)(l3:rs.length≤64)(h1:∀d,d∈ds→dmB d=true)(h2:∀d,d∈cs→dclB d=true)(h3:∀d,d∈rs→rulB d=true):pgmB ⟨ds,cs,rs⟩=true:=by
 simp only[pgmB,Bool.and_eq_true,decide_eq_true_eq,List.all_eq_true]
 exact⟨⟨⟨⟨⟨l1,l2⟩,l3⟩,h1⟩,h2⟩,h3⟩
theorem pgmB_to {x:Pgm}(h:pgmB x=true):x.doms.length≤32∧x.decls.length≤32∧x.rules.length≤64∧(∀d,d∈x.doms→dmB d=true)∧(∀d,d∈x.decls→dclB d=true)∧(∀d,d∈x.rules→rulB d=true):=by
 simp only[pgmB,Bool.and_eq_true,decide_eq_true_eq,List.all_eq_true]at h
 obtain⟨⟨⟨⟨⟨l1,l2⟩,l3⟩,h1⟩,h2⟩,h3⟩:=h
 exact⟨l1,l2,l3,h1,h2,h3⟩
theorem all_snoc {α:Type}{p:α→Prop}{l:List α}{x:α}(h:∀y,y∈l→p y)(hx:p x):∀y,y∈l++[x]→p y:=fun y hy=>by
 rcases List.mem_append.1 hy with hy|hy
 ·exact h y hy
 ·rw[List.mem_singleton]at hy;subst hy;exact hx
theorem PlU.item {e:Nat}{x:Pgm}{L:List Sgn}(hx:pgmB x=true)(h:InU e L):PlU e (fun y=>pgmB y=true) L.length (itemU e x L):=by
 obtain⟨l1,l2,l3,h1,h2,h3⟩:=pgmB_to hx
 unfold itemU
 split
 ·unfold domU
  refine PlU.bu (PlU.room h) fun _ L1 r1 i1 g1=>PlU.bu (PlU.must i1) fun _ L2 _ i2 g2=>PlU.bu (PlU.name i2) fun n L3 r3 i3 g3=>PlU.bu (PlU.num i3) fun z L4 r4 i4 g4=>PlU.bu (PlU.must i4) fun _ L5 _ i5 g5=>⟨?_,i5,by omega⟩
  have hlt:x.doms.length<32:=by
   rcases Nat.lt_or_ge x.doms.length 32 with h|h
   ·exact h
   ·have:=r1 h;cases this
  refine pgmB_of (by rw[List.length_append,List.length_singleton];omega) l2 l3 (all_snoc h1 ?_) h2 h3
  have:=r4.1
  simp only[dmB,Bool.and_eq_true,decide_eq_true_eq]
  exact⟨⟨r3.1,by omega⟩,by omega⟩
 ·split
  ·unfold relU
   refine PlU.bu (PlU.room h) fun _ L1 r1 i1 g1=>PlU.bu (PlU.must i1) fun _ L2 _ i2 g2=>PlU.bu (PlU.name i2) fun n L3 r3 i3 g3=>PlU.bu (PlU.list (Ok:=fun t=>nameB t=true) (fun L h=>(PlU.name h).mono (fun _ h=>⟨h.1,h.2.2⟩) (Nat.le_refl _)) i3) fun ds L4 r4 i4 g4=>PlU.bu (PlU.must i4) fun _ L5 _ i5 g5=>⟨?_,i5,by omega⟩
   have hlt:x.decls.length<32:=by
    rcases Nat.lt_or_ge x.decls.length 32 with h|h
    ·exact h
    ·have:=r1 h;cases this
   refine pgmB_of l1 (by rw[List.length_append,List.length_singleton];omega) l3 h1 (all_snoc h2 ?_) h3
   simp only[dclB,Bool.and_eq_true,decide_eq_true_eq,List.all_eq_true]
   exact⟨⟨⟨r3.1,by omega⟩,r4.2.2⟩,r4.1⟩
  ·rename_i d1 d2
   unfold rulU
   cases hr:roomU e L x.rules.length 64 (nextB [1] L)with
   |error q=>have:=PlU.room (hv:=x.rules.length) (mst:=64) (b:=nextB [1] L) h;rw[hr]at this;exact this
   |ok q=>
    obtain⟨u,L1⟩:=q
    have h0:=PlU.room (hv:=x.rules.length) (mst:=64) (b:=nextB [1] L) h
    rw[hr]at h0
    have e1:=room_same hr
    subst e1
    rw[bu_ok]
    refine PlU.bu (PlU.rule h (by simpa using d1) (by simpa using d2)) fun y L2 r2 i2 g2=>⟨?_,i2,g2⟩
    have hlt:x.rules.length<64:=by
     rcases Nat.lt_or_ge x.rules.length 64 with h|h
     ·exact h
     ·have:=h0.1 h;rw[this]at r2;cases r2.2
    exact pgmB_of l1 l2 (by rw[List.length_append,List.length_singleton];omega) h1 h2 (all_snoc h3 r2.1)
theorem PlU.items {e:Nat}:∀(f:Nat) (x:Pgm) (L:List Sgn),pgmB x=true→InU e L→L.length<f→PlU e (fun y=>pgmB y=true) (L.length+1) (itemsU e f x L)
 |0,x,L,_,_,hf=>by omega
 |f+1,x,L,hx,h,hf=>by
  simp only[itemsU]
  split
  ·exact⟨hx,h,by omega⟩
  ·exact PlU.bu (PlU.item hx h) fun y L2 hy i2 g2=>(PlU.items f y L2 hy i2 (by omega)).mono (fun _ h=>h) (by omega)
theorem lexSigns_in {s:List UInt8}{L:List Sgn}(h:lexSigns s=.ok L):InU s.length L:=by
 have h1:=(lexS_gd h).1
 have h2:LxIn s.length (lexSigns s):=by
  unfold lexSigns
  split
  ·exact Nat.zero_le _
  ·exact lex_in s.length _ s 0 [] (by omega) (fun y hy=>by cases hy)
 rw[h]at h2
 intro y hy
 refine⟨h2 y hy,?_⟩
 obtain⟨g1,g2,_⟩:=h1 y hy
 simp only[signB,Bool.and_eq_true,decide_eq_true_eq]
 exact⟨g1,g2⟩
theorem parseR_check {s:List UInt8}{x:Pgm}(h:parseR s=.ok x):pgmB x=true:=by
 cases hL:lexSigns s with
 |error q=>unfold parseR at h;rw[hL]at h;cases h
 |ok L=>
  rw[parseR_ok hL]at h
  have hp:=PlU.items (L.length+1) ⟨[],[],[]⟩ L (by decide) (lexSigns_in hL) (by omega)
  cases hI:itemsU s.length (L.length+1) ⟨[],[],[]⟩ L with
  |error q=>rw[hI]at h;cases h
  |ok q=>
   obtain⟨y,L'⟩:=q
   rw[hI]at h hp
   injection h with h
   subst h
   exact hp.1
attribute [local go_sem] Rw_at Rw_mk2 Rw_free Rw_set Rw_gt Rw_dis Rw_own Rw_ok Rw_ownd
attribute [local go_sem] disown_fl owned_fl own_fl
theorem Rw_unpk {s:St}{p r e T' sz n i:Nat}{W:List Sgn}{o:Own}{c c':Cell}(hpr:¬ p=r)(ho:NotOwn o p)(hr:NotOwn o r) :
  ((Rw (s.set p c) r e W i).own o T' sz n).set p c'=Rw ((s.own o T' sz n).set p c') r e W i:=by
 rw[Rw_own hr,own_push ho,Rw_set (by simp[hpr]),St.set_set]
theorem Rw_pack {s:St}{p r e T T' sz i n q:Nat}{W:List Sgn}{o:Own}{xs ys:List VV}{rs rs':List (Nat×TypeId×Nat)}{l:List (List VV)}(hpr:¬ p=r)(ho:NotOwn o p)(hr:NotOwn o r)(hO:OwnOk s o n)(hn:l.length=n)
  (hi:xs[i]?=some (.lst l o)) (hy:ys=xs.set i (.lst l .no)) (hrs:∀r,r∈rs'→r=(i,T',sz)∨(r∈rs∧r.1≠i)) :
  GS (Rw ((s.own o T' sz n).set p (.pk T xs rs)) r e W q) (Rw (s.set p (.pk T ys rs')) r e W q):=by
 subst hy
 subst hn
 have h:=GS.pack (s:=Rw ((s.own o T' sz l.length).set p (.pk T xs rs)) r e W q) (b:=p) (T:=T) (xs:=xs) (rs:=rs) (rs':=rs') (i:=i) (l:=l) (o:=o) (T':=T') (sz:=sz)
  (by rw[Rw_gt hpr,St.set_same]) hi (by rw[Rw_ownd hr,owned_set ho,owned_own hO];trivial) hrs
 rwa [Rw_dis hr,disown_set ho,disown_own hO,Rw_set (by simp[hpr]),St.set_set]at h
theorem roomU_lt {e hv m:Nat}{L L':List Sgn}{u:Unit}(h:roomU e L hv m true=.ok (u,L')):hv<m:=by
 unfold roomU at h
 split at h
 ·cases h
 ·rename_i hc
  rcases Nat.lt_or_ge hv m with h1|h1
  ·exact h1
  ·exact absurd ⟨h1,rfl⟩ hc
theorem domU_ok {e:Nat}{x y:Pgm}{L L':List Sgn}(h:domU e x L=.ok (y,L')):x.doms.length<32∧∃a b c d,L=a::b::c::d::L'∧a.text=[100,111,109]∧b.kind=1∧c.kind=2∧d.text=[46]∧y=⟨x.doms++[⟨b.text,(numN c.text:Nat)⟩],x.decls,x.rules⟩:=by
 unfold domU at h
 cases h0:roomU e L x.doms.length 32 true with
 |error q=>rw[h0]at h;cases h
 |ok q=>
  obtain⟨u,L0⟩:=q
  have hl:=roomU_lt h0
  have e0:=roomU_okY h0
  subst e0
  rw[h0,bu_ok]at h
  cases h1:mustU e L0 [100,111,109]with
  |error q=>rw[h1]at h;cases h
  |ok q=>
   obtain⟨u,L1⟩:=q
   obtain⟨c1,rfl⟩:=mustU_ok h1
   rw[h1,bu_ok]at h
   cases h2:nameU e L0.tail with
   |error q=>rw[h2]at h;cases h
   |ok q=>
    obtain⟨n,L2⟩:=q
    rw[h2,bu_ok]at h
    obtain⟨b,hb,hbk,hbt⟩:=kindU_ok h2
    cases h3:numU e L2 with
    |error q=>rw[h3]at h;cases h
    |ok q=>
     obtain⟨z,L3⟩:=q
     rw[h3,bu_ok]at h
     unfold numU at h3
     cases h3':kindU e L2 2 with
     |error q=>rw[h3']at h3;cases h3
     |ok q=>
      obtain⟨tx,L3'⟩:=q
      rw[h3',bu_ok]at h3
      injection h3 with h3;injection h3 with e1 e2
      subst e1;subst e2
      obtain⟨c,hc,hck,hct⟩:=kindU_ok h3'
      cases h4:mustU e L3' [46]with
      |error q=>rw[h4]at h;cases h
      |ok q=>
       obtain⟨u,L4⟩:=q
       obtain⟨c4,rfl⟩:=mustU_ok h4
       rw[h4,bu_ok]at h
       injection h with h;injection h with e1 e2
       cases L0 with
       |nil=>simp[isT]at c1
       |cons a L0=>
        cases L3' with
        |nil=>simp[isT]at c4
        |cons d L3'=>
         simp only[List.tail_cons]at hb e2
         refine⟨hl,a,b,c,d,by rw[hb,hc,e2],by simpa [isT]using c1,hbk,hck,by simpa [isT]using c4,?_⟩
         rw[← e1,hbt,hct]
theorem relU_ok {e:Nat}{x y:Pgm}{L L':List Sgn}(h:relU e x L=.ok (y,L')):x.decls.length<32∧isT L 0 [114,101,108]=true∧∃d,declU e L.tail=.ok (d,L')∧y=⟨x.doms,x.decls++[d],x.rules⟩:=by
 unfold relU at h
 cases h0:roomU e L x.decls.length 32 true with
 |error q=>rw[h0]at h;cases h
 |ok q=>
  obtain⟨u,L0⟩:=q
  have hl:=roomU_lt h0
  have e0:=roomU_okY h0
  subst e0
  rw[h0,bu_ok]at h
  cases h1:mustU e L0 [114,101,108]with
  |error q=>rw[h1]at h;cases h
  |ok q=>
   obtain⟨u,L1⟩:=q
   obtain⟨c1,rfl⟩:=mustU_ok h1
   rw[h1,bu_ok]at h
   refine⟨hl,c1,?_⟩
   unfold declU
   cases h2:nameU e L0.tail with
   |error q=>rw[h2]at h;cases h
   |ok q=>
    obtain⟨n,L2⟩:=q
    rw[h2]at h
    simp only[bu_ok]at h ⊢
    cases h3:listU e (nameU e) [1] L2 with
    |error q=>rw[h3]at h;cases h
    |ok q=>
     obtain⟨ds,L3⟩:=q
     rw[h3]at h
     simp only[bu_ok]at h ⊢
     cases h4:mustU e L3 [46]with
     |error q=>rw[h4]at h;cases h
     |ok q=>
      obtain⟨u,L4⟩:=q
      rw[h4]at h
      simp only[bu_ok]at h ⊢
      injection h with h;injection h with e1 e2
      exact⟨⟨n,ds⟩,by rw[e2],e1.symm⟩
theorem rulU_ok {e:Nat}{x y:Pgm}{L L':List Sgn}(h:rulU e x L=.ok (y,L')):x.rules.length<64∧∃a,ruleU e L=.ok (a,L')∧y=⟨x.doms,x.decls,x.rules++[a]⟩:=by
 unfold rulU at h
 cases h0:roomU e L x.rules.length 64 (nextB [1] L)with
 |error q=>rw[h0]at h;cases h
 |ok q=>
  obtain⟨u,L0⟩:=q
  have e0:=roomU_okY h0
  subst e0
  rw[h0,bu_ok]at h
  cases h1:ruleU e L0 with
  |error q=>rw[h1]at h;cases h
  |ok q=>
   obtain⟨a,L1⟩:=q
   rw[h1,bu_ok]at h
   injection h with h;injection h with e1 e2
   subst e2
   refine⟨?_,a,rfl,e1.symm⟩
   obtain⟨M1,M2,hat,_⟩:=ruleU_ok h1
   obtain⟨z,M3,M4,rfl,hk,_⟩:=atomU_ok hat
   have:nextB [1] (z::M3)=true:=by simp[nextB,hk]
   rw[this]at h0
   exact roomU_lt h0
theorem atm_small8 {a:Atm}(h:atmB a=true):a.ts.length≤8:=by
 simp only[atmB,Bool.and_eq_true,decide_eq_true_eq]at h
 exact h.2
theorem dcl_small8 {a:Dcl}(h:dclB a=true):a.doms.length≤8:=by
 simp only[dclB,Bool.and_eq_true,decide_eq_true_eq]at h
 exact h.1.2
theorem rul_small8 {a:Rul}(h:rulB a=true):a.head.ts.length≤8∧a.body.length≤8∧∀x,x∈a.body→x.ts.length≤8:=by
 simp only[rulB,Bool.and_eq_true,decide_eq_true_eq,List.all_eq_true]at h
 exact⟨atm_small8 h.1.1.1.1.1,h.1.2,fun x hx=>atm_small8 (h.2 x hx)⟩
end Go.Proofs.YtgdbgfjhenobdaaGreatDoor
namespace Go.Proofs.YtgdbgfjhenobdaaGreatDoor
open Go.RowKit
attribute [local go_sem] Rw_at Rw_mk2 Rw_free Rw_set Rw_gt Rw_dis Rw_own Rw_ok Rw_ownd
attribute [local go_sem] disown_fl owned_fl own_fl
set_option maxHeartbeats 8000000 in
theorem YParseD_S (l:List UInt8)(hl:l.length≤9223372036854775000)(x:Pgm)(hx:parseR l=.ok x)(s:St):SCalls Tryz.prog 19 [.str l] s fun w u=>∃q:Own×St,w=.ret (.tup [.agg [.lst (x.doms.map dmC) q.1,.lst (x.decls.map dclC) .no,.lst (x.rules.map rulC) .no],.int .i64 0,.int .i64 0])∧u=q.2∧(OwnOk s q.1 x.doms.length∧q.2=s.own q.1 57 2 x.doms.length):=by
 have hsig:=fun s=>Rsigns_S l hl s
 cases hL:lexSigns l with
 |error q=>unfold parseR at hx;rw[hL]at hx;cases hx
 |ok W=>
  rw[hL]at hsig
  simp only[signsV]at hsig
  rw[parseR_ok hL]at hx
  have hIn:=lexSigns_in hL
  obtain⟨hG,hWl⟩:=lexSigns_goodU hL
  have hw:W.length≤40000:=by omega
  have hgo:∃Le,itemsU l.length (W.length+1) ⟨[],[],[]⟩ W=.ok (x,Le):=by
   cases hI:itemsU l.length (W.length+1) ⟨[],[],[]⟩ W with
   |error q=>rw[hI]at hx;cases hx
   |ok q=>obtain⟨y,Le⟩:=q;rw[hI]at hx;injection hx with hx;subst hx;exact⟨Le,rfl⟩
  obtain⟨Le,hgo⟩:=hgo
  have HGO:=Lib.hid hgo
  have HIN:=Lib.hid hIn
  have HG:=Lib.hid hG
  clear hx hL hgo hIn hG
  generalize hle:l.length=e at *
  refine G_enter Tryz.func19 rfl Tryz.ntmps19 rfl fun Q hQ hQe=>?_
  (repeat'(first|refine Ctl ?_|((with_reducible refine Kof.use hK ?_);clear hK hE K E)|((with_reducible refine W_cond (fun h=>?_) (fun h=>?_))<;>(try(exfalso;assumption)))|((first|(with_reducible first|refine G_region fun K E hK hE=>?_|refine call_ret can24 (hsig _) ?_)|((with_reducible refine W_fresh (fun b hb=>?_));(repeat(obtain⟨_,hb⟩:=hb))))<;>(try simp(disch:=omega) only[go_sem,seval,hle, *]))))
  rename_i bz hbz r z5 z6 hr z7 z8 z9 z10
  obtain⟨bp,hbp⟩:∃x,x=b:=⟨_,rfl⟩
  subst hbp
  clear hsig h
  have hBz:(s.set bz (.obj 33 [.lst [] .full,.lst [] .full,.lst [] .full])) bz=.obj 33 [.lst [] .full,.lst [] .full,.lst [] .full]:=St.set_same _ _ _
  have hBf:Fg (s.set bz (.obj 33 [.lst [] .full,.lst [] .full,.lst [] .full])) s:=Fg.of_set _ hbz
  have hBr:(s.set bz (.obj 33 [.lst [] .full,.lst [] .full,.lst [] .full])) r=.free:=by rw[St.set_other _ _ z5];exact hr
  have hBp:(s.set bz (.obj 33 [.lst [] .full,.lst [] .full,.lst [] .full])) bp=.free:=by rw[St.set_other _ _ z9];exact hb
  change Kp _ _ _ _ _ _ _ ((Rw (s.set bz (.obj 33 [.lst [] .full,.lst [] .full,.lst [] .full])) r e W 0).set bp (.obj 33 [.lst [] .full,.lst [] .full,.lst [] .full]))
  generalize s.set bz (.obj 33 [.lst [] .full,.lst [] .full,.lst [] .full])=B at *
  have HBF:=Lib.hid hBf
  have HBZ:=Lib.hid hBz
  have HBR:=Lib.hid hBr
  have HBP:=Lib.hid hBp
  have HZ:=Lib.hid (And.intro hbz (And.intro hr hb))
  clear hBf hbz hr hb hBr hBp
  refine Kp_gs (GS.pg0 (St.set_same _ _ _)) ?_
  rw[St.set_set,Rw_set z7]
  refine G_loopS (fun m env t=>∃(q f:Nat) (y:Pgm) (Lq:List Sgn),Sfx W q Lq∧GoodU Lq∧InU e Lq∧pgmB y=true∧itemsU e f y Lq=.ok (x,Le)∧m=Lq.length∧t=Rw (B.set bp (.pk 33 (pgC y) rsP)) r e W q ∧
   env 2=.ptr bz 0∧env 8=.ptr r 0∧env 9=.ptr bp 0) W.length ?_ ?_
  ·exact⟨_,GS.refl _,0,_,⟨[],[],[]⟩,W,⟨by omega,rfl⟩,HG.out,HIN.out,by decide,HGO.out,rfl,rfl,z_sl,z_sl,z_sl⟩
  ·clear HGO HIN HG
   rintro m env t ⟨q,f,y,Lq,hS,hGq,hIq,hy,hgo,rfl,rfl,e2,e8,e9⟩
   have hql:=hS.1
   have hwm:(W.map sgnC).length=W.length:=List.length_map _
   cases f with
   |zero=>cases hgo
   |succ f=>
    simp only[itemsU]at hgo
    by_cases hnil:Lq=[]
    ·rw[if_pos hnil]at hgo
     injection hgo with hgo;injection hgo with hgo _
     subst hnil
     have hqe:=hS.nil
     subst hqe
     subst hgo
     simp only[pgC]
     clear hS hGq hIq
     have hdl:(y.doms.map dmC).length=y.doms.length:=List.length_map _
     refine Kp_unpk bp 0 (T':=57) (sz:=2) [(1,67,2),(2,74,4)] ((Rw_gt z7).trans (St.set_same _ _ _)) rfl (by simp) (by simp) ?_
     intro o hO hop
     have hor:NotOwn o r:=hO.not (by simp only[Rw_at];simp)
     rw[Rw_unpk z7 hop hor]
     simp only[Rw_ok,ownok_pk,hdl,List.set]at hO ⊢
     obtain⟨_,_,hO⟩:=hO
     have hoz:NotOwn o bz:=hO.not (by rw[HBZ.out];simp)
     have HOO:=Lib.hid (And.intro hO (And.intro hop (And.intro hor hoz)))
     (repeat'(first|refine Ctl ?_|(with_reducible first|(refine Kof.use hK ?_;clear hK hE K E)|(refine Kof.use hKh ?_;clear hKh Kh)|refine G_plan 6 [] [0,1,2,3,4,5,6,7,8,9,10,11,12,13,14,15,16] hQe fun K E hK hE=>?_)|((with_reducible refine W_cond (fun h=>?_) (fun h=>?_))<;>(try(exfalso;first|assumption|omega)))|(((with_reducible first|refine G_region fun K E hK hE=>?_|refine P_fin fun Kh hKh=>?_))<;>(try simp(disch:=first|assumption|omega) only[go_sem,seval,hwm,Rw_ok,Rw_dis,Rw_own,Rw_ownd,disown_fl,owned_fl,ownok_pk,or_true,if_true, *]))))
     all_goals(refine W_ret res19 hQ ?_)
     obtain⟨hO,hop,hor,hoz⟩:=HOO.out
     refine⟨_,s.own o 57 2 y.doms.length,Wk.refl _,?_,(o,_),rfl,rfl,ownok_fg HBF.out hO,rfl⟩
     exact Fg.setA (Fg.setA (Fg.setA (Fg.own2 HBF.out hO) (by rw[own_fr];exact⟨hop,HZ.out.2.2⟩)) (by rw[own_fr];exact⟨hoz,HZ.out.1⟩)) (by rw[own_fr];exact⟨hor,HZ.out.2.1⟩)
    ·rw[if_neg hnil]at hgo
     have hqlt:q<W.length:=by
      rcases Nat.lt_or_ge q W.length with h|h
      ·exact h
      ·have:=hS.2;rw[List.drop_eq_nil_of_le h]at this;exact absurd this.symm hnil
     cases hit:itemU e y Lq with
     |error q=>rw[hit]at hgo;cases hgo
     |ok qq=>
      obtain⟨y2,L2⟩:=qq
      rw[hit,bu_ok]at hgo
      have hpl:=PlU.item hy hIq
      rw[hit]at hpl
      obtain⟨hy2,hI2,hlt⟩:=hpl
      have HGO:=Lib.hid hgo
      have HY2:=Lib.hid hy2
      have HI2:=Lib.hid hI2
      have HLT:=Lib.hid hlt
      have v0:=fun s t=>Yis_S s r e q W t hql
      clear hgo hI2 hlt hIq hy
      unfold itemU at hit
      by_cases hd:isT Lq 0 [100,111,109]=true
      ·rw[if_pos hd]at hit
       obtain⟨hn,a,b1,c,d,rfl,ha,hb1,hc,hdd,rfl⟩:=domU_ok hit
       obtain⟨g0,s1,_⟩:=hS.cons
       obtain⟨g1,s2,_⟩:=s1.cons
       obtain⟨g2,s3,_⟩:=s2.cons
       obtain⟨g3,s4,_⟩:=s3.cons
       have hG4:GoodU L2:=fun z hz=>hGq z (by simp[hz])
       have HG4:=Lib.hid hG4
       have HS4:=Lib.hid s4
       have v1:=fun s=>Yis_S s r e q W [100,111,109] hql
       rw[show isT W q [100,111,109]=true by simp[isT,g0,ha]]at v1
       have v2:=fun s=>Yroom_S s r e q W (y.doms.length:Int) 32 true (by omega)
       have v3:=fun s=>Ykind_S s r e (q+1) W b1 1 hw g1 hb1
       have v4:=fun s=>Ykind_S s r e (q+1+1) W c 2 hw g2 hc
       obtain⟨n,hn2,hnl⟩:=hGq c (by simp) hc
       have hnn:numN c.text=n:=by simp[numN,hn2]
       have v5:=fun s=>Atoi_S c.text n hnl hn2 s
       have v6:=fun s=>Ytakes_S s r e (q+1+1+1) W [46] hw (by simp[isT,g3,hdd])
       have hdl:(y.doms.map dmC).length=y.doms.length:=List.length_map _
       clear hit hd hS hGq s1 s2 s3 s4 g0 g1 g2 g3 hG4 ha hb1 hc hdd hn2 hnl v0
       rw[hnn]at HY2 HGO
       clear hnn
       refine Kp_unpk bp 0 (T':=57) (sz:=2) [(1,67,2),(2,74,4)] ((Rw_gt z7).trans (St.set_same _ _ _)) rfl (by simp) (by simp) ?_
       intro o hO hop
       have hor:NotOwn o r:=hO.not (by simp only[Rw_at];simp)
       rw[Rw_unpk z7 hop hor]
       simp only[Rw_ok,ownok_pk,hdl,pgC,List.set]at hO ⊢
       obtain⟨_,_,hO⟩:=hO
       (repeat'(first|refine Ctl ?_|(with_reducible first|(refine Kof.use hK ?_;clear hK hE K E)|(refine Kof.use hKh ?_;clear hKh Kh)|refine G_plan 6 [] [0,1,2,3,4,5,6,7,8,9,10,11,12,13,14,15,16] hQe fun K E hK hE=>?_)|((with_reducible refine W_cond (fun h=>?_) (fun h=>?_))<;>(try(exfalso;assumption)))|((first|(with_reducible first|refine G_region fun K E hK hE=>?_|refine call_ret can45 (v1 _) ?_|refine call_ret can46 (v2 _) ?_|refine call_ret can47 (v3 _) ?_|refine call_ret can47 (v4 _) ?_|refine call_ret can48 (v5 _) ?_|refine call_ret can49 (v6 _) ?_|refine P_fin fun Kh hKh=>?_)|((with_reducible refine W_fresh (fun b hb=>?_));(repeat(obtain⟨_,hb⟩:=hb));(try(try(rw[own_fr]at hb;obtain⟨hob,hb⟩:=hb))))|((with_reducible refine W_app (fun o2 ho=>?_));(try simp(disch:=assumption) only[disown_set,disown_own,ownok_o,ownok_m,List.length_map,List.length_cons,List.length_nil,Nat.zero_add,hwm,hdl,dmC,Rw_ok,Rw_dis,Rw_own,Rw_ownd,disown_fl,owned_fl,ownok_pk,or_true,if_true]at ho);(repeat(obtain⟨_,ho⟩:=ho))))<;>(try simp(disch:=first|assumption|omega) only[go_sem,seval,hwm,hdl,dmC,Rw_ok,Rw_dis,Rw_own,Rw_ownd,disown_fl,owned_fl,ownok_pk,or_true,if_true, *]))))
       exact⟨Rw (B.set bp (.pk 33 (pgC ⟨y.doms++[⟨b1.text,(n:Nat)⟩],y.decls,y.rules⟩) rsP)) r e W (q+1+1+1+1),GS.trans (GS.of_fg (Fg.rw (Fg.of_set _ (by rw[St.set_other _ _ (by assumption),own_fr];exact⟨by assumption,hb⟩)))) (Rw_pack z7 (by assumption) (by assumption) ho (by simp) (i:=0) rfl (by simp[pgC,dmC]) (by simp)),L2.length,HLT.out,q+1+1+1+1,f,⟨y.doms++[⟨b1.text,(n:Nat)⟩],y.decls,y.rules⟩,L2,HS4.out,HG4.out,HI2.out,HY2.out,HGO.out,rfl,rfl,z_sl,z_sl,z_sl⟩
      ·rw[if_neg hd]at hit
       have hdf:isT Lq 0 [100,111,109]=false:=by simpa using hd
       have v1:=fun s=>Yis_S s r e q W [100,111,109] hql
       rw[hS.isT,hdf]at v1
       have v2:=fun s=>Yis_S s r e q W [114,101,108] hql
       rw[hS.isT]at v2
       by_cases hr:isT Lq 0 [114,101,108]=true
       ·rw[if_pos hr]at hit
        obtain⟨hn,hc,d,hdc,rfl⟩:=relU_ok hit
        rw[hr]at v2
        have g1:=hS.tail hc
        have hsuf:L2 <:+ Lq.tail:=by
         obtain⟨z,M1,M3,hM,_,_,_,hgo,_,_,rfl⟩:=declU_ok hdc
         rw[hM]
         exact(((suf_tail.trans suf_tail).trans (listGo_suf (fun _ _ _ h=>by obtain⟨z,rfl,_⟩:=kindU_ok h;exact List.suffix_cons _ _) _ hgo)).trans suf_tail).trans (List.suffix_cons _ _)
        obtain⟨q2,s2⟩:=g1.suf hsuf
        have hG4:GoodU L2:=suf_good (hsuf.trans suf_tail) hGq
        have HG4:=Lib.hid hG4
        have HS4:=Lib.hid s2
        have h8:d.doms.length≤8:=by
         have:=(pgmB_to HY2.out).2.2.2.2.1 d (by simp)
         exact(dcl_small8 this)
        have v3:=fun s=>Yroom_S s r e q W (y.decls.length:Int) 32 true (by omega)
        have v4:=fun s=>Ydecl_S s r e (q+1) q2 W _ L2 d hw g1 hdc s2 h8
        have hdl:(y.decls.map dclC).length=y.decls.length:=List.length_map _
        obtain⟨dn,dd⟩:=d
        simp only[dclC]at v4
        clear hit hd hr hc hS hGq s2 g1 hG4 v0 hdf hdc hsuf
        refine Kp_unpk bp 1 (T':=67) (sz:=2) [(0,57,2),(2,74,4)] ((Rw_gt z7).trans (St.set_same _ _ _)) rfl (by simp) (by simp) ?_
        intro o hO hop
        have hor:NotOwn o r:=hO.not (by simp only[Rw_at];simp)
        rw[Rw_unpk z7 hop hor]
        simp only[Rw_ok,ownok_pk,hdl,pgC,List.set]at hO ⊢
        obtain⟨_,_,hO⟩:=hO
        (repeat'(first|refine Ctl ?_|(with_reducible first|(refine Kof.use hK ?_;clear hK hE K E)|(refine Kof.use hKh ?_;clear hKh Kh)|(refine Kof.use hKb (P_next ?_);clear hKb Kb)|refine G_plan 6 [] [0,1,2,3,4,5,6,7,8,9,10,11,12,13,14,15,16] hQe fun K E hK hE=>?_|refine G_plan 20 [([0,1,2],3,[[0,1]]),([4],5,[[],[]]),([6],7,[[],[],[]])] [] hQe fun K E hK hE=>?_)|((with_reducible refine W_cond (fun h=>?_) (fun h=>?_))<;>(try(exfalso;assumption)))|((first|(with_reducible first|refine G_region fun K E hK hE=>?_|refine call_ret can45 (v1 _) ?_|refine call_ret can45 (v2 _) ?_|refine call_ret can46 (v3 _) ?_|refine call_ret can50 (v4 _) ?_|refine P_heads fun Kh hKh=>?_|refine P_fin fun Kh hKh=>?_|refine P_each fun Kb hKb=>?_)|((with_reducible refine W_app (fun o2 ho=>?_));(try simp(disch:=assumption) only[disown_set,disown_own,ownok_o,ownok_m,List.length_map,List.length_cons,List.length_nil,Nat.zero_add,hwm,hdl,dclC,Rw_ok,Rw_dis,Rw_own,Rw_ownd,disown_fl,owned_fl,ownok_pk,or_true,if_true]at ho);(repeat(obtain⟨_,ho⟩:=ho))))<;>(try simp(disch:=first|assumption|omega) only[go_sem,seval,hwm,hdl,dclC,Rw_ok,Rw_dis,Rw_own,Rw_ownd,disown_fl,owned_fl,ownok_pk,or_true,if_true, *]))))
        exact⟨Rw (B.set bp (.pk 33 (pgC ⟨y.doms,y.decls++[⟨dn,dd⟩],y.rules⟩) rsP)) r e W (q2),Rw_pack z7 (by assumption) (by assumption) ho (by simp) (i:=1) rfl (by simp[pgC,dclC]) (by simp),L2.length,HLT.out,q2,f,⟨y.doms,y.decls++[⟨dn,dd⟩],y.rules⟩,L2,HS4.out,HG4.out,HI2.out,HY2.out,HGO.out,rfl,rfl,z_sl,z_sl,z_sl⟩
       ·rw[if_neg hr]at hit
        have hrf:isT Lq 0 [114,101,108]=false:=by simpa using hr
        obtain⟨hn,a,hra,rfl⟩:=rulU_ok hit
        rw[hrf]at v2
        have hsuf:L2 <:+ Lq:=by
         obtain⟨M1,M2,hat,hbd,_,rfl⟩:=ruleU_ok hra
         rcases hbd with ⟨_,hgo⟩|⟨_,_,rfl⟩
         ·exact((suf_tail.trans (bodyGo_more _ hgo).2.2).trans suf_tail).trans (atomU_suf hat)
         ·exact suf_tail.trans (atomU_suf hat)
        obtain⟨q2,s2⟩:=hS.suf hsuf
        have hG4:GoodU L2:=suf_good hsuf hGq
        have HG4:=Lib.hid hG4
        have HS4:=Lib.hid s2
        have hra2:=(pgmB_to HY2.out).2.2.2.2.2 a (by simp)
        obtain⟨k1,k2,k3⟩:=rul_small8 hra2
        have v3:=fun s a b t=>Ynext_S s r e q W a b t hql
        have v4:=fun s b=>Yroom_S s r e q W (y.rules.length:Int) 64 b (by omega)
        have v5:=fun s=>Yrule_S s r e q q2 W _ L2 a hw hGq hS hra s2 k1 k2 k3
        have hdl:(y.rules.map rulC).length=y.rules.length:=List.length_map _
        obtain⟨⟨an,ar,ats⟩,abd⟩:=a
        simp only[rulC]at v5
        clear hit hd hr hS hGq s2 hG4 v0 hdf hra hrf hsuf hra2 k1 k2 k3
        refine Kp_unpk bp 2 (T':=74) (sz:=4) [(0,57,2),(1,67,2)] ((Rw_gt z7).trans (St.set_same _ _ _)) rfl (by simp) (by simp) ?_
        intro o hO hop
        have hor:NotOwn o r:=hO.not (by simp only[Rw_at];simp)
        rw[Rw_unpk z7 hop hor]
        simp only[Rw_ok,ownok_pk,hdl,pgC,List.set]at hO ⊢
        obtain⟨_,_,hO⟩:=hO
        (repeat'(first|refine Ctl ?_|(with_reducible first|(refine Kof.use hK ?_;clear hK hE K E)|(refine Kof.use hKh ?_;clear hKh Kh)|(refine Kof.use hKb (P_next ?_);clear hKb Kb)|refine G_plan 6 [] [0,1,2,3,4,5,6,7,8,9,10,11,12,13,14,15,16] hQe fun K E hK hE=>?_|refine G_plan 7 [([0,1,2,3,4],5,[[0,1,2,3]]),([],6,[[],[]])] [] hQe fun K E hK hE=>?_|refine G_plan 8 [([0,1,2],3,[[0,1]]),([4],5,[[],[]]),([6],7,[[],[],[]])] [] hQe fun K E hK hE=>?_)|((with_reducible refine W_cond (fun h=>?_) (fun h=>?_))<;>(try(exfalso;assumption)))|((first|(with_reducible first|refine G_region fun K E hK hE=>?_|refine call_ret can45 (v1 _) ?_|refine call_ret can45 (v2 _) ?_|refine call_ret can46 (v4 _ _) ?_|refine call_ret can52 (v5 _) ?_|refine P_heads fun Kh hKh=>?_|refine P_fin fun Kh hKh=>?_|refine P_each fun Kb hKb=>?_)|((with_reducible refine call_ex can51 (v3 _ _ _ _) (fun a h=>?_)))|((with_reducible refine W_app (fun o2 ho=>?_));(try simp(disch:=assumption) only[disown_set,disown_own,ownok_o,ownok_m,List.length_map,List.length_cons,List.length_nil,Nat.zero_add,hwm,hdl,rulC,Rw_ok,Rw_dis,Rw_own,Rw_ownd,disown_fl,owned_fl,ownok_pk,or_true,if_true]at ho);(repeat(obtain⟨_,ho⟩:=ho))))<;>(try simp(disch:=first|assumption|omega) only[go_sem,seval,hwm,hdl,rulC,Rw_ok,Rw_dis,Rw_own,Rw_ownd,disown_fl,owned_fl,ownok_pk,or_true,if_true, *]))))
        exact⟨Rw (B.set bp (.pk 33 (pgC ⟨y.doms,y.decls,y.rules++[⟨⟨an,ar,ats⟩,abd⟩]⟩) rsP)) r e W (q2),Rw_pack z7 (by assumption) (by assumption) ho (by simp) (i:=2) rfl (by simp[pgC,rulC]) (by simp),L2.length,HLT.out,q2,f,⟨y.doms,y.decls,y.rules++[⟨⟨an,ar,ats⟩,abd⟩]⟩,L2,HS4.out,HG4.out,HI2.out,HY2.out,HGO.out,rfl,rfl,z_sl,z_sl,z_sl⟩
end Go.Proofs.YtgdbgfjhenobdaaGreatDoor
namespace Go.Proofs.YtgdbgfjhenobdaaGreatDoor
open Go.RowKit
set_option maxHeartbeats 2000000 in
theorem RsameAtom_S (a b:Atm)(oa ob:Own)(ha:a.ts.length≤140737488355328)(s:St):SRet Tryz.prog 53 [.agg [.bool a.not,.str a.rel,.lst (a.ts.map trmC) oa],.agg [.bool b.not,.str b.rel,.lst (b.ts.map trmC) ob]] s (.bool (eqB a b)) s:=by
 obtain⟨an,ar,ats⟩:=a
 obtain⟨bn,br,bts⟩:=b
 simp only at ha ⊢
 refine G_enter Tryz.func53 rfl Tryz.ntmps53 rfl fun Q hQ hQe=>?_
 by_cases h0:an=bn∧ar=br∧ats.length=bts.length
 ·obtain⟨rfl,rfl,hl⟩:=h0
  have hl2:((ats.length:Int)=(bts.length:Int))=True:=eq_true (by omega)
  have HL:=Lib.hid hl
  clear hl
  (repeat'(first|refine Ctl ?_|((with_reducible refine Kof.use hK ?_);clear hK hE K E)|((with_reducible refine W_cond (fun h=>?_) (fun h=>?_))<;>(try(exfalso;assumption)))|((first|(with_reducible refine G_region fun K E hK hE=>?_)|((with_reducible refine W_fresh (fun b hb=>?_));(repeat(obtain⟨_,hb⟩:=hb))))<;>(try simp(disch:=omega) only[go_sem,seval,List.length_map,BEq.rfl, *]))))
  rename_i b2 hb2 n1 n2
  obtain⟨b3,hb3⟩:∃x,x=b:=⟨_,rfl⟩
  subst hb3
  refine G_loop (fun m env s'=>∃i:Nat,i≤ats.length∧m+i=ats.length∧ats.take i=bts.take i∧s'=(s.set b2 (.obj 71 [.bool an,.str ar,.lst (ats.map trmC) oa])).set b3 (.obj 71 [.bool an,.str ar,.lst (bts.map trmC) ob])∧env 2=.ptr b2 0∧env 3=.ptr b3 0∧env 5=.int .i64 i) ats.length ⟨_,Fg.refl _,0,by omega,by omega,rfl,rfl,z_sl,z_sl,z_sl⟩ ?_
  rintro m env s' ⟨i,hi,hm,he,rfl,e2,e3,e5⟩
  have HE:=Lib.hid he
  clear he
  by_cases hlt:i<ats.length
  ·obtain⟨x,hx⟩:=uget hlt
   obtain⟨y,hy⟩:=uget (l:=bts) (i:=i) (by rw[← HL.out];exact hlt)
   have hsx:=trmC_at hx
   have hsy:=trmC_at hy
   have HX:=Lib.hid (And.intro hx hy)
   clear hx hy
   have hlb:i<bts.length:=by have:=HL.out;omega
   obtain⟨xv,xn,xk⟩:=x
   obtain⟨yv,yn,yk⟩:=y
   (repeat'(first|refine Ctl ?_|(with_reducible first|(refine Kof.use hK ?_;clear hK hE K E)|(refine Kof.use hKh ?_;clear hKh Kh)|refine G_plan 6 [] [0,1,2,3,4,5,6,7,8,9,10] hQe fun K E hK hE=>?_)|((with_reducible refine W_cond (fun h=>?_) (fun h=>?_))<;>(try(exfalso;assumption)))|(((with_reducible first|refine G_region fun K E hK hE=>?_|refine P_fin fun Kh hKh=>?_))<;>(try simp(disch:=omega) only[go_sem,seval,List.length_map,hsx,hsy,trmC, *]))))
   ·have hne:¬ ats=bts:=ne_at HX.out.1 HX.out.2 (fun e=>by injection e;simp_all)
    (refine W_ret res53 hQ ?_)
    (refine⟨_,_,Wk.of_eq ?_,?_,rfl,rfl⟩)
    ·rw[eqB_f (by intro e;injection e;contradiction)]
    ·(exact z_fg)
   ·have heq:(⟨xv,xn,xk⟩:Trm)=⟨yv,yn,yk⟩:=by simp_all
    exact⟨_,z_fg,m - 1,by omega,i+1,by omega,by omega,take_eq_succ HX.out.1 HX.out.2 HE.out heq,rfl,z_sl,z_sl,z_sl⟩
  ·(repeat'(first|refine Ctl ?_|((with_reducible refine Kof.use hK ?_);clear hK hE K E)|((with_reducible refine W_cond (fun h=>?_) (fun h=>?_))<;>(try(exfalso;assumption)))|(((with_reducible refine G_region fun K E hK hE=>?_))<;>(try simp(disch:=omega) only[go_sem,seval,List.length_map, *]))))
   all_goals(refine W_ret res53 hQ ?_)
   all_goals(refine⟨_,_,Wk.of_eq ?_,?_,rfl,rfl⟩)
   ·rw[take_eq HL.out (by have:=HE.out;rwa [show i=ats.length by omega]at this),eqB_self]
   ·(exact z_fg)
 ·have hne:eqB (⟨an,ar,ats⟩:Atm) ⟨bn,br,bts⟩=false:=eqB_f (by intro e;injection e with e1 e2 e3;exact h0 ⟨e1,e2,by rw[e3]⟩)
  have HNE:=Lib.hid hne
  clear hne
  by_cases h1:ar=br
  ·by_cases h2:ats.length=bts.length
   ·have h3:¬ an=bn:=fun e=>h0 ⟨e,h1,h2⟩
    have h4:(an == bn)=false:=by simpa using h3
    clear h0
    (repeat'(first|refine Ctl ?_|((with_reducible refine Kof.use hK ?_);clear hK hE K E)|((with_reducible refine W_cond (fun h=>?_) (fun h=>?_))<;>(try(exfalso;assumption)))|((first|(with_reducible refine G_region fun K E hK hE=>?_)|((with_reducible refine W_fresh (fun b hb=>?_));(repeat(obtain⟨_,hb⟩:=hb))))<;>(try simp(disch:=omega) only[go_sem,seval,List.length_map, *]))))
    all_goals(refine W_ret res53 hQ ?_)
    all_goals(refine⟨_,_,Wk.of_eq ?_,?_,rfl,rfl⟩)
    all_goals first|rw[HNE.out]|(exact z_fg)
   ·have h3:¬ ((ats.length:Int)=(bts.length:Int)):=by omega
    clear h0
    cases an<;>cases bn
    all_goals(repeat'(first|refine Ctl ?_|((with_reducible refine Kof.use hK ?_);clear hK hE K E)|((with_reducible refine W_cond (fun h=>?_) (fun h=>?_))<;>(try(exfalso;assumption)))|((first|(with_reducible refine G_region fun K E hK hE=>?_)|((with_reducible refine W_fresh (fun b hb=>?_));(repeat(obtain⟨_,hb⟩:=hb))))<;>(try simp(disch:=omega) only[go_sem,seval,List.length_map,beqT,beqF, *]))))
    all_goals(refine W_ret res53 hQ ?_)
    all_goals(refine⟨_,_,Wk.of_eq ?_,?_,rfl,rfl⟩)
    all_goals first|rw[HNE.out]|(exact z_fg)
  ·clear h0
   cases an<;>cases bn
   all_goals(repeat'(first|refine Ctl ?_|((with_reducible refine Kof.use hK ?_);clear hK hE K E)|((with_reducible refine W_cond (fun h=>?_) (fun h=>?_))<;>(try(exfalso;assumption)))|((first|(with_reducible refine G_region fun K E hK hE=>?_)|((with_reducible refine W_fresh (fun b hb=>?_));(repeat(obtain⟨_,hb⟩:=hb))))<;>(try simp(disch:=omega) only[go_sem,seval,List.length_map,beqT,beqF, *]))))
   all_goals(refine W_ret res53 hQ ?_)
   all_goals(refine⟨_,_,Wk.of_eq ?_,?_,rfl,rfl⟩)
   all_goals first|rw[HNE.out]|(exact z_fg)
set_option maxHeartbeats 2000000 in
theorem RsameRule_S (a b:Rul)(ha:RulOk a)(s:St):SRet Tryz.prog 23 [.agg (rulC a),.agg (rulC b)] s (.bool (eqB a b)) s:=by
 obtain⟨⟨an,ar,ats⟩,abd⟩:=a
 obtain⟨⟨bn,br,bts⟩,bbd⟩:=b
 obtain⟨⟨_,ha1,_⟩,ha2,ha3⟩:=ha
 simp only at ha1 ha2 ha3
 have r1:=fun o1 o2 s=>RsameAtom_S ⟨an,ar,ats⟩ ⟨bn,br,bts⟩ o1 o2 ha1 s
 simp only at r1
 refine G_enter Tryz.func23 rfl Tryz.ntmps23 rfl fun Q hQ hQe=>?_
 cases hE:eqB (⟨an,ar,ats⟩:Atm) ⟨bn,br,bts⟩with
 |false=>
  rw[hE]at r1
  have hne:eqB (⟨⟨an,ar,ats⟩,abd⟩:Rul) ⟨⟨bn,br,bts⟩,bbd⟩=false:=eqB_f (by intro e;injection e with e1 e2;rw[eqB_t e1]at hE;cases hE)
  have HNE:=Lib.hid hne
  clear hne hE
  (repeat'(first|refine Ctl ?_|((with_reducible refine Kof.use hK ?_);clear hK hE K E)|((with_reducible refine W_cond (fun h=>?_) (fun h=>?_))<;>(try(exfalso;assumption)))|((first|(with_reducible first|refine G_region fun K E hK hE=>?_|refine call_ret can53 (r1 _ _ _) ?_)|((with_reducible refine W_fresh (fun b hb=>?_));(repeat(obtain⟨_,hb⟩:=hb))))<;>(try simp(disch:=omega) only[go_sem,seval,rulC, *]))))
  all_goals(refine W_ret res23 hQ ?_)
  all_goals(refine⟨_,_,Wk.of_eq ?_,?_,rfl,rfl⟩)
  all_goals first|rw[HNE.out]|(exact z_fg)
 |true=>
  rw[hE]at r1
  have heq:=eqB_i.1 hE
  have HE0:=Lib.hid heq
  clear hE heq
  by_cases hl:abd.length=bbd.length
  ·have hl2:((abd.length:Int)=(bbd.length:Int))=True:=eq_true (by omega)
   have HL:=Lib.hid hl
   clear hl
   (repeat'(first|refine Ctl ?_|((with_reducible refine Kof.use hK ?_);clear hK hE K E)|((with_reducible refine W_cond (fun h=>?_) (fun h=>?_))<;>(try(exfalso;assumption)))|((first|(with_reducible first|refine G_region fun K E hK hE=>?_|refine call_ret can53 (r1 _ _ _) ?_)|((with_reducible refine W_fresh (fun b hb=>?_));(repeat(obtain⟨_,hb⟩:=hb))))<;>(try simp(disch:=omega) only[go_sem,seval,rulC,List.length_map, *]))))
   rename_i b2 hb2 n1 n2
   obtain⟨b3,hb3⟩:∃x,x=b:=⟨_,rfl⟩
   subst hb3
   clear r1
   refine G_loop (fun m env s'=>∃i:Nat,i≤abd.length∧m+i=abd.length∧abd.take i=bbd.take i∧s'=(s.set b2 (.obj 74 [.bool an,.str ar,.lst (ats.map trmC) .no,.lst (abd.map atmC) .no])).set b3 (.obj 74 [.bool bn,.str br,.lst (bts.map trmC) .no,.lst (bbd.map atmC) .no])∧env 2=.ptr b2 0∧env 3=.ptr b3 0∧env 5=.int .i64 i) abd.length ⟨_,Fg.refl _,0,by omega,by omega,rfl,rfl,z_sl,z_sl,z_sl⟩ ?_
   rintro m env s' ⟨i,hi,hm,he,rfl,e2,e3,e5⟩
   have HE:=Lib.hid he
   clear he
   by_cases hlt:i<abd.length
   ·obtain⟨x,hx⟩:=uget hlt
    obtain⟨y,hy⟩:=uget (l:=bbd) (i:=i) (by rw[← HL.out];exact hlt)
    have hsx:=atmC_at hx
    have hsy:=atmC_at hy
    have hxo:=(ha3 x (List.mem_of_getElem? hx)).2.1
    have HX:=Lib.hid (And.intro hx hy)
    clear hx hy
    have hlb:i<bbd.length:=by have:=HL.out;omega
    obtain⟨xv,xn,xk⟩:=x
    obtain⟨yv,yn,yk⟩:=y
    have r2:=fun o1 o2 s=>RsameAtom_S ⟨xv,xn,xk⟩ ⟨yv,yn,yk⟩ o1 o2 hxo s
    simp only at r2
    cases hE2:eqB (⟨xv,xn,xk⟩:Atm) ⟨yv,yn,yk⟩with
    |false=>
     rw[hE2]at r2
     have hne:eqB (⟨⟨an,ar,ats⟩,abd⟩:Rul) ⟨⟨bn,br,bts⟩,bbd⟩=false:=eqB_f (by
      intro e;injection e with e1 e2
      exact ne_at HX.out.1 HX.out.2 (by intro e;rw[eqB_t e]at hE2;cases hE2) e2)
     have HNE:=Lib.hid hne
     clear hne hE2
     (repeat'(first|refine Ctl ?_|(with_reducible first|(refine Kof.use hK ?_;clear hK hE K E)|(refine Kof.use hKh ?_;clear hKh Kh)|(refine Kof.use hKb (P_next ?_);clear hKb Kb)|refine G_plan 6 [([0,1,2,3,4,5,6,7,8,9],10,[[]])] [11] hQe fun K E hK hE=>?_)|((with_reducible refine W_cond (fun h=>?_) (fun h=>?_))<;>(try(exfalso;assumption)))|(((with_reducible first|refine G_region fun K E hK hE=>?_|refine call_ret can53 (r2 _ _ _) ?_|refine P_heads fun Kh hKh=>?_|refine P_fin fun Kh hKh=>?_|refine P_each fun Kb hKb=>?_))<;>(try simp(disch:=omega) only[go_sem,seval,List.length_map,hsx,hsy,atmC, *]))))
     all_goals(refine W_ret res23 hQ ?_)
     all_goals(refine⟨_,_,Wk.of_eq ?_,?_,rfl,rfl⟩)
     all_goals first|rw[HNE.out]|(exact z_fg)
    |true=>
     rw[hE2]at r2
     have heq:=eqB_i.1 hE2
     have HQ:=Lib.hid heq
     clear hE2 heq
     (repeat'(first|refine Ctl ?_|(with_reducible first|(refine Kof.use hK ?_;clear hK hE K E)|(refine Kof.use hKh ?_;clear hKh Kh)|(refine Kof.use hKb (P_next ?_);clear hKb Kb)|refine G_plan 6 [([0,1,2,3,4,5,6,7,8,9],10,[[]])] [11] hQe fun K E hK hE=>?_)|((with_reducible refine W_cond (fun h=>?_) (fun h=>?_))<;>(try(exfalso;assumption)))|(((with_reducible first|refine G_region fun K E hK hE=>?_|refine call_ret can53 (r2 _ _ _) ?_|refine P_heads fun Kh hKh=>?_|refine P_fin fun Kh hKh=>?_|refine P_each fun Kb hKb=>?_))<;>(try simp(disch:=omega) only[go_sem,seval,List.length_map,hsx,hsy,atmC, *]))))
     exact⟨_,z_fg,m - 1,by omega,i+1,by omega,by omega,take_eq_succ HX.out.1 HX.out.2 HE.out HQ.out,rfl,z_sl,z_sl,z_sl⟩
   ·(repeat'(first|refine Ctl ?_|((with_reducible refine Kof.use hK ?_);clear hK hE K E)|((with_reducible refine W_cond (fun h=>?_) (fun h=>?_))<;>(try(exfalso;assumption)))|(((with_reducible refine G_region fun K E hK hE=>?_))<;>(try simp(disch:=omega) only[go_sem,seval,List.length_map, *]))))
    all_goals(refine W_ret res23 hQ ?_)
    all_goals(refine⟨_,_,Wk.of_eq ?_,?_,rfl,rfl⟩)
    ·rw[HE0.out,take_eq HL.out (by have:=HE.out;rwa [show i=abd.length by omega]at this),eqB_self]
    ·(exact z_fg)
  ·have hne:eqB (⟨⟨an,ar,ats⟩,abd⟩:Rul) ⟨⟨bn,br,bts⟩,bbd⟩=false:=eqB_f (by intro e;injection e with e1 e2;exact hl (by rw[e2]))
   have HNE:=Lib.hid hne
   have h3:¬ ((abd.length:Int)=(bbd.length:Int)):=by omega
   clear hne
   (repeat'(first|refine Ctl ?_|((with_reducible refine Kof.use hK ?_);clear hK hE K E)|((with_reducible refine W_cond (fun h=>?_) (fun h=>?_))<;>(try(exfalso;assumption)))|((first|(with_reducible first|refine G_region fun K E hK hE=>?_|refine call_ret can53 (r1 _ _ _) ?_)|((with_reducible refine W_fresh (fun b hb=>?_));(repeat(obtain⟨_,hb⟩:=hb))))<;>(try simp(disch:=omega) only[go_sem,seval,rulC,List.length_map, *]))))
   all_goals(refine W_ret res23 hQ ?_)
   all_goals(refine⟨_,_,Wk.of_eq ?_,?_,rfl,rfl⟩)
   all_goals first|rw[HNE.out]|(exact z_fg)
set_option maxHeartbeats 4000000 in
theorem USame_S (a b:Pgm)(ha:PgmOk a)(s:St):SRet Tryz.prog 10 [.agg (pgC a),.agg (pgC b)] s (.bool (eqB a b)) s:=by
 obtain⟨ad,ac,ar⟩:=a
 obtain⟨bd,bc,br⟩:=b
 obtain⟨hd,hc,hr,_,hdc,hrr⟩:=ha
 simp only at hd hc hr hdc hrr
 refine G_enter Tryz.func10 rfl Tryz.ntmps10 rfl fun Q hQ hQe=>?_
 by_cases h0:ad.length=bd.length∧ac.length=bc.length∧ar.length=br.length
 ·obtain⟨l1,l2,l3⟩:=h0
  have m1:((ad.length:Int)=(bd.length:Int))=True:=eq_true (by omega)
  have m2:((ac.length:Int)=(bc.length:Int))=True:=eq_true (by omega)
  have m3:((ar.length:Int)=(br.length:Int))=True:=eq_true (by omega)
  have HL1:=Lib.hid l1
  have HL2:=Lib.hid l2
  have HL3:=Lib.hid l3
  clear l1 l2 l3
  (repeat'(first|refine Ctl ?_|((with_reducible refine Kof.use hK ?_);clear hK hE K E)|((with_reducible refine W_cond (fun h=>?_) (fun h=>?_))<;>(try(exfalso;assumption)))|((first|(with_reducible refine G_region fun K E hK hE=>?_)|((with_reducible refine W_fresh (fun b hb=>?_));(repeat(obtain⟨_,hb⟩:=hb))))<;>(try simp(disch:=omega) only[go_sem,seval,pgC,List.length_map, *]))))
  rename_i b2 hb2 n1 n2
  obtain⟨b3,hb3⟩:∃x,x=b:=⟨_,rfl⟩
  subst hb3
  have h2:((s.set b2 (.obj 33 [.lst (ad.map dmC) .no,.lst (ac.map dclC) .no,.lst (ar.map rulC) .no])).set b3 (.obj 33 [.lst (bd.map dmC) .no,.lst (bc.map dclC) .no,.lst (br.map rulC) .no])) b2=.obj 33 [.lst (ad.map dmC) .no,.lst (ac.map dclC) .no,.lst (ar.map rulC) .no]:=by
   rw[St.set_other _ _ (by assumption),St.set_same]
  have h3:((s.set b2 (.obj 33 [.lst (ad.map dmC) .no,.lst (ac.map dclC) .no,.lst (ar.map rulC) .no])).set b3 (.obj 33 [.lst (bd.map dmC) .no,.lst (bc.map dclC) .no,.lst (br.map rulC) .no])) b3=.obj 33 [.lst (bd.map dmC) .no,.lst (bc.map dclC) .no,.lst (br.map rulC) .no]:=St.set_same _ _ _
  have hF:Fg ((s.set b2 (.obj 33 [.lst (ad.map dmC) .no,.lst (ac.map dclC) .no,.lst (ar.map rulC) .no])).set b3 (.obj 33 [.lst (bd.map dmC) .no,.lst (bc.map dclC) .no,.lst (br.map rulC) .no])) s:=z_fg
  generalize ((s.set b2 (.obj 33 [.lst (ad.map dmC) .no,.lst (ac.map dclC) .no,.lst (ar.map rulC) .no])).set b3 (.obj 33 [.lst (bd.map dmC) .no,.lst (bc.map dclC) .no,.lst (br.map rulC) .no]))=S at *
  have HF:=Lib.hid hF
  clear hF hb2 hb
  refine G_loop (fun m env s'=>∃i:Nat,i≤ad.length∧m+i=ad.length∧ad.take i=bd.take i∧s'=S∧env 2=.ptr b2 0∧env 3=.ptr b3 0∧env 5=.int .i64 i) ad.length ⟨_,Fg.refl _,0,by omega,by omega,rfl,rfl,z_sl,z_sl,z_sl⟩ ?_
  rintro m env s' ⟨i,hi,hm,he,rfl,e2,e3,e5⟩
  have HE:=Lib.hid he
  clear he
  by_cases hlt:i<ad.length
  ·obtain⟨x,hx⟩:=uget hlt
   obtain⟨y,hy⟩:=uget (l:=bd) (i:=i) (by rw[← HL1.out];exact hlt)
   have hsx:=dmC_at hx
   have hsy:=dmC_at hy
   have HX:=Lib.hid (And.intro hx hy)
   clear hx hy
   have hlb:i<bd.length:=by have:=HL1.out;omega
   obtain⟨xn,xk⟩:=x
   obtain⟨yn,yk⟩:=y
   (repeat'(first|refine Ctl ?_|(with_reducible first|(refine Kof.use hK ?_;clear hK hE K E)|(refine Kof.use hKh ?_;clear hKh Kh)|refine G_plan 6 [] [0,1,2,3,4,5,6,7,8,9,10] hQe fun K E hK hE=>?_)|((with_reducible refine W_cond (fun h=>?_) (fun h=>?_))<;>(try(exfalso;assumption)))|(((with_reducible first|refine G_region fun K E hK hE=>?_|refine P_fin fun Kh hKh=>?_))<;>(try simp(disch:=omega) only[go_sem,seval,List.length_map,hsx,hsy,dmC, *]))))
   ·have hne:¬ ad=bd:=ne_at HX.out.1 HX.out.2 (fun e=>by injection e;simp_all)
    (refine W_ret res10 hQ ?_)
    (refine⟨_,_,Wk.of_eq ?_,?_,rfl,rfl⟩)
    ·rw[eqB_f (by intro e;injection e;contradiction)]
    ·exact HF.out
   ·have heq:(⟨xn,xk⟩:Dm)=⟨yn,yk⟩:=by simp_all
    exact⟨_,Fg.refl _,m - 1,by omega,i+1,by omega,by omega,take_eq_succ HX.out.1 HX.out.2 HE.out heq,rfl,z_sl,z_sl,z_sl⟩
  ·have hq1:ad=bd:=take_eq HL1.out (by have:=HE.out;rwa [show i=ad.length by omega]at this)
   have HQ1:=Lib.hid hq1
   clear hq1
   (repeat'(first|refine Ctl ?_|((with_reducible refine Kof.use hK ?_);clear hK hE K E)|((with_reducible refine W_cond (fun h=>?_) (fun h=>?_))<;>(try(exfalso;assumption)))|(((with_reducible refine G_region fun K E hK hE=>?_))<;>(try simp(disch:=omega) only[go_sem,seval,List.length_map, *]))))
   clear e5 hlt hi hm h
   refine G_loop (fun m env s''=>∃i:Nat,i≤ac.length∧m+i=ac.length∧ac.take i=bc.take i∧s''=s'∧env 2=.ptr b2 0∧env 3=.ptr b3 0∧env 6=.int .i64 i) ac.length ⟨_,Fg.refl _,0,by omega,by omega,rfl,rfl,z_sl,z_sl,z_sl⟩ ?_
   clear e2 e3 env HE i m
   rintro m env S ⟨i,hi,hm,he,rfl,e2,e3,e6⟩
   have HE:=Lib.hid he
   clear he
   by_cases hlt:i<ac.length
   ·obtain⟨x,hx⟩:=uget hlt
    obtain⟨y,hy⟩:=uget (l:=bc) (i:=i) (by rw[← HL2.out];exact hlt)
    have hsx:=dclC_at hx
    have hsy:=dclC_at hy
    have hxo:=(hdc x (List.mem_of_getElem? hx)).2.1
    have HX:=Lib.hid (And.intro hx hy)
    clear hx hy
    have hlb:i<bc.length:=by have:=HL2.out;omega
    obtain⟨xn,xs⟩:=x
    obtain⟨yn,ys⟩:=y
    simp only at hxo
    have hlx:(strs xs).length=xs.length:=by simp[strs]
    have hly:(strs ys).length=ys.length:=by simp[strs]
    by_cases hxy:xn=yn∧xs.length=ys.length
    ·obtain⟨rfl,hl⟩:=hxy
     have hl2:((xs.length:Int)=(ys.length:Int))=True:=eq_true (by omega)
     have HL:=Lib.hid hl
     clear hl
     (repeat'(first|refine Ctl ?_|(with_reducible first|(refine Kof.use hK ?_;clear hK hE K E)|(refine Kof.use hKh ?_;clear hKh Kh)|refine G_plan 11 [] [0,1,2,3,4,5,6,7,8,9,10,11,12,13,14,15,16,17,18,19,20,21,22,23,24,25,26,27,28,29] hQe fun K E hK hE=>?_)|((with_reducible refine W_cond (fun h=>?_) (fun h=>?_))<;>(try(exfalso;assumption)))|(((with_reducible first|refine G_region fun K E hK hE=>?_|refine P_fin fun Kh hKh=>?_))<;>(try simp(disch:=omega) only[go_sem,seval,List.length_map,hsx,hsy,dclC,hlx,hly, *]))))
     refine G_loop (fun m env s''=>∃j:Nat,j≤xs.length∧m+j=xs.length∧xs.take j=ys.take j∧s''=S∧env 2=.ptr b2 0∧env 3=.ptr b3 0∧env 6=.int .i64 i∧env 7=.int .i64 j) xs.length ⟨_,Fg.refl _,0,by omega,by omega,rfl,rfl,z_sl,z_sl,z_sl,z_sl⟩ ?_
     clear e2 e3 e6 env
     rintro m2 env S2 ⟨j,hj,hm2,hej,rfl,e2,e3,e6,e7⟩
     have HEJ:=Lib.hid hej
     clear hej
     by_cases hlt2:j<xs.length
     ·obtain⟨t,ht⟩:=uget hlt2
      obtain⟨u,hu⟩:=uget (l:=ys) (i:=j) (by rw[← HL.out];exact hlt2)
      have htx:=strs_at ht
      have htu:=strs_at hu
      have HT:=Lib.hid (And.intro ht hu)
      clear ht hu
      have hlb2:j<ys.length:=by have:=HL.out;omega
      by_cases htt:t=u
      ·subst htt
       (repeat'(first|refine Ctl ?_|(with_reducible first|(refine Kof.use hK ?_;clear hK hE K E)|(refine Kof.use hKh ?_;clear hKh Kh)|refine G_plan 16 [] [0,1,2,3,4,5,6,7,8,9,10,11,12,13,14,15,16,17,18] hQe fun K E hK hE=>?_)|((with_reducible refine W_cond (fun h=>?_) (fun h=>?_))<;>(try(exfalso;assumption)))|(((with_reducible first|refine G_region fun K E hK hE=>?_|refine P_fin fun Kh hKh=>?_))<;>(try simp(disch:=omega) only[go_sem,seval,List.length_map,hsx,hsy,dclC,hlx,hly,htx,htu, *]))))
       exact⟨_,Fg.refl _,m2 - 1,by omega,j+1,by omega,by omega,take_eq_succ HT.out.1 HT.out.2 HEJ.out rfl,rfl,z_sl,z_sl,z_sl,z_sl⟩
      ·have hne:¬ ac=bc:=ne_at HX.out.1 HX.out.2 (fun e=>by injection e with _ e;exact ne_at HT.out.1 HT.out.2 htt e)
       have HNE:=Lib.hid hne
       clear hne
       (repeat'(first|refine Ctl ?_|(with_reducible first|(refine Kof.use hK ?_;clear hK hE K E)|(refine Kof.use hKh ?_;clear hKh Kh)|refine G_plan 16 [] [0,1,2,3,4,5,6,7,8,9,10,11,12,13,14,15,16,17,18] hQe fun K E hK hE=>?_)|((with_reducible refine W_cond (fun h=>?_) (fun h=>?_))<;>(try(exfalso;assumption)))|(((with_reducible first|refine G_region fun K E hK hE=>?_|refine P_fin fun Kh hKh=>?_))<;>(try simp(disch:=omega) only[go_sem,seval,List.length_map,hsx,hsy,dclC,hlx,hly,htx,htu, *]))))
       all_goals(refine W_ret res10 hQ ?_)
       all_goals(refine⟨_,_,Wk.of_eq ?_,?_,rfl,rfl⟩)
       ·rw[eqB_f (by intro e;injection e with _ e _;exact HNE.out e)]
       ·exact HF.out
     ·have hxe:xs=ys:=take_eq HL.out (by have:=HEJ.out;rwa [show j=xs.length by omega]at this)
      have heq:(⟨xn,xs⟩:Dcl)=⟨xn,ys⟩:=by rw[hxe]
      have HQ:=Lib.hid heq
      clear heq hxe
      (repeat'(first|refine Ctl ?_|((with_reducible refine Kof.use hK ?_);clear hK hE K E)|((with_reducible refine W_cond (fun h=>?_) (fun h=>?_))<;>(try(exfalso;assumption)))|(((with_reducible refine G_region fun K E hK hE=>?_))<;>(try simp(disch:=omega) only[go_sem,seval,List.length_map,hsx,hsy,dclC,hlx,hly, *]))))
      exact⟨_,Fg.refl _,m - 1,by omega,i+1,by omega,by omega,take_eq_succ HX.out.1 HX.out.2 HE.out HQ.out,rfl,z_sl,z_sl,z_sl⟩
    ·have hne:¬ ac=bc:=ne_at HX.out.1 HX.out.2 (fun e=>by injection e with e1 e2;exact hxy ⟨e1,by rw[e2]⟩)
     have HNE:=Lib.hid hne
     clear hne
     by_cases hn:xn=yn
     ·subst hn
      have h3':¬ ((xs.length:Int)=(ys.length:Int)):=fun e=>hxy ⟨rfl,by omega⟩
      clear hxy
      (repeat'(first|refine Ctl ?_|(with_reducible first|(refine Kof.use hK ?_;clear hK hE K E)|(refine Kof.use hKh ?_;clear hKh Kh)|refine G_plan 11 [] [0,1,2,3,4,5,6,7,8,9,10,11,12,13,14,15,16,17,18,19,20,21,22,23,24,25,26,27,28,29] hQe fun K E hK hE=>?_)|((with_reducible refine W_cond (fun h=>?_) (fun h=>?_))<;>(try(exfalso;assumption)))|(((with_reducible first|refine G_region fun K E hK hE=>?_|refine P_fin fun Kh hKh=>?_))<;>(try simp(disch:=omega) only[go_sem,seval,List.length_map,hsx,hsy,dclC,hlx,hly, *]))))
      all_goals(refine W_ret res10 hQ ?_)
      all_goals(refine⟨_,_,Wk.of_eq ?_,?_,rfl,rfl⟩)
      ·rw[eqB_f (by intro e;injection e with _ e _;exact HNE.out e)]
      ·exact HF.out
     ·clear hxy
      (repeat'(first|refine Ctl ?_|(with_reducible first|(refine Kof.use hK ?_;clear hK hE K E)|(refine Kof.use hKh ?_;clear hKh Kh)|refine G_plan 11 [] [0,1,2,3,4,5,6,7,8,9,10,11,12,13,14,15,16,17,18,19,20,21,22,23,24,25,26,27,28,29] hQe fun K E hK hE=>?_)|((with_reducible refine W_cond (fun h=>?_) (fun h=>?_))<;>(try(exfalso;assumption)))|(((with_reducible first|refine G_region fun K E hK hE=>?_|refine P_fin fun Kh hKh=>?_))<;>(try simp(disch:=omega) only[go_sem,seval,List.length_map,hsx,hsy,dclC,hlx,hly, *]))))
      all_goals(refine W_ret res10 hQ ?_)
      all_goals(refine⟨_,_,Wk.of_eq ?_,?_,rfl,rfl⟩)
      ·rw[eqB_f (by intro e;injection e with _ e _;exact HNE.out e)]
      ·exact HF.out
   ·have hq2:ac=bc:=take_eq HL2.out (by have:=HE.out;rwa [show i=ac.length by omega]at this)
    have HQ2:=Lib.hid hq2
    clear hq2
    (repeat'(first|refine Ctl ?_|((with_reducible refine Kof.use hK ?_);clear hK hE K E)|((with_reducible refine W_cond (fun h=>?_) (fun h=>?_))<;>(try(exfalso;assumption)))|(((with_reducible refine G_region fun K E hK hE=>?_))<;>(try simp(disch:=omega) only[go_sem,seval,List.length_map, *]))))
    clear e6 hlt hi hm h
    refine G_loop (fun m env s''=>∃i:Nat,i≤ar.length∧m+i=ar.length∧ar.take i=br.take i∧s''=S∧env 2=.ptr b2 0∧env 3=.ptr b3 0∧env 8=.int .i64 i) ar.length ⟨_,Fg.refl _,0,by omega,by omega,rfl,rfl,z_sl,z_sl,z_sl⟩ ?_
    clear e2 e3 env HE i m
    rintro m env s' ⟨i,hi,hm,he,rfl,e2,e3,e8⟩
    have HE:=Lib.hid he
    clear he
    by_cases hlt:i<ar.length
    ·obtain⟨x,hx⟩:=uget hlt
     obtain⟨y,hy⟩:=uget (l:=br) (i:=i) (by rw[← HL3.out];exact hlt)
     have hsx:=rulC_at hx
     have hsy:=rulC_at hy
     have hxo:=hrr x (List.mem_of_getElem? hx)
     have HX:=Lib.hid (And.intro hx hy)
     clear hx hy
     have hlb:i<br.length:=by have:=HL3.out;omega
     have r2:=fun s=>RsameRule_S x y hxo s
     simp only[rulC]at r2
     cases hE2:eqB x y with
     |false=>
      rw[hE2]at r2
      have hne:¬ ar=br:=ne_at HX.out.1 HX.out.2 (by intro e;rw[eqB_t e]at hE2;cases hE2)
      have HNE:=Lib.hid hne
      clear hne hE2
      (repeat'(first|refine Ctl ?_|(with_reducible first|(refine Kof.use hK ?_;clear hK hE K E)|(refine Kof.use hKh ?_;clear hKh Kh)|(refine Kof.use hKb (P_next ?_);clear hKb Kb)|refine G_plan 21 [([0,1,2,3,4,5,6,7,8,9],10,[[]])] [11] hQe fun K E hK hE=>?_)|((with_reducible refine W_cond (fun h=>?_) (fun h=>?_))<;>(try(exfalso;assumption)))|(((with_reducible first|refine G_region fun K E hK hE=>?_|refine call_ret can23 (r2 _) ?_|refine P_heads fun Kh hKh=>?_|refine P_fin fun Kh hKh=>?_|refine P_each fun Kb hKb=>?_))<;>(try simp(disch:=omega) only[go_sem,seval,List.length_map,hsx,hsy,rulC, *]))))
      all_goals(refine W_ret res10 hQ ?_)
      all_goals(refine⟨_,_,Wk.of_eq ?_,?_,rfl,rfl⟩)
      ·rw[eqB_f (by intro e;injection e with _ _ e;exact HNE.out e)]
      ·exact HF.out
     |true=>
      rw[hE2]at r2
      have heq:=eqB_i.1 hE2
      have HQ:=Lib.hid heq
      clear hE2 heq
      (repeat'(first|refine Ctl ?_|(with_reducible first|(refine Kof.use hK ?_;clear hK hE K E)|(refine Kof.use hKh ?_;clear hKh Kh)|(refine Kof.use hKb (P_next ?_);clear hKb Kb)|refine G_plan 21 [([0,1,2,3,4,5,6,7,8,9],10,[[]])] [11] hQe fun K E hK hE=>?_)|((with_reducible refine W_cond (fun h=>?_) (fun h=>?_))<;>(try(exfalso;assumption)))|(((with_reducible first|refine G_region fun K E hK hE=>?_|refine call_ret can23 (r2 _) ?_|refine P_heads fun Kh hKh=>?_|refine P_fin fun Kh hKh=>?_|refine P_each fun Kb hKb=>?_))<;>(try simp(disch:=omega) only[go_sem,seval,List.length_map,hsx,hsy,rulC, *]))))
      exact⟨_,Fg.refl _,m - 1,by omega,i+1,by omega,by omega,take_eq_succ HX.out.1 HX.out.2 HE.out HQ.out,rfl,z_sl,z_sl,z_sl⟩
    ·(repeat'(first|refine Ctl ?_|((with_reducible refine Kof.use hK ?_);clear hK hE K E)|((with_reducible refine W_cond (fun h=>?_) (fun h=>?_))<;>(try(exfalso;assumption)))|(((with_reducible refine G_region fun K E hK hE=>?_))<;>(try simp(disch:=omega) only[go_sem,seval,List.length_map, *]))))
     all_goals(refine W_ret res10 hQ ?_)
     all_goals(refine⟨_,_,Wk.of_eq ?_,?_,rfl,rfl⟩)
     ·rw[HQ1.out,HQ2.out,take_eq HL3.out (by have:=HE.out;rwa [show i=ar.length by omega]at this),eqB_self]
     ·exact HF.out
 ·have hne:eqB (⟨ad,ac,ar⟩:Pgm) ⟨bd,bc,br⟩=false:=eqB_f (by intro e;injection e with e1 e2 e3;exact h0 ⟨by rw[e1],by rw[e2],by rw[e3]⟩)
  have HNE:=Lib.hid hne
  clear hne
  by_cases h1:ad.length=bd.length
  ·have m1:((ad.length:Int)=(bd.length:Int))=True:=eq_true (by omega)
   by_cases h2:ac.length=bc.length
   ·have m2:((ac.length:Int)=(bc.length:Int))=True:=eq_true (by omega)
    have m3:¬ ((ar.length:Int)=(br.length:Int)):=fun e=>h0 ⟨h1,h2,by omega⟩
    clear h0 h1 h2
    (repeat'(first|refine Ctl ?_|((with_reducible refine Kof.use hK ?_);clear hK hE K E)|((with_reducible refine W_cond (fun h=>?_) (fun h=>?_))<;>(try(exfalso;assumption)))|((first|(with_reducible refine G_region fun K E hK hE=>?_)|((with_reducible refine W_fresh (fun b hb=>?_));(repeat(obtain⟨_,hb⟩:=hb))))<;>(try simp(disch:=omega) only[go_sem,seval,pgC,List.length_map, *]))))
    all_goals(refine W_ret res10 hQ ?_)
    all_goals(refine⟨_,_,Wk.of_eq ?_,?_,rfl,rfl⟩)
    all_goals first|rw[HNE.out]|(exact z_fg)
   ·have m2:¬ ((ac.length:Int)=(bc.length:Int)):=by omega
    clear h0 h1 h2
    (repeat'(first|refine Ctl ?_|((with_reducible refine Kof.use hK ?_);clear hK hE K E)|((with_reducible refine W_cond (fun h=>?_) (fun h=>?_))<;>(try(exfalso;assumption)))|((first|(with_reducible refine G_region fun K E hK hE=>?_)|((with_reducible refine W_fresh (fun b hb=>?_));(repeat(obtain⟨_,hb⟩:=hb))))<;>(try simp(disch:=omega) only[go_sem,seval,pgC,List.length_map, *]))))
    all_goals(refine W_ret res10 hQ ?_)
    all_goals(refine⟨_,_,Wk.of_eq ?_,?_,rfl,rfl⟩)
    all_goals first|rw[HNE.out]|(exact z_fg)
  ·have m1:¬ ((ad.length:Int)=(bd.length:Int)):=by omega
   clear h0 h1
   (repeat'(first|refine Ctl ?_|((with_reducible refine Kof.use hK ?_);clear hK hE K E)|((with_reducible refine W_cond (fun h=>?_) (fun h=>?_))<;>(try(exfalso;assumption)))|((first|(with_reducible refine G_region fun K E hK hE=>?_)|((with_reducible refine W_fresh (fun b hb=>?_));(repeat(obtain⟨_,hb⟩:=hb))))<;>(try simp(disch:=omega) only[go_sem,seval,pgC,List.length_map, *]))))
   all_goals(refine W_ret res10 hQ ?_)
   all_goals(refine⟨_,_,Wk.of_eq ?_,?_,rfl,rfl⟩)
   all_goals first|rw[HNE.out]|(exact z_fg)
end Go.Proofs.YtgdbgfjhenobdaaGreatDoor
