/- Walks of functions that the claim reaches, and plain facts of them. Conditions: those in the statements. -/
import Derived.Test.YtohnaepcgnbaiaaGreatDoorJkIcj
import Derived.Deep.Heap
import Derived.Test.YtohnaepcgnbaiaaGreatDoorJkSoundj
import Derived.Test.YtohnaepcgnbaiaaGreatDoorJkGpj
set_option linter.unusedSimpArgs false
set_option linter.unusedVariables false
set_option maxRecDepth 100000
namespace Go.Proofs.YtohnaepcgnbaiaaGreatDoor
open Go.RowKit
structure SB where
 p:Nat
 g:Nat
 q:Nat
 hg:Nat
def SB.has (K:SB)(z:Nat):Prop:=z=K.p\/z=K.g\/z=K.q\/z=K.hg
structure SMem (s:St) (K:SB) (n B:Nat) (ns:List Tr):Prop where
 mem:∃mk:Int,NMem s K.p K.g K.q n B ns mk 0
 tab:∃ps,HOk s K.q K.hg ps/\aQ ps+2=ns.length/\∀key x,dQ ps key x↔∃v l h,.nd v l h∈ns/\key=keyN ns v l h/\x=((ixN ns (.nd v l h):Nat):Int)
 ok:NsOk n ns
 bd:ns.length<=B/\B<=1048576
structure SKeep (s u:St) (K K':SB):Prop where
 p:K'.p=K.p
 q:K'.q=K.q
 nw:∀z,K'.has z->K.has z\/s z=.free
 out:∀z,s z≠.free->¬ K.has z->u z=s z
theorem SKeep.refl (s:St)(K:SB):SKeep s s K K:=⟨rfl,rfl,fun _ h=>.inl h,fun _ _ _=>rfl⟩
theorem SKeep.trans {a b c:St}{K K' K'':SB}(h:SKeep a b K K')(k:SKeep b c K' K''):SKeep a c K K'':=by
 refine⟨k.p.trans h.p,k.q.trans h.q,fun z hz=>?_,fun z hz hn=>?_⟩
 ·rcases k.nw z hz with e|e
  ·exact h.nw z e
  ·by_cases h1:K.has z
   ·exact .inl h1
   ·by_cases h2:a z=.free
    ·exact .inr h2
    ·have:=h.out z h2 h1
     rw[e]at this
     exact absurd this.symm h2
 ·have h1:=h.out z hz hn
  rw[<- h1]
  refine k.out z (by rw[h1];exact hz) fun h2=>?_
  rcases h.nw z h2 with e|e
  ·exact hn e
  ·exact hz e
theorem SMem.live {s:St}{K:SB}{n B:Nat}{ns:List Tr}(h:SMem s K n B ns){z:Nat}(hz:K.has z):s z≠.free:=by
 obtain⟨mk,hm⟩:=h.mem
 obtain⟨ps,ht,_⟩:=h.tab
 rcases hz with e|e|e|e<;>subst e
 ·rw[hm.o];simp
 ·rw[hm.r];simp
 ·rw[ht.tab.o];simp
 ·rw[ht.tab.r];simp
theorem SMem.keep {s u:St}{K:SB}{n B:Nat}{ns:List Tr}(h:SMem s K n B ns)(hk:∀z,K.has z->u z=s z):SMem u K n B ns:=by
 obtain⟨mk,hm⟩:=h.mem
 obtain⟨ps,ht,ht2⟩:=h.tab
 exact⟨⟨mk,⟨(hk _ (.inl rfl)).trans hm.o,(hk _ (.inr (.inl rfl))).trans hm.r⟩⟩,⟨ps,⟨⟨(hk _ (.inr (.inr (.inl rfl)))).trans ht.tab.o,(hk _ (.inr (.inr (.inr rfl)))).trans ht.tab.r⟩,ht.ok,ht.pw⟩,ht2⟩,h.ok,h.bd⟩
theorem jy {n v:Nat}{t:Tr}(h:OkT n (v+1) t)(hv:v<n):v<aW n t:=by
 cases t with
 |lf b=>exact hv
 |nd w l r=>exact h.1
abbrev MkA:=St×SB×List Tr
def MkR (s:St)(K:SB)(n B:Nat)(ns:List Tr)(T:Tr)(a:MkA):Prop:=SMem a.1 a.2.1 n B a.2.2/\ExtN ns a.2.2 T/\SKeep s a.1 K a.2.1
theorem xU {s:St}{K:SB}{n B:Nat}{ns:List Tr}{v:Nat}{l h:Tr}(hS:SMem s K n B ns)(hl:l∈ns)(hh:h∈ns)(ol:OkT n (v+1) l)(oh:OkT n (v+1) h)(hv:v<n)(hF:FitN ns (mkT v l h) B) :
  SCalls Tryz.prog 79 [.ptr K.p 0,.int .i64 v,.int .i64 (ixN ns l:Nat),.int .i64 (ixN ns h:Nat)] s fun w u=>∃a:MkA,w=.ret (.tup [.int .i64 (ixN a.2.2 (mkT v l h):Nat),.int .i64 0])/\u=a.1/\MkR s K n B ns (mkT v l h) a:=by
 obtain⟨mk,hm⟩:=hS.mem
 obtain⟨ps,ht,hu,hh2⟩:=hS.tab
 have hN:=hS.ok
 have gl:=bS hl
 have gh:=bS hh
 by_cases e:l=h
 ·subst e
  have hT:mkT v l l=l:=if_pos rfl
  rw[hT]
  refine SCalls.mono (h:=Cb s K.p K.g K.q n B (ixN ns l) v ns l mk 0 hm gl (jy ol hv) hv) ?_
  rintro w u ⟨rfl,rfl⟩
  exact⟨(u,K,ns),rfl,rfl,hS,.refl hl,.refl _ _⟩
 ·have hT:mkT v l h=.nd v l h:=if_neg e
  rw[hT]at hF ⊢
  have hne:¬ ixN ns l=ixN ns h:=fun e2=>e (cw hl hh e2)
  by_cases hin:.nd v l h∈ns
  ·refine SCalls.mono (h:=zd s K.p K.g K.q K.hg n B (ixN ns l) (ixN ns h) v (ixN ns (.nd v l h)) ns ps l h mk 0 hm ht gl gh hne (jy ol hv) (jy oh hv) hv ((hh2 _ _).2 ⟨v,l,h,hin,rfl,rfl⟩)) ?_
   rintro w u ⟨rfl,rfl⟩
   exact⟨(u,K,ns),rfl,rfl,hS,.refl hin,.refl _ _⟩
  ·have hno:∀x,¬ dQ ps ((v:Int),(ixN ns l:Int),(ixN ns h:Int)) x:=fun x hx=>by
    obtain⟨v',l',h',h1,h2,_⟩:=(hh2 _ _).1 hx
    obtain⟨c1,c2⟩:=hN.ch _ _ _ h1
    obtain⟨rfl,rfl,rfl⟩:=td hN hl hh c1 c2 h2
    exact hin h1
   have hN':=hN.add hl hh e hv ol oh hin
   have hlen:ns.length<B:=by
    have:=hF (ns++[.nd v l h]) hN'.nd fun t ht=>by
     rcases f_.1 ht with ht|ht
     ·exact .inl ht
     ·rw[a_]at ht;subst ht;exact .inr (by simp[aL])
    rw[p_]at this
    simp at this
    omega
   have hbd:=hS.bd
   refine SCalls.mono (h:=Fu s K.p K.g K.q K.hg n B (ixN ns l) (ixN ns h) v ns ps l h mk 0 hm ht gl gh hne (jy ol hv) (jy oh hv) hv hno (by omega) hlen hbd.2) ?_
   rintro w u ⟨_,rfl,rfl,g1,hg1,ps1,e1,e2,e3,e4,e5,e6,e7,e8⟩
   have hkeep:∀v' l' h',.nd v' l' h'∈ns->keyN (ns++[.nd v l h]) v' l' h'=keyN ns v' l' h'/\ixN (ns++[.nd v l h]) (.nd v' l' h')=ixN ns (.nd v' l' h'):=fun v' l' h' hm'=>by
    obtain⟨a,b⟩:=hN.ch _ _ _ hm'
    unfold keyN
    rw[cx a,cx b,cx hm']
    exact⟨rfl,rfl⟩
   have hkn:keyN (ns++[.nd v l h]) v l h=keyN ns v l h:=by unfold keyN;rw[cx hl,cx hh]
   refine⟨(u,⟨K.p,g1,K.q,hg1⟩,ns++[.nd v l h]),by rw[iK hin],rfl,⟨⟨IntKind.i64.wrap (mk+1),⟨?_,?_⟩⟩,⟨ps1,e3,?_,fun key x=>?_⟩,hN',by rw[p_];simp;omega,hbd.2⟩,⟨⟨_,rfl⟩,fun t ht=>?_,by simp⟩,rfl,rfl,fun z hz=>?_,fun z hz hn=>?_⟩
   ·rw[p_];exact e1
   ·rw[uY hN hl hh];exact e2
   ·rw[p_,e5];simp;omega
   ·rw[e4,hh2]
    constructor
    ·rintro(⟨v',l',h',h1,h2,h3⟩|⟨h1,h2⟩)
     ·obtain⟨k1,k2⟩:=hkeep _ _ _ h1
      exact⟨v',l',h',List.mem_append_left _ h1,by rw[k1];exact h2,by rw[k2];exact h3⟩
     ·exact⟨v,l,h,by simp,by rw[hkn];exact h1,by rw[iK hin];exact h2⟩
    ·rintro⟨v',l',h',h1,h2,h3⟩
     rcases f_.1 h1 with h1|h1
     ·obtain⟨k1,k2⟩:=hkeep _ _ _ h1
      exact .inl ⟨v',l',h',h1,by rw[<- k1];exact h2,by rw[<- k2];exact h3⟩
     ·rw[a_]at h1
      injection h1 with i1 i2 i3
      subst i1 i2 i3
      exact .inr ⟨h2.trans hkn,by dsimp only at h3;rw[iK hin]at h3;exact h3⟩
   ·rcases f_.1 ht with ht|ht
    ·exact .inl ht
    ·rw[a_]at ht;subst ht;exact .inr (by simp[aL])
   ·rcases hz with e|e|e|e<;>dsimp only at e<;>subst e
    ·exact .inl (.inl rfl)
    ·rcases e6 with e|e
     ·exact .inl (.inr (.inl e))
     ·exact .inr e
    ·exact .inl (.inr (.inr (.inl rfl)))
    ·rcases e7 with e|e|e
     ·exact .inl (.inr (.inr (.inr e)))
     ·exact .inl (.inr (.inl e))
     ·exact .inr e
   ·exact e8 z (fun e=>hn (.inl e)) (fun e=>hn (.inr (.inl e))) (fun e=>hn (.inr (.inr (.inl e)))) (fun e=>hn (.inr (.inr (.inr e)))) hz
theorem HOk.new' (t:St):SCalls Tryz.prog 55 [] t fun w u=>∃a:St×Nat,w=.ret (.ptr a.2 0)/\u=a.1/\∃g,HOk a.1 a.2 g (List.replicate 16 .em)/\t a.2=.free/\t g=.free/\¬ a.2=g/\∀z,¬ z=a.2->¬ z=g->a.1 z=t z:=
 SCalls.mono (h:=HOk.new t) fun w u ⟨p,g,e1,e2⟩=>⟨(u,p),e1,rfl,g,e2⟩
theorem mkA {α β:Type}{w:SEnd}{F:α×β->VV}{R:α×β->Prop}{s:α}(b:β)(hw:w=.ret (F (s,b)))(hR:R (s,b)):∃a:α×β,w=.ret (F a)/\s=a.1/\R a:=⟨(s,b),hw,rfl,hR⟩
theorem HOk.lq {s:St}{p g:Nat}{ps:List Pl}(h:HOk s p g ps):s p≠.free:=fun e=>by have:=h.tab.o;rw[e]at this;cases this
theorem HOk.lg {s:St}{p g:Nat}{ps:List Pl}(h:HOk s p g ps):s g≠.free:=fun e=>by have:=h.tab.r;rw[e]at this;cases this
set_option maxHeartbeats 4000000 in
theorem ML (t:St)(n B:Nat)(hn:n<=256)(hB2:2<=B)(hB:B<=1048576) :
  SCalls Tryz.prog 22 [.int .i64 n,.int .i64 B] t fun w u=>∃a:St×SB,w=.ret (.tup [.ptr a.2.p 0,.int .i64 0])/\u=a.1/\SMem a.1 a.2 n B [.lf false,.lf true]/\∀z,t z≠.free->a.1 z=t z/\¬ a.2.has z:=by
 have hi1:¬ (n:Int)<0:=by omega
 have hi2:¬ (n:Int) > 256:=by omega
 have hi3:¬ (B:Int)<2:=by omega
 have hi4:¬ (B:Int) > 1048576:=by omega
 have w1:=fun s=>HOk.new' s
 refine am Tryz.func22 rfl Tryz.ntmps22 rfl fun Q hQ hQe=>?_
 (repeat'(first|refine Ctl ?_|((with_reducible refine k_ hK ?_);clear hK hE K E)|((with_reducible refine ah (fun h=>?_) (fun h=>?_))<;>(try(exfalso;assumption)))|((first|(with_reducible refine ab fun K E hK hE=>?_)|((with_reducible refine ao Qb (w1 _) (fun a h=>?_));(obtain⟨u,q⟩:=a;dsimp only at h ⊢;obtain⟨hg,c1,c2,c3,c4,c5⟩:=h;have hqf:=c1.lq;have hhf:=c1.lg))|((with_reducible refine au (fun b hb=>?_));(try(obtain⟨_,_⟩:=nef hb hqf;obtain⟨_,_⟩:=nef hb hhf))))<;>(try simp(disch:=assumption) only[go_sem,seval, *]))))
 obtain⟨p,hp⟩:∃p,p=b:=⟨_,rfl⟩
 subst hp
 refine Cj (GS.rawnil (i:=2) (q_ _ _ _) rfl) ?_
 simp only[St.set_set,List.set_cons_succ,List.set_cons_zero]
 refine kJ 3 (cD 2 ?_)
 (repeat'(first|refine Ctl ?_|((with_reducible refine k_ hK ?_);clear hK hE K E)|((with_reducible refine ah (fun h=>?_) (fun h=>?_))<;>(try(exfalso;assumption)))|((first|(with_reducible refine ab fun K E hK hE=>?_)|((with_reducible refine fG (fun bM hM=>?_));(try(obtain⟨_,_⟩:=nef hM (a:=p) (by(rw[q_];simp;done));obtain⟨_,_⟩:=nef hM (a:=q) (by(repeat rw[j_ _ _ (by assumption)]);assumption);obtain⟨_,_⟩:=nef hM (a:=hg) (by(repeat rw[j_ _ _ (by assumption)]);assumption)))))<;>(try simp(disch:=first|assumption|omega) only[go_sem,seval,List.flatten_cons,List.flatten_nil,List.append_nil,p_,List.length_cons,List.length_nil, *]))))
 refine cD 1 ?_
 (repeat'(first|refine Ctl ?_|((with_reducible refine k_ hK ?_);clear hK hE K E)|((with_reducible refine ah (fun h=>?_) (fun h=>?_))<;>(try(exfalso;assumption)))|((first|(with_reducible refine ab fun K E hK hE=>?_)|((with_reducible refine cJ (fun bM hM=>?_));(try(obtain⟨_,_⟩:=nef hM (a:=p) (by(rw[j_ _ _ (by assumption),q_];simp;done));obtain⟨_,_⟩:=nef hM (a:=q) (by(repeat rw[j_ _ _ (by assumption)]);assumption);obtain⟨_,_⟩:=nef hM (a:=hg) (by(repeat rw[j_ _ _ (by assumption)]);assumption)))))<;>(try simp(disch:=first|assumption|omega) only[go_sem,seval,List.flatten_cons,List.flatten_nil,List.append_nil,p_,List.length_cons,List.length_nil, *]))))
 refine cD 0 ?_
 (repeat'(first|refine Ctl ?_|((with_reducible refine k_ hK ?_);clear hK hE K E)|((with_reducible refine ah (fun h=>?_) (fun h=>?_))<;>(try(exfalso;assumption)))|(((with_reducible refine ab fun K E hK hE=>?_))<;>(try simp(disch:=assumption) only[go_sem,seval,List.flatten_cons,List.flatten_nil,List.append_nil,p_,List.length_cons,List.length_nil, *]))))
 (refine aq Gr hQ ?_)
 rename_i g0 hM0 _ _ _ _ _ _ _ _ _ _ _ _ _
 refine⟨_,_,Wk.refl _,Fg.refl _,mkA (⟨p,bM,q,hg⟩:SB) rfl ⟨⟨⟨0,⟨?_,q_ _ _ _⟩⟩,⟨List.replicate 16 .em,?_,by rw[kR];rfl,fun key x=>?_⟩,.new n,by simp;exact⟨hB2,hB⟩⟩,fun z hz=>?_⟩⟩
 ·dsimp only
  rw[j_ _ _ (by assumption),j_ _ _ (by assumption),q_];rfl
 ·refine⟨⟨?_,?_⟩,c1.ok,c1.pw⟩
  ·dsimp only
   rw[j_ _ _ (by assumption),j_ _ _ (by assumption),j_ _ _ (by assumption)]
   exact c1.tab.o
  ·dsimp only
   rw[j_ _ _ (by assumption),j_ _ _ (by assumption),j_ _ _ (by assumption)]
   exact c1.tab.r
 ·constructor
  ·rintro⟨k,hk⟩
   rw[List.getElem?_replicate]at hk
   split at hk
   ·injection hk with hk;cases hk
   ·cases hk
  ·rintro⟨v,l,h,hm,_⟩
   simp at hm
 ·have nq:¬ z=q:=fun e=>by rw[e]at hz;exact hz c2
  have nh:¬ z=hg:=fun e=>by rw[e]at hz;exact hz c3
  have hu:u z≠.free:=by rw[c5 z nq nh];exact hz
  obtain⟨zp,_⟩:=nef hb hu
  obtain⟨z0,_⟩:=nef hM0 (a:=z) (by rw[j_ _ _ zp];exact hu)
  obtain⟨z1,_⟩:=nef hM (a:=z) (by rw[j_ _ _ z0,j_ _ _ zp];exact hu)
  refine⟨?_,fun e=>?_⟩
  ·dsimp only
   rw[j_ _ _ z1,j_ _ _ z0,j_ _ _ zp,c5 z nq nh]
  ·rcases e with e|e|e|e
   ·exact zp e
   ·exact z1 e
   ·exact nq e
   ·exact nh e
open Go.RowKit Go.Deep
theorem xR {G:Gh}{vs:Array Value}{x:VV}(h:RL G vs [x]):∃a,vs=#[a]/\R G a x:=by
 obtain⟨hs,hr⟩:=h
 obtain⟨l⟩:=vs
 match l,hs,hr with
 |[a],_,hr=>exact⟨a,rfl,hr 0 a x rfl rfl⟩
theorem R.tup0 (G:Gh):R G (.tuple #[]) (.tup []):=.tup #[] [] rfl fun j v y h=>by simp at h
theorem Sim.cellI {w0 w:World}{G:Gh}{s:St}(hS:Sim w0 G w s){b off:Nat}{T:TypeId}{xs:List VV}{k:IntKind}{n:Int}(hb:s b=.obj T xs)(hx:xs[off]?=some (.int k n)) :
  w.cell? ⟨b,off,none⟩=some (.int k n)/\w.frozen? ⟨b,off,none⟩=false:=by
 have ho:=hS.ok b
 rw[hb]at ho
 obtain⟨hB,hK,c,hc,hcs,hxs⟩:=ho
 obtain⟨_,v,hv,hr⟩:=hxs off _ hx
 cases hr
 exact⟨by simp[World.cell?,hc,hv],by simp[World.frozen?,hc]⟩
theorem Sim.setI {w0 w:World}{G:Gh}{s:St}(hS:Sim w0 G w s){b off:Nat}{T:TypeId}{xs:List VV}{k:IntKind}{n m:Int}(hb:s b=.obj T xs)(hx:xs[off]?=some (.int k n)) :
  Sim w0 G (w.setCell ⟨b,off,none⟩ (.int k m)) (s.set b (.obj T (xs.set off (.int k m)))):=by
 have ho:=hS.ok b
 rw[hb]at ho
 obtain⟨hB,hK,c,hc,hcs,hxs⟩:=ho
 refine hS.set_obj hb _ (c.setIfInBounds off (.int k m)) ⟨rfl,rfl,rfl,?_,fun k' hk=>?_⟩ (nblk_setCell _ _ _) ?_ (fun k' hk=>?_) ?_ (fun i x hi=>?_)
 ·rw[nblk_setCell];exact Nat.le_refl _
 ·exact blk_setCell_other w _ _ k' (by show k'≠b;omega)
 ·simp[World.setCell,Array.getElem?_modify,hc]
 ·exact blk_setCell_other w _ _ k' hk
 ·simp[hcs]
 ·by_cases e:off=i
  ·subst e
   have hlt:off<xs.length:=(x_.1 hx).1
   rw[e_ hlt]at hi
   injection hi with hi
   subst hi
   exact⟨rfl,_,by rw[Array.getElem?_setIfInBounds_self_of_lt (by omega)],.int _ _⟩
  ·rw[i_ e]at hi
   obtain⟨h1,u,hu,hr⟩:=hxs i x hi
   exact⟨h1,u,by rw[Array.getElem?_setIfInBounds_ne e];exact hu,hr⟩
section
variable (s : St)
variable (b off : Nat) (T : TypeId) (xs : List VV) (hb : s b = .obj T xs)
include hb
theorem Bl (n:Int)(hx:xs[off]?=some (.int .u32 n)) :
  B1 Tryz.prog 199 [.ptr b off] s fun e t=>e=.ret (.int .u32 n)/\t=s:=by
 intro w0 G w vs hS hvs
 obtain⟨v,rfl,hv⟩:=xR hvs
 cases hv
 obtain⟨hc,hz⟩:=hS.cellI hb hx
 exact⟨_,_,G,_,_,run_call_load (P:=Tryz.prog) Tryz.func199 (by kernel_rfl) (by kernel_rfl) (by kernel_rfl) .u32 (by kernel_rfl) hc,Gh.le.refl G,hS,.int _ _,rfl,rfl⟩
theorem Bk (n:Int)(hx:xs[off]?=some (.int .i64 n)) :
  B1 Tryz.prog 163 [.ptr b off] s fun e t=>e=.ret (.int .i64 n)/\t=s:=by
 intro w0 G w vs hS hvs
 obtain⟨v,rfl,hv⟩:=xR hvs
 cases hv
 obtain⟨hc,hz⟩:=hS.cellI hb hx
 exact⟨_,_,G,_,_,run_call_load (P:=Tryz.prog) Tryz.func163 (by kernel_rfl) (by kernel_rfl) (by kernel_rfl) .i64 (by kernel_rfl) hc,Gh.le.refl G,hS,.int _ _,rfl,rfl⟩
set_option maxHeartbeats 4000000 in
theorem xZ (n:Int)(hx:xs[off]?=some (.int .u32 n)) :
  SRet Tryz.prog 189 [.ptr b off] s (.bool (!(decide (n=0)))) s:=by
 have w1:=Bl s b off T xs hb n hx
 refine am Tryz.func189 rfl Tryz.ntmps189 rfl fun Q hQ hQe=>?_
 (repeat'(first|refine Ctl ?_|((with_reducible refine k_ hK ?_);clear hK hE K E)|(((with_reducible first|refine ab fun K E hK hE=>?_|refine o7 (w1) ?_))<;>(try simp(disch:=assumption) only[go_sem,seval,Nat.add_zero, *]))))
 all_goals(refine aq Ac hQ ?_)
 all_goals(refine⟨_,_,Wk.of_eq ?_,?_,rfl,rfl⟩)
 all_goals first|rfl|(exact bK)
set_option maxHeartbeats 4000000 in
theorem FC (n:Int)(hx:xs[off]?=some (.int .i64 n)) :
  SRet Tryz.prog 121 [.ptr b off] s (.int .i64 n) s:=by
 have w1:=Bk s b off T xs hb n hx
 refine am Tryz.func121 rfl Tryz.ntmps121 rfl fun Q hQ hQe=>?_
 (repeat'(first|refine Ctl ?_|((with_reducible refine k_ hK ?_);clear hK hE K E)|(((with_reducible first|refine ab fun K E hK hE=>?_|refine o7 (w1) ?_))<;>(try simp(disch:=assumption) only[go_sem,seval,Nat.add_zero, *]))))
 all_goals(refine aq Am hQ ?_)
 all_goals(refine⟨_,_,Wk.of_eq ?_,?_,rfl,rfl⟩)
 all_goals first|rfl|(exact bK)
end
end Go.Proofs.YtohnaepcgnbaiaaGreatDoor
namespace Go.Proofs.YtohnaepcgnbaiaaGreatDoor
open Go.RowKit Go.Deep
structure CE where
 is:Bool
 a:Int
 b:Int
 c:Int
 k:Int
def ceC (e:CE):List VV:=[.bool e.is,.int .i64 e.a,.int .i64 e.b,.int .i64 e.c,.int .i64 e.k]
def cP (l:List CE):List VV:=(l.map ceC).flatten
def CE0:CE:=⟨false,0,0,0,0⟩
theorem Bz (n:Nat):(List.replicate n [VV.bool false,.int .i64 0,.int .i64 0,.int .i64 0,.int .i64 0]).flatten=cP (List.replicate n CE0):=by
 simp[cP,List.map_replicate,ceC,CE0]
abbrev mn:TypeId:=123
abbrev vw:TypeId:=209
def c9 (p:Nat)(d m:Int)(c:VV):List VV:=[.ptr p 0,.int .u32 d,.int .i32 m,.int .u32 0,c,.int .i64 0]
set_option maxHeartbeats 4000000 in
theorem zc (t:St)(bx o p:Nat)(m:Int)(hbx:t bx=.obj 57 [.ptr o 0])(ho:t o=.obj 123 (c9 p 0 m (.lst [] .full))) :
  SCalls Tryz.prog 174 [.ptr bx 0] t fun w u=>∃c,w=.ret (.tup [])/\t c=.free/\u=(t.set c (.row 209 5 (cP (List.replicate 4096 CE0)))).set o (.obj 123 (c9 p 0 m (.mrw c 4096))):=by
 have hz:=Bz 4096
 unfold c9 at *
 have hof:t o≠.free:=by rw[ho];simp
 have hxf:t bx≠.free:=by rw[hbx];simp
 generalize cP (List.replicate 4096 CE0)=Z at *
 refine am Tryz.func174 rfl Tryz.ntmps174 rfl fun Q hQ hQe=>?_
 (repeat'(first|(with_reducible first|(refine k_ hK ?_;clear hK hE K E)|(refine k_ hKh ?_;clear hKh Kh)|(refine k_ hKb (aC ?_);clear hKb Kb)|refine ax 0 [([0],1,[[0]]),([2,3],4,[[],[]])] [] hQe fun K E hK hE=>?_)|((first|(with_reducible first|refine ay fun Kh hKh=>?_|refine aG fun Kh hKh=>?_|refine aB fun Kb hKb=>?_)|((with_reducible refine au (fun b hb=>?_));(try(obtain⟨_,_⟩:=nef hb hof;obtain⟨_,_⟩:=nef hb hxf))))<;>(try simp(disch:=assumption) only[go_sem,seval,hz,-List.reduceReplicate, *]))))
 all_goals(refine d5 Af hQ ?_)
 exact⟨_,_,Wk.refl _,Fg.refl _,b,rfl,hb,rfl⟩
theorem zT {G:Gh}{e:Ending}(h:RE G e (.ret (.tup []))):e=.returned (.tuple #[]):=by
 cases e with
 |returned v=>
  cases (show R G v (.tup []) from h)with
  |tup vs xs hs hR=>
   obtain rfl:vs=#[]:=Array.eq_empty_of_size_eq_zero (by simpa using hs)
   rfl
 |panicked _=>exact h.elim
 |outgrown=>exact h.elim
theorem Fr (t:St)(bx o p:Nat)(hbx:t bx=.obj 57 [.ptr o 0])(ho:t o=.obj 123 (c9 p 0 0 (.lst [] .full))) :
  SCalls Tryz.prog 190 [.ptr o 1,.fn 174 [.ptr bx 0]] t fun w u=>∃c,w=.ret (.tup [])/\t c=.free/\u=(t.set c (.row 209 5 (cP (List.replicate 4096 CE0)))).set o (.obj 123 (c9 p 1 0 (.mrw c 4096))):=by
 intro w0 G w vs hS hA
 obtain⟨v1,v2,rfl,h1,h2⟩:=lz hA
 cases h1
 cases h2 with
 |fn f us xs hs hR=>
 have hxo:¬ bx=o:=fun e=>by rw[e,ho]at hbx;injection hbx with h1 h2;simp[c9]at h2
 obtain⟨c0,z0⟩:=hS.cellI (off:=1) ho rfl
 obtain⟨c1,z1⟩:=hS.cellI (off:=2) ho rfl
 have hS1:=hS.setI (off:=2) (m:=1) ho rfl
 have h1:=zc (t.set o (.obj 123 (c9 p 0 1 (.lst [] .full)))) bx o p 1 (by rw[j_ _ _ hxo];exact hbx) (q_ _ _ _) w0 G _ us hS1 ⟨hs,hR⟩
 refine(Lt o 1 us w c0 c1 z1 (fun w1=>∃G' c,G.le G'/\t c=.free/\Sim w0 G' w1 ((t.set c (.row 209 5 (cP (List.replicate 4096 CE0)))).set o (.obj 123 (c9 p 0 1 (.mrw c 4096))))) (h1.mono ?_)).mono ?_
 ·rintro e w' ⟨G',s',x,hG,hS',hE,c,rfl,hc,rfl⟩
  have e1:=zT hE
  have hco:¬ c=o:=fun e=>by rw[e,q_]at hc;cases hc
  have hc':t c=.free:=by rw[j_ _ _ hco]at hc;exact hc
  obtain⟨d0,y0⟩:=hS'.cellI (off:=1) (q_ _ _ _) rfl
  obtain⟨d1,y1⟩:=hS'.cellI (off:=2) (q_ _ _ _) rfl
  refine⟨e1,⟨G',c,hG,hc',?_⟩,d0,y0,d1,y1⟩
  have:((t.set o (.obj 123 (c9 p 0 1 (.lst [] .full)))).set c (.row 209 5 (cP (List.replicate 4096 CE0)))).set o (.obj 123 (c9 p 0 1 (.mrw c 4096)))=(t.set c (.row 209 5 (cP (List.replicate 4096 CE0)))).set o (.obj 123 (c9 p 0 1 (.mrw c 4096))):=by
   funext z
   by_cases h1:z=o<;>by_cases h2:z=c<;>simp[St.set,h1,h2]
  rw[<- this]
  exact hS'
 ·rintro e w' ⟨rfl,w1,⟨G',c,hG,hc,hS'⟩,rfl⟩
  have a1:=(hS'.drew).setI (off:=1) (m:=1) (q_ _ _ _) rfl
  rw[St.set_set]at a1
  have a2:=a1.setI (off:=2) (m:=0) (q_ _ _ _) rfl
  rw[St.set_set]at a2
  exact⟨G',_,.ret (.tup []),hG,a2,R.tup0 G',c,rfl,hc,rfl⟩
set_option maxHeartbeats 4000000 in
theorem MJ (t:St)(bx o p:Nat)(hbx:t bx=.obj 57 [.ptr o 0])(ho:t o=.obj 123 (c9 p 0 0 (.lst [] .full))) :
  SCalls Tryz.prog 173 [.ptr o 1,.fn 174 [.ptr bx 0]] t fun w u=>∃c,w=.ret (.tup [])/\u=(t.set c (.row 209 5 (cP (List.replicate 4096 CE0)))).set o (.obj 123 (c9 p 1 0 (.mrw c 4096)))/\t c=.free:=by
 have w1:=xZ t o 1 _ _ ho 0 rfl
 have w2:SCalls Tryz.prog 190 [.ptr o 1,.fn 174 [.ptr bx 0]] t fun w u=>∃c,w=.ret (.tup [])/\u=(t.set c (.row 209 5 (cP (List.replicate 4096 CE0)))).set o (.obj 123 (c9 p 1 0 (.mrw c 4096)))/\t c=.free:=
  SCalls.mono (h:=Fr t bx o p hbx ho) fun w u ⟨c,a,b,d⟩=>⟨c,a,d,b⟩
 have hof:t o≠.free:=by rw[ho];simp
 generalize cP (List.replicate 4096 CE0)=Z at *
 unfold c9 at *
 refine am Tryz.func173 rfl Tryz.ntmps173 rfl fun Q hQ hQe=>?_
 (repeat'(first|refine Ctl ?_|((with_reducible refine k_ hK ?_);clear hK hE K E)|((with_reducible refine ah (fun h=>?_) (fun h=>?_))<;>(try(exfalso;assumption)))|((first|(with_reducible first|refine ab fun K E hK hE=>?_|refine ae BJ (w1) ?_)|((with_reducible refine ao Ma (w2) (fun a h=>?_))))<;>(try simp(disch:=assumption) only[go_sem,seval,Nat.add_zero, *]))))
 all_goals(refine d5 uv hQ ?_)
 exact⟨_,_,Wk.refl _,Fg.refl _,_,rfl,rfl,h⟩
set_option maxHeartbeats 4000000 in
theorem MI (t:St)(o p:Nat)(c f:VV)(ho:t o=.obj 123 (c9 p 1 0 c)) :
  SRet Tryz.prog 173 [.ptr o 1,f] t (.tup []) t:=by
 have w1:=xZ t o 1 _ _ ho 1 rfl
 have hof:t o≠.free:=by rw[ho];simp
 unfold c9 at *
 refine am Tryz.func173 rfl Tryz.ntmps173 rfl fun Q hQ hQe=>?_
 (repeat'(first|refine Ctl ?_|((with_reducible refine k_ hK ?_);clear hK hE K E)|((with_reducible refine ah (fun h=>?_) (fun h=>?_))<;>(try(exfalso;assumption)))|(((with_reducible first|refine ab fun K E hK hE=>?_|refine ae BJ (w1) ?_))<;>(try simp(disch:=assumption) only[go_sem,seval,Nat.add_zero, *]))))
 all_goals(refine d5 uv hQ ?_)
 all_goals(refine⟨_,_,Wk.of_eq ?_,?_,rfl,rfl⟩)
 all_goals first|rfl|(exact bK)
set_option maxHeartbeats 4000000 in
theorem lA (s:St)(p g q n B:Nat)(ns:List Tr)(mk sw:Int)(hN:NMem s p g q n B ns mk sw):SRet Tryz.prog 99 [.ptr p 0] s (.int .i64 sw) s:=by
 have w1:=eV s p g q n B ns mk sw hN
 have w2:=FC s p 7 _ _ hN.o sw rfl
 obtain⟨h,hg⟩:=hN
 have hpf:s p≠.free:=by rw[h];simp
 refine am Tryz.func99 rfl Tryz.ntmps99 rfl fun Q hQ hQe=>?_
 (repeat'(first|refine Ctl ?_|((with_reducible refine k_ hK ?_);clear hK hE K E)|((with_reducible refine ah (fun h=>?_) (fun h=>?_))<;>(try(exfalso;assumption)))|(((with_reducible first|refine ab fun K E hK hE=>?_|refine ae oV (w1) ?_|refine ae Ml (w2) ?_))<;>(try simp(disch:=assumption) only[go_sem,seval, *]))))
 all_goals(refine aq FJ hQ ?_)
 all_goals(refine⟨_,_,Wk.of_eq ?_,?_,rfl,rfl⟩)
 all_goals first|rfl|(exact bK)
end Go.Proofs.YtohnaepcgnbaiaaGreatDoor
namespace Go.Proofs.YtohnaepcgnbaiaaGreatDoor
open Go.RowKit
structure OB where
 s:SB
 o:Nat
 c:Nat
def OB.has (K:OB)(z:Nat):Prop:=K.s.has z\/z=K.o\/z=K.c
def CacheOk (n:Nat)(ns:List Tr)(xs:List CE):Prop:=xs.length=4096/\∀e,e∈xs->e.is=true ->
 ∃ta tb tc,ta∈ns/\tb∈ns/\tc∈ns/\e.a=((ixN ns ta:Nat):Int)/\e.b=((ixN ns tb:Nat):Int)/\e.c=((ixN ns tc:Nat):Int)/\iteT n ta tb tc∈ns/\e.k=((ixN ns (iteT n ta tb tc):Nat):Int)
structure OMem1 (s:St) (K:OB) (n B:Nat) (ns:List Tr):Prop where
 st:SMem s K.s n B ns
 ob:s K.o=.obj mn (c9 K.s.p 1 0 (.mrw K.c 4096))
 ca:∃xs,s K.c=.row vw 5 (cP xs)/\CacheOk n ns xs
structure OMem0 (s:St) (K:OB) (n B:Nat) (ns:List Tr):Prop where
 st:SMem s K.s n B ns
 ob:s K.o=.obj mn (c9 K.s.p 0 0 (.lst [] .full))
 c:K.c=K.o
def OMem (s:St)(K:OB)(n B:Nat)(ns:List Tr):Prop:=OMem0 s K n B ns\/OMem1 s K n B ns
theorem OMem.st {s:St}{K:OB}{n B:Nat}{ns:List Tr}(h:OMem s K n B ns):SMem s K.s n B ns:=by
 rcases h with h|h<;>exact h.st
theorem OMem.op {s:St}{K:OB}{n B:Nat}{ns:List Tr}(h:OMem s K n B ns):∃d c,s K.o=.obj mn (c9 K.s.p d 0 c):=by
 rcases h with h|h<;>exact⟨_,_,h.ob⟩
theorem OMem.live {s:St}{K:OB}{n B:Nat}{ns:List Tr}(h:OMem s K n B ns){z:Nat}(hz:K.has z):s z≠.free:=by
 rcases hz with hz|hz|hz
 ·exact h.st.live hz
 ·subst hz
  obtain⟨d,c,e⟩:=h.op
  rw[e];simp
 ·rcases h with h|h
  ·rw[hz,h.c,h.ob];simp
  ·obtain⟨xs,e,_⟩:=h.ca
   rw[hz,e];simp
structure OKeep (s u:St) (K K':OB):Prop where
 p:K'.s.p=K.s.p
 q:K'.s.q=K.s.q
 o:K'.o=K.o
 nw:∀z,K'.has z->K.has z\/s z=.free
 out:∀z,s z≠.free->¬ K.has z->u z=s z
theorem OKeep.refl (s:St)(K:OB):OKeep s s K K:=⟨rfl,rfl,rfl,fun _ h=>.inl h,fun _ _ _=>rfl⟩
theorem OKeep.trans {a b c:St}{K K' K'':OB}(h:OKeep a b K K')(k:OKeep b c K' K''):OKeep a c K K'':=by
 refine⟨k.p.trans h.p,k.q.trans h.q,k.o.trans h.o,fun z hz=>?_,fun z hz hn=>?_⟩
 ·rcases k.nw z hz with e|e
  ·exact h.nw z e
  ·by_cases h1:K.has z
   ·exact .inl h1
   ·by_cases h2:a z=.free
    ·exact .inr h2
    ·have:=h.out z h2 h1
     rw[e]at this
     exact absurd this.symm h2
 ·have h1:=h.out z hz hn
  rw[<- h1]
  refine k.out z (by rw[h1];exact hz) fun h2=>?_
  rcases h.nw z h2 with e|e
  ·exact hn e
  ·exact hz e
theorem OMem.keep {s u:St}{K:OB}{n B:Nat}{ns:List Tr}(h:OMem s K n B ns)(hk:∀z,K.has z->u z=s z):OMem u K n B ns:=by
 rcases h with h|h
 ·exact .inl ⟨h.st.keep fun z hz=>hk z (.inl hz),(hk _ (.inr (.inl rfl))).trans h.ob,h.c⟩
 ·obtain⟨xs,e,hx⟩:=h.ca
  exact .inr ⟨h.st.keep fun z hz=>hk z (.inl hz),(hk _ (.inr (.inl rfl))).trans h.ob,⟨xs,(hk _ (.inr (.inr rfl))).trans e,hx⟩⟩
theorem PC {α β:Type}{w:SEnd}{y:VV}{R:α×β->Prop}{s:α}(b:β)(hw:w=.ret y)(hR:R (s,b)):∃a:α×β,w=.ret y/\s=a.1/\R a:=⟨(s,b),hw,rfl,hR⟩
abbrev FrA:=St×OB
set_option maxHeartbeats 4000000 in
theorem B9 (s:St)(K:OB)(n B:Nat)(ns:List Tr)(hO:OMem s K n B ns) :
  SCalls Tryz.prog 141 [.ptr K.o 0] s fun w u=>∃a:FrA,w=.ret (.tup [])/\u=a.1/\OMem1 a.1 a.2 n B ns/\OKeep s a.1 K a.2/\a.2.s=K.s:=by
 obtain⟨⟨p,g,q,hg⟩,o,c⟩:=K
 rcases hO with ⟨h1,h2,h3⟩|⟨h1,h2,h3⟩
 ·dsimp only at h1 h2 h3
  subst h3
  have hlv:∀z,(SB.mk p g q hg).has z->s z≠.free:=fun z hz=>h1.live hz
  have HS:=o_ h1
  obtain⟨mk,hm⟩:=h1.mem
  have w2:=fun(t:St) (a:t p=s p) (b:t g=s g)=>lA t p g q n B ns mk 0 ⟨a.trans hm.o,b.trans hm.r⟩
  obtain⟨hmo,hmr⟩:=hm
  dsimp only at hmo hmr w2
  rw[hmo,hmr]at w2
  have hpf:s p≠.free:=by rw[hmo];simp
  have hgf:s g≠.free:=by rw[hmr];simp
  have hof:s c≠.free:=by rw[h2];simp
  have npo:¬ p=c:=fun e=>by rw[e,h2]at hmo;cases hmo
  have ngo:¬ g=c:=fun e=>by rw[e,h2]at hmr;cases hmr
  have w1:=fun(t:St) (bx:Nat) (a:t bx=.obj 57 [.ptr c 0]) (b:t c=.obj 123 (c9 p 0 0 (.lst [] .full)))=>MJ t bx c p a b
  clear h1
  have hZ:∃Z,Z=cP (List.replicate 4096 CE0):=⟨_,rfl⟩
  obtain⟨Z,hZ⟩:=hZ
  rw[<- hZ]at w1
  have HZ:=o_ hZ
  clear hZ
  unfold c9 mn at *
  refine am Tryz.func141 rfl Tryz.ntmps141 rfl fun Q hQ hQe=>?_
  (repeat'(first|refine Ctl ?_|((with_reducible refine k_ hK ?_);clear hK hE K E)|((with_reducible refine ah (fun h=>?_) (fun h=>?_))<;>(try(exfalso;assumption)))|((first|(with_reducible first|refine ab fun K E hK hE=>?_|refine ae xE (w2 _ ac ac) ?_)|((with_reducible refine ao BK (w1 _ _ ac ac) (fun a h=>?_));(have hAF:=h;obtain⟨_,nab⟩:=nef h (a:=b) (by rw[q_];simp);obtain⟨_,_⟩:=nef h (a:=p) (by rw[j_ _ _ (by assumption)];exact hpf);obtain⟨_,_⟩:=nef h (a:=g) (by rw[j_ _ _ (by assumption)];exact hgf);obtain⟨_,_⟩:=nef h (a:=c) (by rw[j_ _ _ (by assumption)];exact hof)))|((with_reducible refine au (fun b hb=>?_));(try(obtain⟨_,_⟩:=nef hb hpf;obtain⟨_,_⟩:=nef hb hgf;obtain⟨_,_⟩:=nef hb hof))))<;>(try simp(disch:=assumption) only[go_sem,seval, *]))))
  (refine d5 uA hQ ?_)
  have hfa:s a=.free:=by rw[j_ _ _ nab]at hAF;exact hAF
  have hkp:∀z,s z≠.free->¬ z=c->(((s.set b (.obj 57 [.ptr c 0])).set a (.row 209 5 Z)).set c (.obj 123 [.ptr p 0,.int .u32 1,.int .i32 0,.int .u32 0,.mrw a 4096,.int .i64 0])) z=s z:=fun z hz hc=>by
   obtain⟨z1,_⟩:=nef hb hz
   obtain⟨z2,_⟩:=nef hfa hz
   rw[j_ _ _ hc,j_ _ _ z2,j_ _ _ z1]
  have hS:=HS.out
  have hcK:∀z,(SB.mk p g q hg).has z->¬ z=c:=fun z hz e=>by
   rcases hz with e2|e2|e2|e2<;>dsimp only at e2<;>rw[e]at e2
   ·exact npo e2.symm
   ·exact ngo e2.symm
   ·obtain⟨ps,ht,_⟩:=hS.tab
    have:=ht.tab.o
    rw[<- e2,h2]at this
    cases this
   ·obtain⟨ps,ht,_⟩:=hS.tab
    have:=ht.tab.r
    rw[<- e2,h2]at this
    cases this
  refine⟨_,_,Wk.refl _,Fg.refl _,PC (⟨⟨p,g,q,hg⟩,c,a⟩:OB) rfl ⟨⟨hS.keep fun z hz=>hkp z (hlv z hz) (hcK z hz),q_ _ _ _,⟨_,(j_ _ _ (by assumption)).trans ((q_ _ _ _).trans (by rw[HZ.out])),by rw[List.length_replicate],fun e he hi=>?_⟩⟩,⟨rfl,rfl,rfl,fun z hz=>?_,fun z hz hn=>hkp z hz fun e=>hn (.inr (.inl e))⟩,rfl⟩⟩
  ·rw[List.eq_of_mem_replicate he]at hi
   cases hi
  ·rcases hz with hz|hz|hz
   ·exact .inl (.inl hz)
   ·exact .inl (.inr (.inl hz))
   ·dsimp only at hz
    rw[hz]
    exact .inr hfa
 ·dsimp only at h1 h2 h3
  have hlv:∀z,(SB.mk p g q hg).has z->s z≠.free:=fun z hz=>h1.live hz
  have HS:=o_ h1
  obtain⟨mk,hm⟩:=h1.mem
  have w2:=fun(t:St) (a:t p=s p) (b:t g=s g)=>lA t p g q n B ns mk 0 ⟨a.trans hm.o,b.trans hm.r⟩
  obtain⟨hmo,hmr⟩:=hm
  dsimp only at hmo hmr w2
  rw[hmo,hmr]at w2
  have hpf:s p≠.free:=by rw[hmo];simp
  have hgf:s g≠.free:=by rw[hmr];simp
  have hof:s o≠.free:=by rw[h2];simp
  have npo:¬ p=o:=fun e=>by rw[e,h2]at hmo;cases hmo
  have ngo:¬ g=o:=fun e=>by rw[e,h2]at hmr;cases hmr
  have w1:=fun(t:St) (b:t o=.obj 123 (c9 p 1 0 (.mrw c 4096)))=>fun f=>MI t o p _ f b
  have H2:=o_ h2
  have H3:=o_ h3
  clear h1 h3
  unfold c9 mn at *
  refine am Tryz.func141 rfl Tryz.ntmps141 rfl fun Q hQ hQe=>?_
  (repeat'(first|refine Ctl ?_|((with_reducible refine k_ hK ?_);clear hK hE K E)|((with_reducible refine ah (fun h=>?_) (fun h=>?_))<;>(try(exfalso;assumption)))|((first|(with_reducible first|refine ab fun K E hK hE=>?_|refine ae BK (w1 _ ac _) ?_|refine ae xE (w2 _ ac ac) ?_)|((with_reducible refine au (fun b hb=>?_));(try(obtain⟨_,_⟩:=nef hb hpf;obtain⟨_,_⟩:=nef hb hgf;obtain⟨_,_⟩:=nef hb hof))))<;>(try simp(disch:=assumption) only[go_sem,seval, *]))))
  (refine d5 uA hQ ?_)
  exact⟨_,_,Wk.refl _,Fg.setA (Fg.refl _) hb,PC (⟨⟨p,g,q,hg⟩,o,c⟩:OB) rfl ⟨⟨HS.out,H2.out,H3.out⟩,OKeep.refl _ _,rfl⟩⟩
def ak (ks:List Nat):List (List VV):=ks.map fun(k:Nat)=>[VV.int .i64 (k:Int)]
theorem aH {ks:List Nat}{i k:Nat}(h:ks[i]?=some k):(ak ks)[i]?=some [VV.int .i64 (k:Int)]:=by simp[ak,h]
theorem natsL_len {ks:List Nat}:(ak ks).length=ks.length:=z_ _
set_option maxHeartbeats 4000000 in
theorem MG (s:St)(K:OB)(n B:Nat)(ns:List Tr)(hO:OMem s K n B ns)(ks:List Nat)(hks:∀k,k∈ks->k<ns.length)(hkn:ks.length<=1000000)(ow:Own) :
  SCalls Tryz.prog 107 [.ptr K.o 0,.lst (ak ks) ow] s fun w u=>∃a:FrA,w=.ret (.int .i64 0)/\u=a.1/\OMem1 a.1 a.2 n B ns/\OKeep s a.1 K a.2/\a.2.s=K.s:=by
 have wF:=B9 s K n B ns hO
 have hlen:(ak ks).length=ks.length:=natsL_len
 have hat:=fun i k (h:ks[i]?=some k)=>aH h
 obtain⟨d,c,ho⟩:=hO.op
 obtain⟨mk,hm⟩:=hO.st.mem
 have w1:=fun(k:Nat) (t:Tr) (hk:ns[k]?=some t)=>c8 s K.s.p K.s.g K.s.q n B k ns t mk 0 hm hk
 generalize K.o=o at *
 generalize K.s.p=p at *
 clear hm hO
 unfold c9 mn at *
 have hof:s o≠.free:=by rw[ho];simp
 have HK:=o_ hks
 have HA:=o_ hat
 have HW:=o_ w1
 clear hks hat w1
 generalize ak ks=L at *
 refine am Tryz.func107 rfl Tryz.ntmps107 rfl fun Q hQ hQe=>?_
 (repeat'(first|refine Ctl ?_|((with_reducible refine k_ hK ?_);clear hK hE K E)|((with_reducible refine ah (fun h=>?_) (fun h=>?_))<;>(try(exfalso;assumption)))|(((with_reducible refine ab fun K E hK hE=>?_))<;>(try simp(disch:=assumption) only[go_sem,seval,hlen, *]))))
 refine aY (fun m env s'=>∃(i:Nat),i<=ks.length/\m+i=ks.length/\s'=s/\env 0=.ptr o 0/\env 20=.lst L ow/\env 21=.int .i64 ks.length/\env 22=.int .i64 i) ks.length
  ⟨0,by omega,by omega,rfl,ac,ac,ac,ac⟩ ?_
 rintro m env s' ⟨i,hi,hmi,rfl,e0,e20,e21,e22⟩
 by_cases h2:i<ks.length
 ·have hk:=m_ h2
  have hkl:=HK.out _ (y_ hk)
  have hx:=HA.out _ _ hk
  have w1:=HW.out _ _ (m_ hkl)
  clear hk
  generalize ks[i]=k at *
  (repeat'(first|refine Ctl ?_|((with_reducible refine k_ hK ?_);clear hK hE K E)|((with_reducible refine ah (fun h=>?_) (fun h=>?_))<;>(try(exfalso;assumption)))|(((with_reducible first|refine ab fun K E hK hE=>?_|refine ae ey (w1) ?_))<;>(try simp(disch:=omega) only[go_sem,seval,hx, *]))))
  all_goals exact⟨m - 1,by omega,i+1,by omega,by omega,rfl,ac,ac,ac,ac⟩
 ·(repeat'(first|refine Ctl ?_|((with_reducible refine k_ hK ?_);clear hK hE K E)|((with_reducible refine ah (fun h=>?_) (fun h=>?_))<;>(try(exfalso;assumption)))|((first|(with_reducible refine ab fun K E hK hE=>?_)|((with_reducible refine ao Mi (wF) (fun a h=>?_))))<;>(try simp(disch:=assumption) only[go_sem,seval, *]))))
  all_goals(refine aq As hQ ?_)
  exact⟨_,_,Wk.refl _,Fg.refl _,a,rfl,rfl,h⟩
set_option maxHeartbeats 4000000 in
theorem B8 (s:St)(K:OB)(n B:Nat)(ns:List Tr)(hO:OMem s K n B ns)(v k:Nat)(t:Tr)(hk:ns[k]?=some t) :
  SRet Tryz.prog 143 [.ptr K.o 0,.int .i64 v,.int .i64 k] s (.tup (if aW n t=v then [.int .i64 (lowN ns t),.int .i64 (highN ns t)] else [.int .i64 k,.int .i64 k])) s:=by
 obtain⟨d,c,ho⟩:=hO.op
 obtain⟨mk,hm⟩:=hO.st.mem
 have w1:=c8 s K.s.p K.s.g K.s.q n B k ns t mk 0 hm hk
 generalize K.o=o at *
 generalize K.s.p=p at *
 clear hm hO hk
 unfold c9 mn at *
 have hof:s o≠.free:=by rw[ho];simp
 generalize aW n t=w at *
 generalize lowN ns t=l at *
 generalize highN ns t=h at *
 by_cases e:w=v
 ·subst e
  simp only[if_true]
  refine am Tryz.func143 rfl Tryz.ntmps143 rfl fun Q hQ hQe=>?_
  (repeat'(first|refine Ctl ?_|((with_reducible refine k_ hK ?_);clear hK hE K E)|((with_reducible refine ah (fun h=>?_) (fun h=>?_))<;>(try(exfalso;assumption)))|(((with_reducible first|refine ab fun K E hK hE=>?_|refine ae ey (w1) ?_))<;>(try simp(disch:=assumption) only[go_sem,seval, *]))))
  all_goals(refine aq uz hQ ?_)
  all_goals(refine⟨_,_,Wk.of_eq ?_,?_,rfl,rfl⟩)
  all_goals first|rfl|(exact bK)
 ·have e2:¬ (w:Int)=v:=by omega
  simp only[if_neg e]
  clear e
  refine am Tryz.func143 rfl Tryz.ntmps143 rfl fun Q hQ hQe=>?_
  (repeat'(first|refine Ctl ?_|((with_reducible refine k_ hK ?_);clear hK hE K E)|((with_reducible refine ah (fun h=>?_) (fun h=>?_))<;>(try(exfalso;assumption)))|(((with_reducible first|refine ab fun K E hK hE=>?_|refine ae ey (w1) ?_))<;>(try simp(disch:=assumption) only[go_sem,seval, *]))))
  all_goals(refine aq uz hQ ?_)
  all_goals(refine⟨_,_,Wk.of_eq ?_,?_,rfl,rfl⟩)
  all_goals first|rfl|(exact bK)
theorem uZ (a b:Nat):be false (.int .i64 (a:Int)) (.int .i64 (b:Int))=some (.int .i64 ((min a b:Nat):Int)):=by
 have:be false (.int .i64 (a:Int)) (.int .i64 (b:Int))=some (.int .i64 (if (b:Int)<a then b else a)):=by simp[be]
 rw[this]
 congr 2
 split<;>omega
set_option maxHeartbeats 4000000 in
theorem MC (s:St)(K:OB)(n B:Nat)(ns:List Tr)(hO:OMem s K n B ns)(ka kb kc:Nat)(ta tb tc:Tr)(ha:ns[ka]?=some ta)(hb:ns[kb]?=some tb)(hc:ns[kc]?=some tc)(ow:Own) :
  SRet Tryz.prog 142 [.ptr K.o 0,.lst [[.int .i64 ka],[.int .i64 kb],[.int .i64 kc]] ow] s (.int .i64 ((min (min (min n (aW n ta)) (aW n tb)) (aW n tc):Nat):Int)) s:=by
 obtain⟨d,c,ho⟩:=hO.op
 obtain⟨mk,hm⟩:=hO.st.mem
 have w0:=kI s K.s.p K.s.g K.s.q n B ns mk 0 hm
 have w1:=c8 s K.s.p K.s.g K.s.q n B ka ns ta mk 0 hm ha
 have w2:=c8 s K.s.p K.s.g K.s.q n B kb ns tb mk 0 hm hb
 have w3:=c8 s K.s.p K.s.g K.s.q n B kc ns tc mk 0 hm hc
 generalize K.o=o at *
 generalize K.s.p=p at *
 clear hm hO ha hb hc
 unfold c9 mn at *
 have hof:s o≠.free:=by rw[ho];simp
 generalize aW n ta=va at *
 generalize aW n tb=vb at *
 generalize aW n tc=vc at *
 have m1:=uZ n va
 have m2:=uZ (min n va) vb
 have m3:=uZ (min (min n va) vb) vc
 generalize lowN ns ta=la at *
 generalize lowN ns tb=lb at *
 generalize lowN ns tc=lc at *
 generalize highN ns ta=ha at *
 generalize highN ns tb=hb at *
 generalize highN ns tc=hc at *
 generalize min (min (min n va) vb) vc=u3 at *
 generalize min (min n va) vb=u2 at *
 generalize min n va=u1 at *
 refine am Tryz.func142 rfl Tryz.ntmps142 rfl fun Q hQ hQe=>?_
 (repeat'(first|refine Ctl ?_|((with_reducible refine k_ hK ?_);clear hK hE K E)|(((with_reducible first|refine ab fun K E hK hE=>?_|refine ae oX (w0) ?_))<;>(try simp(disch:=assumption) only[go_sem,seval, *]))))
 refine kJ 4 (cD 3 ?_)
 (repeat'(first|refine Ctl ?_|((with_reducible refine k_ hK ?_);clear hK hE K E)|((with_reducible refine ah (fun h=>?_) (fun h=>?_))<;>(try(exfalso;assumption)))|(((with_reducible first|refine ab fun K E hK hE=>?_|refine ae ey (w1) ?_))<;>(try simp(disch:=omega) only[go_sem,seval,m1, *]))))
 refine cD 2 ?_
 (repeat'(first|refine Ctl ?_|((with_reducible refine k_ hK ?_);clear hK hE K E)|((with_reducible refine ah (fun h=>?_) (fun h=>?_))<;>(try(exfalso;assumption)))|(((with_reducible first|refine ab fun K E hK hE=>?_|refine ae ey (w2) ?_))<;>(try simp(disch:=omega) only[go_sem,seval,m2, *]))))
 refine cD 1 ?_
 (repeat'(first|refine Ctl ?_|((with_reducible refine k_ hK ?_);clear hK hE K E)|((with_reducible refine ah (fun h=>?_) (fun h=>?_))<;>(try(exfalso;assumption)))|(((with_reducible first|refine ab fun K E hK hE=>?_|refine ae ey (w3) ?_))<;>(try simp(disch:=omega) only[go_sem,seval,m3, *]))))
 refine cD 0 ?_
 (repeat'(first|refine Ctl ?_|((with_reducible refine k_ hK ?_);clear hK hE K E)|((with_reducible refine ah (fun h=>?_) (fun h=>?_))<;>(try(exfalso;assumption)))|(((with_reducible refine ab fun K E hK hE=>?_))<;>(try simp(disch:=assumption) only[go_sem,seval, *]))))
 all_goals(refine aq Aj hQ ?_)
 all_goals(refine⟨_,_,Wk.of_eq ?_,?_,rfl,rfl⟩)
 all_goals first|rfl|(exact bK)
theorem iN (e:CE):(ceC e).length=5:=rfl
theorem oU:∀(l:List CE),(cP l).length=l.length * 5
 |[]=>rfl
 |e::l=>by
  have:=oU l
  simp only[cP]at this
  simp only[cP,List.map_cons,List.flatten_cons,p_,iN,this,List.length_cons]
  omega
theorem rD:∀{l:List CE} {k:Nat} {e:CE},l[k]?=some e->((cP l).drop (k * 5)).take 5=ceC e
 |[],k,e,h=>by simp at h
 |q::l,0,e,h=>by
  simp at h
  subst h
  simp only[cP,List.map_cons,List.flatten_cons,Nat.zero_mul,List.drop_zero]
  rw[List.take_left' (iN q)]
 |q::l,k+1,e,h=>by
  have ih:=rD (l:=l) (k:=k) (e:=e) (by simpa using h)
  simp only[cP]at ih
  simp only[cP,List.map_cons,List.flatten_cons]
  rw[show (k+1) * 5=(ceC q).length+k * 5 by rw[iN];omega,List.drop_append,List.drop_eq_nil_of_le (by omega),Nat.add_sub_cancel_left,List.nil_append,ih]
theorem qG {l:List CE}{k:Nat}{e:CE}(h:l[k]?=some e){j:Nat}(hj:j<5):(cP l)[k * 5+j]?=(ceC e)[j]?:=by
 have h1:=rD h
 have h4:(((cP l).drop (k * 5)).take 5)[j]?=(ceC e)[j]?:=by rw[h1]
 rw[List.getElem?_take_of_lt hj,List.getElem?_drop]at h4
 exact h4
theorem BA {l:List CE}{k:Nat}{e:CE}(h:l[k]?=some e):((cP l).drop (k * 5+1)).take 3=[.int .i64 e.a,.int .i64 e.b,.int .i64 e.c]:=by
 have h1:=rD h
 have h2:((((cP l).drop (k * 5)).take 5).drop 1).take 3=[.int .i64 e.a,.int .i64 e.b,.int .i64 e.c]:=by rw[h1];rfl
 rw[List.drop_take,List.take_take,List.drop_drop]at h2
 exact h2
theorem tJ:∀{l:List CE} {k:Nat} {e:CE},k<l.length->splice (cP l) (k * 5) (ceC e)=cP (l.set k e)
 |[],k,e,h=>by simp at h
 |q::l,0,e,h=>by
  simp only[splice,cP,List.map_cons,List.flatten_cons,Nat.zero_mul,List.take_zero,List.nil_append,List.set_cons_zero,Nat.zero_add]
  rw[iN,<- iN q,List.drop_left']
  rfl
 |q::l,k+1,e,h=>by
  have ih:=tJ (l:=l) (k:=k) (e:=e) (by simpa using h)
  simp only[splice,cP]at ih
  simp only[splice,cP,List.map_cons,List.flatten_cons,List.set_cons_succ]
  rw[<- ih,show (k+1) * 5=(ceC q).length+k * 5 by rw[iN];omega,List.take_append,s_ (by omega),Nat.add_sub_cancel_left,Nat.add_assoc,List.drop_append,List.drop_eq_nil_of_le (by omega),Nat.add_sub_cancel_left,List.nil_append]
  simp only[List.append_assoc]
theorem E7 {l:List CE}{k:Nat}(h:k<l.length):k * 5+5<=(cP l).length:=by
 rw[oU]
 omega
theorem yX:∃f:Int->Nat,(∀q,bF .and .i64 q 4095=some (.int .i64 ((f q:Nat):Int)))/\∀q,f q<4096:=by
 refine⟨fun q=>(q % 4096).toNat,fun q=>?_,fun q=>by show (q % 4096).toNat<4096;omega⟩
 have h:=kC q 12 (by omega)
 have h2:jv .i64 q 4095=q % 4096:=h
 show some (VV.int .i64 (jv .i64 q 4095))=_
 rw[h2]
 have:(((q % 4096).toNat:Nat):Int)=q % 4096:=by omega
 rw[this]
theorem NsOk.lo {n:Nat}{ns:List Tr}(h:NsOk n ns){t:Tr}(ht:t∈ns)(v:Nat):loT v t∈ns/\hiT v t∈ns:=by
 cases t with
 |lf b=>exact⟨ht,ht⟩
 |nd w l r=>
  obtain⟨a,b⟩:=h.ch _ _ _ ht
  refine⟨?_,?_⟩
  ·show (if w=v then l else .nd w l r)∈ns
   split<;>assumption
  ·show (if w=v then r else .nd w l r)∈ns
   split<;>assumption
theorem pn {s:St}{K:OB}{n B:Nat}{ns:List Tr}(hO:OMem s K n B ns){v:Nat}(hv:v<n){t:Tr}(ht:t∈ns) :
  SRet Tryz.prog 143 [.ptr K.o 0,.int .i64 v,.int .i64 (ixN ns t:Nat)] s (.tup [.int .i64 (ixN ns (loT v t):Nat),.int .i64 (ixN ns (hiT v t):Nat)]) s:=by
 have h:=B8 s K n B ns hO v (ixN ns t) t (bS ht)
 cases t with
 |lf b=>
  have:¬ aW n (.lf b)=v:=by simp only[aW];omega
  rw[if_neg this]at h
  exact h
 |nd w l r=>
  by_cases e:w=v
  ·rw[if_pos (show aW n (.nd w l r)=v from e)]at h
   simp only[lowN,highN]at h
   simp only[loT,hiT,if_pos e]
   exact h
  ·rw[if_neg (show ¬ aW n (.nd w l r)=v from e)]at h
   simp only[loT,hiT,if_neg e]
   exact h
theorem NsOk.one {n:Nat}{ns:List Tr}(h:NsOk n ns){t:Tr}(ht:t∈ns):(ixN ns t=1↔t=.lf true)/\(ixN ns t=0↔t=.lf false):=by
 have h0:=h.lf false
 have h1:=h.lf true
 refine⟨⟨fun e=>cw ht h1.1 (e.trans h1.2.symm),fun e=>by rw[e];exact h1.2⟩,⟨fun e=>cw ht h0.1 (e.trans h0.2.symm),fun e=>by rw[e];exact h0.2⟩⟩
abbrev gJ:=St×OB×List Tr
structure OpR (s:St) (K:OB) (n B:Nat) (ns:List Tr) (T:Tr) (a:gJ):Prop where
 m:OMem1 a.1 a.2.1 n B a.2.2
 e:ExtN ns a.2.2 T
 k:OKeep s a.1 K a.2.1
 c:a.2.1.c=K.c
def lE (s:St)(K:OB)(n B:Nat)(ns:List Tr)(ta tb tc:Tr):Prop:=
 SCalls Tryz.prog 108 [.ptr K.o 0,.int .i64 (ixN ns ta:Nat),.int .i64 (ixN ns tb:Nat),.int .i64 (ixN ns tc:Nat)] s fun w u=>∃a:gJ,w=.ret (.tup [.int .i64 (ixN a.2.2 (iteT n ta tb tc):Nat),.int .i64 0])/\u=a.1/\OpR s K n B ns (iteT n ta tb tc) a
theorem OMem1.live' {s:St}{K:OB}{n B:Nat}{ns:List Tr}(h:OMem1 s K n B ns){z:Nat}(hz:K.has z):s z≠.free:=OMem.live (.inr h) hz
theorem OMem1.keep {s u:St}{K:OB}{n B:Nat}{ns:List Tr}(h:OMem1 s K n B ns)(hk:∀z,K.has z->u z=s z):OMem1 u K n B ns:=by
 obtain⟨xs,e,hx⟩:=h.ca
 exact⟨h.st.keep fun z hz=>hk z (.inl hz),(hk _ (.inr (.inl rfl))).trans h.ob,⟨xs,(hk _ (.inr (.inr rfl))).trans e,hx⟩⟩
theorem OMem1.sep {s:St}{K:OB}{n B:Nat}{ns:List Tr}(h:OMem1 s K n B ns):¬ K.s.has K.c/\¬ K.s.has K.o:=by
 obtain⟨mk,hm⟩:=h.st.mem
 obtain⟨ps,ht,_⟩:=h.st.tab
 obtain⟨xs,e,_⟩:=h.ca
 have ho:=h.ob
 constructor
 ·rintro(e1|e1|e1|e1)
  ·have:=hm.o;rw[<- e1,e]at this;cases this
  ·have:=hm.r;rw[<- e1,e]at this;cases this
  ·have:=ht.tab.o;rw[<- e1,e]at this;cases this
  ·have:=ht.tab.r;rw[<- e1,e]at this;cases this
 ·rintro(e1|e1|e1|e1)
  ·have:=hm.o;rw[<- e1,ho]at this;cases this
  ·have:=hm.r;rw[<- e1,ho]at this;cases this
  ·have:=ht.tab.o;rw[<- e1,ho]at this;cases this
  ·have:=ht.tab.r;rw[<- e1,ho]at this;cases this
theorem SKeep.toO {s u:St}{K:OB}{K':SB}(h:SKeep s u K.s K'):OKeep s u K ⟨K',K.o,K.c⟩:=by
 refine⟨h.p,h.q,rfl,fun z hz=>?_,fun z hz hn=>h.out z hz fun e=>hn (.inl e)⟩
 rcases hz with e|e|e
 ·rcases h.nw z e with e|e
  ·exact .inl (.inl e)
  ·exact .inr e
 ·exact .inl (.inr (.inl e))
 ·exact .inl (.inr (.inr e))
theorem CacheOk.ext {n:Nat}{ns ns':List Tr}{R:Tr}{xs:List CE}(h:CacheOk n ns xs)(he:ExtN ns ns' R):CacheOk n ns' xs:=by
 refine⟨h.1,fun e hm hi=>?_⟩
 obtain⟨ta,tb,tc,a,b,c,q1,q2,q3,d,q4⟩:=h.2 e hm hi
 obtain⟨a1,a2⟩:=he.sub a
 obtain⟨b1,b2⟩:=he.sub b
 obtain⟨c1,c2⟩:=he.sub c
 obtain⟨d1,d2⟩:=he.sub d
 exact⟨ta,tb,tc,a1,b1,c1,by rw[a2];exact q1,by rw[b2];exact q2,by rw[c2];exact q3,d1,by rw[d2];exact q4⟩
theorem FitN.ext {ns ns':List Tr}{R R' T:Tr}{B:Nat}(h:FitN ns T B)(he:ExtN ns ns' R)(hR:∀t,t∈aL R->t∈aL T)(hR':∀t,t∈aL R'->t∈aL T):FitN ns' R' B:=fun X hX hs=>h X hX fun t ht=>by
 rcases hs t ht with e|e
 ·rcases he.new t e with e|e
  ·exact .inl e
  ·exact .inr (hR t e)
 ·exact .inr (hR' t e)
set_option maxHeartbeats 4000000 in
theorem kH {s:St}{K:OB}{n B:Nat}{ns:List Tr}(hO:OMem1 s K n B ns){ta tb tc:Tr}(ha:ta∈ns)(hb:tb∈ns)(hc:tc∈ns)(h:ta=.lf true\/tb=tc):lE s K n B ns ta tb tc:=by
 have hN:=hO.st.ok
 have hT:iteT n ta tb tc=tb:=by
  rcases h with h|h
  ·rw[h];exact Bb (hN.ok _ hb) (hN.ok _ hc)
  ·rw[<- h];exact yG (hN.ok _ ha) (hN.ok _ hb)
 unfold lE
 rw[hT]
 have hR:OpR s K n B ns tb (s,K,ns):=⟨hO,.refl hb,.refl _ _,rfl⟩
 have h2:((ixN ns ta:Nat):Int)=1\/((ixN ns tb:Nat):Int)=((ixN ns tc:Nat):Int):=by
  rcases h with h|h
  ·exact .inl (by rw[((hN.one ha).1).2 h];rfl)
  ·exact .inr (by rw[h])
 have HR:=o_ hR
 have hX:(ixN (s,K,ns).2.2 tb)=ixN ns tb:=rfl
 clear hR h hO hT
 suffices hs:SRet Tryz.prog 108 [.ptr K.o 0,.int .i64 (ixN ns ta:Nat),.int .i64 (ixN ns tb:Nat),.int .i64 (ixN ns tc:Nat)] s (.tup [.int .i64 (ixN ns tb:Nat),.int .i64 0]) s by
  refine SCalls.mono (h:=hs) ?_
  rintro w u ⟨rfl,rfl⟩
  exact⟨(u,K,ns),rfl,rfl,HR.out⟩
 generalize ixN ns ta=ka at *
 generalize ixN ns tb=kb at *
 generalize ixN ns tc=kc at *
 by_cases e:(ka:Int)=1
 ·refine am Tryz.func108 rfl Tryz.ntmps108 rfl fun Q hQ hQe=>?_
  (repeat'(first|refine Ctl ?_|((with_reducible refine k_ hK ?_);clear hK hE K E)|((with_reducible refine ah (fun h=>?_) (fun h=>?_))<;>(try(exfalso;assumption)))|(((with_reducible refine ab fun K E hK hE=>?_))<;>(try simp(disch:=assumption) only[go_sem,seval, *]))))
  all_goals(refine aq jj hQ ?_)
  all_goals(refine⟨_,_,Wk.of_eq ?_,?_,rfl,rfl⟩)
  all_goals first|rfl|(exact bK)
 ·have h3:kb=kc:=by have:=h2.resolve_left e;omega
  subst h3
  clear h2 hX
  refine am Tryz.func108 rfl Tryz.ntmps108 rfl fun Q hQ hQe=>?_
  (repeat'(first|refine Ctl ?_|((with_reducible refine k_ hK ?_);clear hK hE K E)|((with_reducible refine ah (fun h=>?_) (fun h=>?_))<;>(try(exfalso;assumption)))|(((with_reducible refine ab fun K E hK hE=>?_))<;>(try simp(disch:=assumption) only[go_sem,seval, *]))))
  all_goals(refine aq jj hQ ?_)
  all_goals(refine⟨_,_,Wk.of_eq ?_,?_,rfl,rfl⟩)
  all_goals first|rfl|(exact bK)
end Go.Proofs.YtohnaepcgnbaiaaGreatDoor
