/- Walks. Conditions: in the statements. -/
import Derived.Test.YtohnaepcgnbaiaaGreatDoorJlGo
import Derived.Deep.Slices
import Derived.SizedLaws
import Derived.DataShut
set_option linter.unusedSimpArgs false
set_option linter.unusedVariables false
namespace Go.Proofs.YtohnaepcgnbaiaaGreatDoor
open Go.RowKit
section
variable {P : Program} {N : Nat} {all : List Oper}
def eu (P:Program)(all:List Oper):TU->List (Env×St)->Array Bool->St->Prop
 |hs::gr,(e,s)::hr,l,s'=>eu P all gr hr l s'/\jY P all e s hs l s'
 |_,_,_,_=>True
def eQ (P:Program)(all:List Oper):List (Env×St)->TU->St->Prop
 |(e,s)::hr,is::sr,s'=>eQ P all hr sr s'/\oF P all e s (dd all is) s'
 |_,_,_=>True
def vEa (P:Program)(N:Nat)(all:List Oper)(i:Nat)(R:Env->St->Prop)(E:VV->Env->St->Prop)(env1:Env)(s1:St):Prop:=
 ∃o,all[i]?=some o/\∀K':Env->St->Prop,@Kof R K'->aw P N all K' E [o] env1 s1
abbrev B7:=List (TW×Nat×TU)
def vPl (P:Program)(N:Nat)(all:List Oper)(K:Env->St->Prop)(E:VV->Env->St->Prop)(fin:TW):B7->List (Env×St)->Env->St->Prop
 |[],_,env,s=>∀Kh:Env->St->Prop,@Kof K Kh->aw P N all Kh F0 (dd all fin) env s
 |(hs,i,sub)::r,hist,env,s=>∀Kh:Env->St->Prop,
   @Kof (fun env1 s1=>vEa P N all i (fun e s'=>eQ P all ((env1,s1)::hist) sub s'/\vPl P N all K E fin r ((env1,s1)::hist) e s') E env1 s1) Kh ->
   aw P N all Kh F0 (dd all hs) env s
def aU:TW->Array Bool->Array Bool
 |[],l=>l
 |i::r,l=>aU r (l.setIfInBounds i true)
def sN (all:List Oper)(keep:TW)(fin:TW):B7->TU->Array Bool->Tg
 |[],_,listed,f=>decide (f=fin.length) && dq all listed && eR all keep fin listed (aU fin listed) && decide (Region.ready .any all.toArray (aU fin listed)=[])
 |(hs,i,sub)::r,gr,listed,f=>decide (hs.length+1<=f) && dq all listed && eR all keep hs listed (aU hs listed) && decide (Region.ready .any all.toArray (aU hs listed)=[i]) &&
   decide ((hs::gr).map (fun g=>g.filter fun k=>eS all k ((aU hs listed).setIfInBounds i true))=sub) && (all[i]?).isSome &&
   sN all keep fin r (hs::gr) ((aU hs listed).setIfInBounds i true) (f - hs.length - 1)
theorem fX:∀(gr:TU) (hist:List (Env×St)),HM all (eu P all gr hist)
 |[],_=>fun k hk l s=>by unfold eu;exact Iff.rfl
 |hs::gr,[]=>fun k hk l s=>by unfold eu;exact Iff.rfl
 |hs::gr,(e,s0)::hr=>fun k hk l s=>by
  unfold eu
  rw[fX gr hr k hk l s,qz hk]
theorem io {l:Array Bool}{s':St}:∀{gr:TU} {hist:List (Env×St)},eQ P all hist (gr.map fun g=>g.filter fun k=>eS all k l) s'->eu P all gr hist l s'
 |[],_,_=>by unfold eu;trivial
 |hs::gr,[],_=>by unfold eu;trivial
 |hs::gr,(e,s0)::hr,h=>⟨io h.1,h.2⟩
theorem A6 {K:Env->St->Prop}{E:VV->Env->St->Prop}{keep:TW}(hE:EOk N keep E){fin:TW} :
  ∀(pl:B7) (gr:TU) (hist:List (Env×St)) (listed:Array Bool) (env:Env) (s:St) (f:Nat),sN all keep fin pl gr listed f=true->eu P all gr hist listed s ->
   vPl P N all K E fin pl hist env s->dI P N all (eu P all gr hist) K E f listed env s
 |[],gr,hist,listed,env,s,f,hB,hI,h=>by
  simp only[sN,Bool.and_eq_true,decide_eq_true_eq]at hB
  obtain⟨⟨⟨hf,hcl⟩,hh⟩,hr⟩:=hB
  refine pq hE fin (f:=0) (aU fin listed) rfl hh hcl (by omega) hI (fX gr hist) fun Kh hKh=>?_
  exact h Kh fun envf s' hk=>hKh envf s' fun _ _=>⟨hr,hk⟩
 |(hs,i,sub)::r,gr,hist,listed,env,s,f,hB,hI,h=>by
  simp only[sN,Bool.and_eq_true,decide_eq_true_eq]at hB
  obtain⟨⟨⟨⟨⟨⟨hf,hcl⟩,hh⟩,hr⟩,hsub⟩,hso⟩,hB⟩:=hB
  refine pq hE hs (f:=f - hs.length - 1+1) (aU hs listed) rfl hh hcl (by omega) hI (fX gr hist) fun Kh hKh=>?_
  refine h Kh fun env1 s1 hk=>hKh env1 s1 fun hI1 hM1=>?_
  obtain⟨o,ho,hk⟩:=hk
  refine vU [(i,(aU hs listed).setIfInBounds i true)] (by simpa using hr) (by simp) ⟨⟨rfl,fun K' hK'=>⟨o,ho,hk K' fun e s' hq=>hK' e s' ?_⟩⟩,trivial⟩
  obtain⟨hq1,hq2⟩:=hq
  have hI2:eu P all (hs::gr) ((env1,s1)::hist) ((aU hs listed).setIfInBounds i true) s':=io (by rw[hsub];exact hq1)
  exact⟨hI2,fun _=>A6 hE r (hs::gr) ((env1,s1)::hist) _ e s' _ hB hI2 hq2⟩
theorem ax {D:List Deferred}{k:List Itm}{Q:Pst}{env:Env}{s:St}(id:Nat){ops:List Oper}{keep:TW}(pl:B7)(fin:TW)(hQ:EOk N keep (fun x=>Q (.panic x)))
  (h:∀(K:Env->St->Prop) (E:VV->Env->St->Prop),@Kof (Kp P N D k Q .norm) K->@Eof (fun x=>Q (.panic x)) E->vPl P N ops K E fin pl [] env s)
  (hm:P.follows .mixedOrders=true:=by decide +kernel) (hB:sN ops keep fin pl [] (Array.replicate ops.length false) ops.length=true:=by decide +kernel) :
  Kp P N D (.code (.region id ops.toArray true)::k) Q .norm env s:=
 Cr hm hQ fun K E hK hE hEe hI hM=>dB (fun _ _ _=>trivial) _ _ _ _ (A6 hEe pl [] [] _ env s _ hB trivial (h K E hK hE))
theorem ay {K:Env->St->Prop}{E:VV->Env->St->Prop}{fin hs:TW}{i:Nat}{sub:TU}{r:B7}{hist:List (Env×St)}{env:Env}{s:St}{ops:List Oper}
  (h:∀Kh:Env->St->Prop,
   @Kof (fun env1 s1=>vEa P N all i (fun e s'=>eQ P all ((env1,s1)::hist) sub s'/\vPl P N all K E fin r ((env1,s1)::hist) e s') E env1 s1) Kh ->
   aw P N all Kh F0 ops env s) (hp:dd all hs=ops:=by(simp only[nT,qg,qd,List.getElem?_cons_zero,List.getElem?_cons_succ]<;>rfl)):vPl P N all K E fin ((hs,i,sub)::r) hist env s:=by
 subst hp;exact h
theorem aG {K:Env->St->Prop}{E:VV->Env->St->Prop}{fin:TW}{hist:List (Env×St)}{env:Env}{s:St}{ops:List Oper}
  (h:∀Kh:Env->St->Prop,@Kof K Kh->aw P N all Kh F0 ops env s) (hp:dd all fin=ops:=by(simp only[nT,qg,qd,List.getElem?_cons_zero,List.getElem?_cons_succ]<;>rfl)):vPl P N all K E fin [] hist env s:=by
 subst hp;exact h
theorem aB {i:Nat}{R:Env->St->Prop}{E:VV->Env->St->Prop}{env1:Env}{s1:St}{o:Oper}(h:∀K':Env->St->Prop,@Kof R K'->aw P N all K' E [o] env1 s1)(ho:all[i]?=some o:=by(simp only[List.getElem?_cons_zero,List.getElem?_cons_succ]<;>rfl)) :
  vEa P N all i R E env1 s1:=⟨o,ho,h⟩
theorem oG {e:Env}{s s':St}{hr:List (Env×St)}{is:TW}{sr:TU}:eQ P all ((e,s)::hr) (is::sr) s'=(eQ P all hr sr s'/\oF P all e s (dd all is) s'):=rfl
theorem qy {s':St}:eQ P all [] [] s'=True:=rfl
theorem qw {e:Env}{s s':St}:oF P all e s [] s'=True:=rfl
attribute [go_sem] oG qy qw z_
theorem aC {hist:List (Env×St)}{sub:TU}{s':St}{q:Prop}(h:q)
  (hh:eQ P all hist sub s':=by first
   |(simp only[oG,qy,qw,nT,and_true];done)
   |(simp(disch:=first|assumption|omega) only[go_sem,seval,nT,qg,qd,oF,jX,ev,tq, *];done)):eQ P all hist sub s'/\q:=⟨hh,h⟩
end
theorem xA {a b:Int}:(a=b)=((a=b)=True):=propext ⟨eq_true,of_eq_true⟩
theorem xz {a b:Nat}:(a=b)=((a=b)=True):=propext ⟨eq_true,of_eq_true⟩
theorem xw {a b:UInt8}:(a=b)=((a=b)=True):=propext ⟨eq_true,of_eq_true⟩
theorem xx {a b:TT}:(a=b)=((a=b)=True):=propext ⟨eq_true,of_eq_true⟩
section
variable {P : Program} {N : Nat} {D : List Deferred} {k : List Itm} {Q : Pst} {env : Env} {s : St} {all rest : List Oper} {K : Env -> St -> Prop} {E : VV -> Env -> St -> Prop}
theorem bZ {c:Operand}{x y:Code}{b:Bool}{p q:Prop}(h1:p->Kp P N D (.code x::k) Q .norm env s)(h2:q->Kp P N D (.code y::k) Q .norm env s)
  (hb:rd env c=.bool b:=by((try simp(disch:=first|assumption|omega) only[go_sem,seval, *])<;>rfl))
  (hp:(b=true)=p:=by((try simp only[decide_eq_true_eq,decide_eq_false_iff_not,Bool.not_eq_true',Bool.not_eq_false',Bool.not_eq_true,Bool.not_eq_false,Int.ofNat_lt,Int.ofNat_le,Int.natCast_inj,bne_iff_ne,ne_eq,beq_iff_eq,reduceCtorEq,Bool.true_eq_false,Bool.false_eq_true,decide_not,not_false_eq_true,not_true_eq_false]);first|exact xA|exact xz|exact xw|exact xx|rfl))
  (hq:(b=false)=q:=by((try simp only[decide_eq_true_eq,decide_eq_false_iff_not,Bool.not_eq_true',Bool.not_eq_false',Bool.not_eq_true,Bool.not_eq_false,Int.ofNat_lt,Int.ofNat_le,Int.natCast_inj,bne_iff_ne,ne_eq,beq_iff_eq,reduceCtorEq,Bool.true_eq_false,Bool.false_eq_true,decide_not,not_false_eq_true,not_true_eq_false]);first|exact xA|exact xz|exact xw|exact xx|rfl)) :
  Kp P N D (.code (.cond c x y)::k) Q .norm env s:=M7 hb (fun h=>h1 (hp ▸ h)) (fun h=>h2 (hq ▸ h))
theorem pH {b want:Bool}{d:Option Tmp}{op:Op}{ty:TypeId}{pl:String}{af:Array Edge}{p q:Prop}
  (h1:p->vgd P N all K E (.bool true) want d op ty pl af rest env s) (h2:q->vgd P N all K E (.bool false) want d op ty pl af rest env s)
  (hp:(b=true)=p:=by((try simp only[decide_eq_true_eq,decide_eq_false_iff_not,Bool.not_eq_true',Bool.not_eq_false',Bool.not_eq_true,Bool.not_eq_false,Int.ofNat_lt,Int.ofNat_le,Int.natCast_inj,bne_iff_ne,ne_eq,beq_iff_eq,reduceCtorEq,Bool.true_eq_false,Bool.false_eq_true,decide_not,not_false_eq_true,not_true_eq_false]);first|exact xA|exact xz|exact xw|exact xx|rfl))
  (hq:(b=false)=q:=by((try simp only[decide_eq_true_eq,decide_eq_false_iff_not,Bool.not_eq_true',Bool.not_eq_false',Bool.not_eq_true,Bool.not_eq_false,Int.ofNat_lt,Int.ofNat_le,Int.natCast_inj,bne_iff_ne,ne_eq,beq_iff_eq,reduceCtorEq,Bool.true_eq_false,Bool.false_eq_true,decide_not,not_false_eq_true,not_true_eq_false]);first|exact xA|exact xz|exact xw|exact xx|rfl)) :
  vgd P N all K E (.bool b) want d op ty pl af rest env s:=G_gd (fun h=>h1 (hp ▸ h)) (fun h=>h2 (hq ▸ h))
theorem d6 {d:Option Tmp}{c:Prop}[Decidable c]{x:Option VV}(h2:eW P N all K E d rest env s x)
  (h:c:=by first|assumption|omega|(simp(disch:=first|assumption|omega) only[go_sem,seval, *];done)):eW P N all K E d rest env s (if c then x else none):=G_if h h2
theorem dP {d:Option Tmp}{c:Prop}[Decidable c]{x:Option St}(h2:mU P N all K E d rest env x)
  (h:c:=by first|assumption|omega|(simp(disch:=first|assumption|omega) only[go_sem,seval, *];done)):mU P N all K E d rest env (if c then x else none):=QF h h2
theorem iY {a b:Prop}(h:b)(ha:a:=by first|assumption|omega|trivial|(simp(disch:=first|assumption|omega) only[go_sem,seval, *];done)):a/\b:=⟨ha,h⟩
theorem au {p' q:Nat->Prop}(h:∀b,p' b->q b)(hp:∀b,(s b=.free)=p' b:=by(intro b;(try simp(disch:=first|assumption|omega) only[go_sem,seval, *]);(try simp only[jh,nu,ji,vm,vh,vo,nz,vk,ny,vi]);rfl)):∀b,New s b->q b:=
 fun b hb=>h b (hp b ▸ hb.1)
theorem fC {k:VV->St->Prop}{e:TypeId}{q:QI}{xs ys:Ta}{o:Own}{p':Own->Prop}(h:∀o',p' o'->k (.lst (xs++ys) o') ((s.disown o).own o' e q.sz (xs.length+ys.length)))
  (ho:iZ s o e q.sz xs.length:=by(simp(disch:=first|assumption|omega) only[go_sem,seval, *]))
  (hb:(xs.length+ys.length) * q.bt<=140737488355328:=by((try simp only[go_sem, *]);omega))
  (hm:xs.length+ys.length<=9223372036854775807:=by((try simp only[go_sem, *]);omega))
  (hy:∀y,y∈ys->y.length=q.sz:=by first|assumption|(intro y hy;simp only[a_]at hy;subst hy;first|rfl|(simp only[go_sem];done)|(simp;done)))
  (hz:q.zok=true:=by rfl)
  (hp:∀o',OwnOk (s.disown o) o' (xs.length+ys.length)=p' o':=by(intro o';(try simp(disch:=assumption) only[bz,bB,cZ,c6,z_,List.length_cons,List.length_nil,Nat.zero_add]);rfl)) :
  fe k e q xs ys o s:=vM _ _ rfl rfl ho hb hm hy hz fun o' h'=>h o' (hp o' ▸ h')
end
section
variable {P : Program} {N : Nat} {all : List Oper}
end
end Go.Proofs.YtohnaepcgnbaiaaGreatDoor
set_option maxRecDepth 100000
namespace Go.Proofs.YtohnaepcgnbaiaaGreatDoor
open Go.RowKit
theorem Sim.frzO {w0 w:World}{G:Gh}{s:St}(h:Sim w0 G w s){b:Nat}{T:TypeId}{xs:Tb}(hb:s b=.obj T xs) :
  ∃G',G.le G'/\Sim w0 G' w (s.set b .free)/\∀(i:Nat) (y:VV),xs[i]?=some y->y.one=true/\∃v,G'.K b i=some v/\R G' v y:=by
 have hok:=h.ok b
 rw[hb]at hok
 obtain⟨hB,hn,c,hh,hs,hx⟩:=hok
 have hle:G.le ⟨fun b' i=>if b'=b then c[i]? else G.K b' i,G.cap⟩:=⟨fun b' i v hv=>by
  by_cases e:b'=b
  ·subst e;rw[hn i]at hv;cases hv
  ·simp only[if_neg e];exact hv,fun _ _ hc=>hc⟩
 refine⟨_,hle,⟨h.below,fun b' i v hv=>?_,h.cap,fun b'=>?_,h.gl,?_⟩,fun i y hy=>?_⟩
 ·by_cases e:b'=b
  ·subst e
   simp only[if_true]at hv
   simp[World.cell?,hh,hv]
  ·simp only[if_neg e]at hv
   exact h.K _ _ _ hv
 ·by_cases e:b'=b
  ·subst e;rw[q_];trivial
  ·rw[j_ _ _ e]
   exact CellOk.keep (h.ok b') rfl hle (fun i=>if_neg e)
 ·refine Rows.keep h.rows hle (Nat.le_refl _) (fun g hg hs=>?_) (fun b' T' xs' rs hb'=>?_)
  ·have hne:g≠b:=by rintro rfl;rw[hb]at hs;cases hs
   exact⟨by rw[j_ _ _ hne];exact hs,rfl,fun i=>if_neg hne⟩
  ·have hne:b'≠b:=by rintro rfl;rw[q_]at hb';cases hb'
   rw[j_ _ _ hne]at hb'
   exact⟨xs',rs,hb',fun r hr=>⟨hr,rfl,fun c hc=>⟨c,hc,rfl⟩⟩⟩
 ·obtain⟨h1,v,hv,hr⟩:=hx i y hy
  exact⟨h1,v,by simp only[if_true];exact hv,hr.mono hle⟩
section
variable {P : Program} {N : Nat} {D : List Deferred} {c : Code} {k : List Itm} {Q : Pst} {env : Env} {s : St}
theorem Ck (t b n:Nat){T:TypeId}{xs:Tb}(hb:s b=.obj T xs)(ht:env t=.msl b n)(hn:xs.length=n)
  (h:Kp P N D (.code c::k) Q .norm (upd env t (.lst (xs.map fun y=>[y]) .no)) (s.set b .free)):Kp P N D (.code c::k) Q .norm env s:=by
 intro w0 G w a hfr hD hS
 obtain⟨G',hle,hS',hK⟩:=hS.frzO hb
 refine wp_mono (h w0 G' w a ⟨hfr.size,fun i=>?_⟩ hD hS') fun e a w=>Up.back hle
 by_cases e:i=t
 ·subst e
  have hr:=hfr.rel i
  rw[ht]at hr
  simp only[upd,if_true]
  generalize a.tmps.getD i undef=v at hr
  cases hr
  rcases Nat.eq_zero_or_pos n with h0|hpos
  ·subst h0
   have:xs=[]:=l_ hn
   subst this
   exact .emp _ _ _ (.inl rfl)
  ·have hv:∀i,i<n->∃v,G'.K b i=some v/\∀y,xs[i]?=some y->R G' v y:=fun i hi=>by
    obtain⟨_,v,h1,h2⟩:=hK i xs[i] (m_ (by omega))
    exact⟨v,h1,fun y hy=>by rw[m_ (by omega)]at hy;injection hy with hy;exact hy ▸ h2⟩
   refine .lst b 0 n n 1 _ .no (fun i _=>(G'.K b i).getD default) (by rw[z_];exact hn) (Nat.le_refl _) ?_ ?_ ?_ ?_ (.inl rfl)
   ·intro x hx
    obtain⟨y,_,rfl⟩:=A_.1 hx
    rfl
   ·intro x hx y hy
    obtain⟨z,hz,rfl⟩:=A_.1 hx
    rw[a_]at hy
    subst hy
    obtain⟨i,hi⟩:=d_.1 hz
    exact(hK i y hi).1
   ·intro i j hi hj
    obtain⟨v,h1,_⟩:=hv i hi
    have:j=0:=by omega
    subst this
    simp[h1]
   ·intro i j x y hx hy
    rw[n_]at hx
    obtain⟨z,hz,rfl⟩:=Option.map_eq_some_iff.1 hx
    have hi:i<n:=by have:=(x_.1 hz).1;omega
    obtain⟨v,h1,h2⟩:=hv i hi
    have hj:j=0:=by
     have:=(x_.1 hy).1
     simp at this;exact this
    subst hj
    simp at hy
    subst hy
    rw[h1]
    exact h2 z hz
 ·simp only[upd,if_neg e]
  exact(hfr.rel i).mono hle
def aM (l:TZ):Tb:=l.map fun n=>VV.int .i64 n
theorem dJ {l:TZ}:(aM l).length=l.length:=by simp[aM]
theorem jV {l:TZ}{i:Nat}{n:Int}(h:i<l.length):splice (aM l) i [.int .i64 n]=aM (l.set i n):=by
 simp only[splice,aM,List.map_set]
 rw[List.set_eq_take_append_cons_drop,if_pos (by rw[z_];exact h)]
 simp
def aI (l:TZ):Ta:=l.map fun n=>[VV.int .i64 n]
theorem Be {l:TZ}:(aM l).map (fun y=>[y])=aI l:=by simp[aM,aI]
theorem dW {l:TZ}:(aI l).length=l.length:=by simp[aI]
theorem ej {l:TZ}{i:Nat}{n:Int}(h:l[i]?=some n):(aI l)[i]?=some [.int .i64 n]:=by simp[aI,h]
end
theorem Sim.world {w0 w w':World}{G:Gh}{s:St}(h:Sim w0 G w s)(hb:Below w.heap.size w w'):Sim w0 G w' s:=by
 have hs:∀b,s b≠.free->b<w.heap.size:=fun b e=>h.lt e
 refine⟨h.below.trans (hb.mono h.size_le),fun b i v hk=>?_,fun b c hc=>Nat.lt_of_lt_of_le (h.cap b c hc) hb.size,fun b=>?_,h.gl,h.rows.keep' (Gh.le.refl G) hb.size (fun g hl hg=>⟨hg,hb.block g hl,fun _=>rfl⟩) (fun x T xs rs hx=>⟨hx,hb.block x (h.lt (by rw[hx];simp))⟩)⟩
 ·exact(hb.cell (p:=⟨b,i,none⟩) (h.K_lt hk)).trans (h.K b i v hk)
 ·rcases Nat.lt_or_ge b w.heap.size with e|e
  ·exact(h.ok b).keep (hb.block b e) (Gh.le.refl G) (fun _=>rfl)
  ·have hf:s b=.free:=by
    cases hc:s b with
    |free=>rfl
    |_=>exact absurd (hs b (by rw[hc];simp)) (by omega)
   rw[hf]
   trivial
def az (l:TV):Ta:=l.map fun x=>[.str x]
theorem lz {G:Gh}{vs:Th}{x y:VV}(h:RL G vs [x,y]):∃a b,vs=#[a,b]/\R G a x/\R G b y:=by
 obtain⟨hs,hr⟩:=h
 obtain⟨l⟩:=vs
 match l,hs,hr with
 |[a,b],_,hr=>exact⟨a,b,rfl,hr 0 a x rfl rfl,hr 1 b y rfl rfl⟩
inductive PT where
 |fin (hs:TW)
 |one (hs:TW) (i:Nat) (sub:TU) (r:PT)
 |two (hs:TW) (i:Nat) (subi:TU) (ri:PT) (j:Nat) (subj:TU) (rj:PT)
section
variable {P : Program} {N : Nat} {all : List Oper}
def vPt (P:Program)(N:Nat)(all:List Oper)(K:Env->St->Prop)(E:VV->Env->St->Prop):PT->List (Env×St)->Env->St->Prop
 |.fin hs,_,env,s=>∀Kh:Env->St->Prop,@Kof K Kh->aw P N all Kh F0 (dd all hs) env s
 |.one hs i sub r,hist,env,s=>∀Kh:Env->St->Prop,
   @Kof (fun env1 s1=>vEa P N all i (fun e s'=>eQ P all ((env1,s1)::hist) sub s'/\vPt P N all K E r ((env1,s1)::hist) e s') E env1 s1) Kh ->
   aw P N all Kh F0 (dd all hs) env s
 |.two hs i subi ri j subj rj,hist,env,s=>∀Kh:Env->St->Prop,
   @Kof (fun env1 s1=>vEa P N all i (fun e s'=>eQ P all ((env1,s1)::hist) subi s'/\vPt P N all K E ri ((env1,s1)::hist) e s') E env1 s1 /\
    vEa P N all j (fun e s'=>eQ P all ((env1,s1)::hist) subj s'/\vPt P N all K E rj ((env1,s1)::hist) e s') E env1 s1) Kh ->
   aw P N all Kh F0 (dd all hs) env s
def nQ (all:List Oper)(hs:TW)(gr:TU)(l:Array Bool)(i:Nat)(sub:TU):Bool:=
 decide ((hs::gr).map (fun g=>g.filter fun k=>eS all k ((aU hs l).setIfInBounds i true))=sub) && (all[i]?).isSome
def ptB (all:List Oper)(keep:TW):PT->TU->Array Bool->Tg
 |.fin hs,_,listed,f=>decide (f=hs.length) && dq all listed && eR all keep hs listed (aU hs listed) && decide (Region.ready .any all.toArray (aU hs listed)=[])
 |.one hs i sub r,gr,listed,f=>decide (hs.length+1<=f) && dq all listed && eR all keep hs listed (aU hs listed) && decide (Region.ready .any all.toArray (aU hs listed)=[i]) &&
   nQ all hs gr listed i sub && ptB all keep r (hs::gr) ((aU hs listed).setIfInBounds i true) (f - hs.length - 1)
 |.two hs i subi ri j subj rj,gr,listed,f=>decide (hs.length+1<=f) && dq all listed && eR all keep hs listed (aU hs listed) && decide (Region.ready .any all.toArray (aU hs listed)=[i,j]) &&
   nQ all hs gr listed i subi && nQ all hs gr listed j subj &&
   ptB all keep ri (hs::gr) ((aU hs listed).setIfInBounds i true) (f - hs.length - 1) && ptB all keep rj (hs::gr) ((aU hs listed).setIfInBounds j true) (f - hs.length - 1)
theorem AS {K:Env->St->Prop}{E:VV->Env->St->Prop}{keep:TW}(hE:EOk N keep E) :
  ∀(pl:PT) (gr:TU) (hist:List (Env×St)) (listed:Array Bool) (env:Env) (s:St) (f:Nat),ptB all keep pl gr listed f=true->eu P all gr hist listed s ->
   vPt P N all K E pl hist env s->dI P N all (eu P all gr hist) K E f listed env s
 |.fin hs,gr,hist,listed,env,s,f,hB,hI,h=>by
  simp only[ptB,Bool.and_eq_true,decide_eq_true_eq]at hB
  obtain⟨⟨⟨hf,hcl⟩,hh⟩,hr⟩:=hB
  refine pq hE hs (f:=0) (aU hs listed) rfl hh hcl (by omega) hI (fX gr hist) fun Kh hKh=>?_
  exact h Kh fun envf s' hk=>hKh envf s' fun _ _=>⟨hr,hk⟩
 |.one hs i sub r,gr,hist,listed,env,s,f,hB,hI,h=>by
  simp only[ptB,nQ,Bool.and_eq_true,decide_eq_true_eq]at hB
  obtain⟨⟨⟨⟨⟨hf,hcl⟩,hh⟩,hr⟩,hsub,hso⟩,hB⟩:=hB
  refine pq hE hs (f:=f - hs.length - 1+1) (aU hs listed) rfl hh hcl (by omega) hI (fX gr hist) fun Kh hKh=>?_
  refine h Kh fun env1 s1 hk=>hKh env1 s1 fun hI1 hM1=>?_
  obtain⟨o,ho,hk⟩:=hk
  refine vU [(i,(aU hs listed).setIfInBounds i true)] (by simpa using hr) (by simp) ⟨⟨rfl,fun K' hK'=>⟨o,ho,hk K' fun e s' hq=>hK' e s' ?_⟩⟩,trivial⟩
  obtain⟨hq1,hq2⟩:=hq
  have hI2:eu P all (hs::gr) ((env1,s1)::hist) ((aU hs listed).setIfInBounds i true) s':=io (by rw[hsub];exact hq1)
  exact⟨hI2,fun _=>AS hE r (hs::gr) ((env1,s1)::hist) _ e s' _ hB hI2 hq2⟩
 |.two hs i subi ri j subj rj,gr,hist,listed,env,s,f,hB,hI,h=>by
  simp only[ptB,nQ,Bool.and_eq_true,decide_eq_true_eq]at hB
  obtain⟨⟨⟨⟨⟨⟨⟨hf,hcl⟩,hh⟩,hr⟩,hsubi,hsoi⟩,hsubj,hsoj⟩,hBi⟩,hBj⟩:=hB
  refine pq hE hs (f:=f - hs.length - 1+1) (aU hs listed) rfl hh hcl (by omega) hI (fX gr hist) fun Kh hKh=>?_
  refine h Kh fun env1 s1 hk=>hKh env1 s1 fun hI1 hM1=>?_
  obtain⟨⟨o,ho,hk⟩,⟨o2,ho2,hk2⟩⟩:=hk
  refine vU [(i,(aU hs listed).setIfInBounds i true),(j,(aU hs listed).setIfInBounds j true)] (by simpa using hr) (by simp)
   ⟨⟨rfl,fun K' hK'=>⟨o,ho,hk K' fun e s' hq=>hK' e s' ?_⟩⟩,⟨rfl,fun K' hK'=>⟨o2,ho2,hk2 K' fun e s' hq=>hK' e s' ?_⟩⟩,trivial⟩
  ·obtain⟨hq1,hq2⟩:=hq
   have hI2:eu P all (hs::gr) ((env1,s1)::hist) ((aU hs listed).setIfInBounds i true) s':=io (by rw[hsubi];exact hq1)
   exact⟨hI2,fun _=>AS hE ri (hs::gr) ((env1,s1)::hist) _ e s' _ hBi hI2 hq2⟩
  ·obtain⟨hq1,hq2⟩:=hq
   have hI2:eu P all (hs::gr) ((env1,s1)::hist) ((aU hs listed).setIfInBounds j true) s':=io (by rw[hsubj];exact hq1)
   exact⟨hI2,fun _=>AS hE rj (hs::gr) ((env1,s1)::hist) _ e s' _ hBj hI2 hq2⟩
theorem rQ {D:List Deferred}{k:List Itm}{Q:Pst}{env:Env}{s:St}(id:Nat){ops:List Oper}{keep:TW}(pl:PT)(hQ:EOk N keep (fun x=>Q (.panic x)))
  (h:∀(K:Env->St->Prop) (E:VV->Env->St->Prop),@Kof (Kp P N D k Q .norm) K->@Eof (fun x=>Q (.panic x)) E->vPt P N ops K E pl [] env s)
  (hm:P.follows .mixedOrders=true:=by decide +kernel) (hB:ptB ops keep pl [] (Array.replicate ops.length false) ops.length=true:=by decide +kernel) :
  Kp P N D (.code (.region id ops.toArray true)::k) Q .norm env s:=
 Cr hm hQ fun K E hK hE hEe hI hM=>dB (fun _ _ _=>trivial) _ _ _ _ (AS hEe pl [] [] _ env s _ hB trivial (h K E hK hE))
theorem dA {K:Env->St->Prop}{E:VV->Env->St->Prop}{hs:TW}{i:Nat}{sub:TU}{r:PT}{hist:List (Env×St)}{env:Env}{s:St}{ops:List Oper}
  (h:∀Kh:Env->St->Prop,
   @Kof (fun env1 s1=>vEa P N all i (fun e s'=>eQ P all ((env1,s1)::hist) sub s'/\vPt P N all K E r ((env1,s1)::hist) e s') E env1 s1) Kh ->
   aw P N all Kh F0 ops env s) (hp:dd all hs=ops:=by(simp only[nT,qg,qd,List.getElem?_cons_zero,List.getElem?_cons_succ]<;>rfl)):vPt P N all K E (.one hs i sub r) hist env s:=by
 subst hp;exact h
theorem xP {K:Env->St->Prop}{E:VV->Env->St->Prop}{hs:TW}{i j:Nat}{subi subj:TU}{ri rj:PT}{hist:List (Env×St)}{env:Env}{s:St}{ops:List Oper}
  (h:∀Kh:Env->St->Prop,
   @Kof (fun env1 s1=>vEa P N all i (fun e s'=>eQ P all ((env1,s1)::hist) subi s'/\vPt P N all K E ri ((env1,s1)::hist) e s') E env1 s1 /\
    vEa P N all j (fun e s'=>eQ P all ((env1,s1)::hist) subj s'/\vPt P N all K E rj ((env1,s1)::hist) e s') E env1 s1) Kh ->
   aw P N all Kh F0 ops env s) (hp:dd all hs=ops:=by(simp only[nT,qg,qd,List.getElem?_cons_zero,List.getElem?_cons_succ]<;>rfl)):vPt P N all K E (.two hs i subi ri j subj rj) hist env s:=by
 subst hp;exact h
theorem ph {K:Env->St->Prop}{E:VV->Env->St->Prop}{fin:TW}{hist:List (Env×St)}{env:Env}{s:St}{ops:List Oper}
  (h:∀Kh:Env->St->Prop,@Kof K Kh->aw P N all Kh F0 ops env s) (hp:dd all fin=ops:=by(simp only[nT,qg,qd,List.getElem?_cons_zero,List.getElem?_cons_succ]<;>rfl)):vPt P N all K E (.fin fin) hist env s:=by
 subst hp;exact h
theorem rK {i j:Nat}{R R2:Env->St->Prop}{E:VV->Env->St->Prop}{env1:Env}{s1:St}{o o2:Oper}(h:∀K':Env->St->Prop,@Kof R K'->aw P N all K' E [o] env1 s1)(h2:∀K':Env->St->Prop,@Kof R2 K'->aw P N all K' E [o2] env1 s1)
  (ho:all[i]?=some o:=by(simp only[List.getElem?_cons_zero,List.getElem?_cons_succ]<;>rfl)) (ho2:all[j]?=some o2:=by(simp only[List.getElem?_cons_zero,List.getElem?_cons_succ]<;>rfl)) :
  vEa P N all i R E env1 s1/\vEa P N all j R2 E env1 s1:=⟨⟨o,ho,h⟩,⟨o2,ho2,h2⟩⟩
end
def bC (p:Prop):Prop:=p
theorem aR {P:Program}{N:Nat}{D:List Deferred}{k:List Itm}{Q:Pst}{env:Env}{s:St}(r:Nat){os:Array Oper}{fl:Bool}(h:bC (Kp P N D (.code (.region r os fl)::k) Q .norm env s)):Kp P N D (.code (.region r os fl)::k) Q .norm env s:=h
theorem bE {P:Program}{N:Nat}{D:List Deferred}{k:List Itm}{Q:Pst}{env:Env}{s:St}(h:∀s',s'=s->Kp P N D k Q .norm env s'):Kp P N D k Q .norm env s:=h s rfl
def GhW (w:World):Gh:=⟨fun b i=>w.cell? ⟨b,i,none⟩,fun _=>none⟩
def S0:St:=fun _=>.free
theorem Sim.start (w:World)(hg:GLB w):Sim w (GhW w) w S0:=⟨Below.refl _ _,fun _ _ _ h=>h,fun _ _ h=>(by cases h),fun _=>trivial,hg,fun _ _=>none,fun _ _ _ _ _ h=>(by cases h),fun _ _ _ h=>(by cases h),fun _ _ _ _ _ _ _ h=>(by cases h)⟩
theorem SRet.calls {P:Program}{f:FuncId}{xs:Tb}{vs:Th}{w:World}(h:SRet P f xs S0 (.bool true) S0)(hr:RL (GhW w) vs xs)(hg:GLB w:=by exact trivial) :
  Calls P f vs w fun e w'=>e=.returned (.bool true)/\Below w.heap.size w w':=by
 refine Calls.mono (h w (GhW w) w vs (Sim.start w hg) hr) fun e w' hq=>?_
 obtain⟨G',s',x,hG,hS,hE,hx,_⟩:=hq
 subst hx
 refine⟨?_,hS.below⟩
 cases e with
 |returned v=>
  have hv:R G' v (.bool true):=hE
  cases hv
  rfl
 |_=>exact hE.elim
theorem RL.three {G:Gh}{v u t:Value}{x y z:VV}(h:R G v x)(k:R G u y)(l:R G t z):RL G #[v,u,t] [x,y,z]:=
 ⟨rfl,fun j v' y' hv hy=>by
  match j with
  |0=>simp at hv hy;subst hv;subst hy;exact h
  |1=>simp at hv hy;subst hv;subst hy;exact k
  |2=>simp at hv hy;subst hv;subst hy;exact l
  |j+3=>simp at hy⟩
section
variable {H : Type} {enc : TypeId × Value -> H} {P : Program} {w : World}
def CellsR (G:Gh)(cs:List Value)(xs:Tb):Prop:=cs.length=xs.length/\(∀y,y∈xs->y.one=true)/\∀(j:Nat) (v:Value) (y:VV),cs[j]?=some v->xs[j]?=some y->R G v y
theorem CellsR.one {G:Gh}{v:Value}{y:VV}(h:R G v y)(h1:y.one=true):CellsR G [v] [y]:=
 ⟨rfl,fun z hz=>by rw[a_]at hz;subst hz;exact h1,fun j v' y' hv hy=>by
  cases j with
  |zero=>simp at hv hy;subst hv;subst hy;exact h
  |succ j=>simp at hy⟩
def Wt (P:Program)(t:TypeId)(d:DataW H):Prop:=∀n,n∈d.weights P t->n<=reachBytes
theorem Wt.slice {t e:TypeId}{elems spare:List (DataW H)}(ht:P.underlying t=some (.slice e))(h:Wt P t (.slice elems spare)):elems.length * P.bytesOf e<=reachBytes/\∀d,d∈elems->Wt P e d:=by
 have key:∀(l:List (DataW H)) (d:DataW H),d∈l->∀n,n∈d.weights P e->n∈DataW.weightsAll P e l:=by
  intro l
  induction l with
  |nil=>intro d hd;cases hd
  |cons x l ih=>
   intro d hd n hn
   simp only[DataW.weightsAll,f_]
   rcases AT.1 hd with rfl|hd
   ·exact .inl hn
   ·exact .inr (ih d hd n hn)
 unfold Wt at h
 simp only[DataW.weights,ht]at h
 refine⟨?_,fun d hd n hn=>h n (List.mem_cons_of_mem _ (List.mem_append_left _ (key elems d hd n hn)))⟩
 have:=h _ (List.mem_cons_self ..)
 exact Nat.le_trans (Nat.mul_le_mul_right _ (by omega)) this
theorem Ax {t e:TypeId}{sz:Nat}{fuel:Nat}{cs:List Value}{x:DataW H×List MemPlace}{Q:Tb->Prop}(ht:P.underlying t=some (.slice e))(hsz:P.cellsOf e=sz)(hpos:0<sz)(hby:1<=P.bytesOf e)
  (h:DataW.trod enc P w 0 (fun _=>true) true fuel t cs=some x) (hw:Wt P t x.1)
  (hel:∀(n:Nat) (cs':List Value) (y:DataW H×List MemPlace),n<fuel->DataW.trod enc P w 0 (fun _=>true) true n e cs'=some y->Wt P e y.1->∃xs,CellsR (GhW w) cs' xs/\xs.length=sz/\Q xs) :
  ∃xss:Ta,CellsR (GhW w) cs [.lst xss .no]/\(∀z,z∈xss->Q z)/\xss.length<=reachBytes:=by
 rcases DataW.trod_slice ht h with ⟨rfl,_⟩|⟨a,len,cap,elems,rest,n,hn,rfl,rfl,_,hl,hm,hlen,hel',_,_⟩
 ·exact⟨[],CellsR.one (.emp none 0 .no (.inl rfl)) rfl,(fun z hz=>by cases hz),by simp⟩
 ·obtain⟨hw1,hw2⟩:=hw.slice ht
  have hle:len<=reachBytes:=by
   rw[z_,hlen]at hw1
   exact Nat.le_trans (Nat.le_mul_of_pos_right _ (by omega)) hw1
  have each:∀i,i<len->∃q:List Value×Tb,w.cells? 0 (a.add (i * sz)) sz=some q.1/\CellsR (GhW w) q.1 q.2/\q.2.length=sz/\Q q.2:=fun i hi=>by
   have h1:=hel' i hi
   rw[hsz,m_ (by omega)]at h1
   obtain⟨cs',hc,hy⟩:=Option.bind_eq_some_iff.1 h1
   obtain⟨xs,hx1,hx2,hx3⟩:=hel n cs' _ (by omega) hy (hw2 _ (A_.2 ⟨_,List.getElem_mem _,rfl⟩))
   exact⟨(cs',xs),hc,hx1,hx2,hx3⟩
  obtain⟨F,hF⟩:=Go.Deep.choose_lt each
  rcases Nat.eq_zero_or_pos len with h0|h0
  ·subst h0
   exact⟨[],CellsR.one (.emp _ cap .no (.inl rfl)) rfl,(fun z hz=>by cases hz),by simp⟩
  ·have hspot:a.spot=none:=by
    obtain⟨h1,_⟩:=hF 0 h0
    have h2:=(World.cells?_some h1).2.2 0 (by omega)
    simp only[Nat.zero_mul,Addr.add,if_true]at h2
    have h3:((F 0).1)[0]?=some ((F 0).1)[0]!:=by
     have:0<(F 0).1.length:=by rw[(World.cells?_some h1).2.1];exact hpos
     rw[m_ this];simp[this]
    rw[h3]at h2
    unfold World.cell? at h2
    cases hs:a.spot with
    |none=>rfl
    |some s=>rw[hs]at h2;split at h2<;>simp at h2
   obtain⟨b,off,spot⟩:=a
   simp only at hspot
   subst hspot
   have hadd:∀k,(Addr.mk b off none).add k=⟨b,off+k,none⟩:=fun k=>by
    unfold Addr.add
    split
    ·rename_i hk;subst hk;rfl
    ·rfl
   have hcell:∀i j,i<len->j<sz->w.cell? ⟨b,off+(i * sz+j),none⟩=some (((F i).1)[j]!):=fun i j hi hj=>by
    obtain⟨h1,_⟩:=hF i hi
    have h2:=(World.cells?_some h1).2.2 j hj
    have hlj:j<(F i).1.length:=by rw[(World.cells?_some h1).2.1];exact hj
    rw[hadd]at h2
    have h4:(Addr.mk b (off+i * sz) none).add j=⟨b,off+(i * sz+j),none⟩:=by
     unfold Addr.add
     split
     ·rename_i hk;subst hk;simp
     ·simp[Nat.add_assoc]
    rw[h4,m_ hlj]at h2
    rw[h2];simp[hlj]
   refine⟨(List.range len).map fun i=>(F i).2,CellsR.one (.lst b off len cap sz _ .no (fun i j=>((F i).1)[j]!) (by simp) hl ?_ ?_ (fun i j hi hj=>hcell i j hi hj) ?_ (.inl rfl)) rfl,?_,by simpa using hle⟩
   ·intro x hx
    obtain⟨i,hi,rfl⟩:=A_.1 hx
    exact(hF i (List.mem_range.1 hi)).2.2.1
   ·intro x hx
    obtain⟨i,hi,rfl⟩:=A_.1 hx
    exact(hF i (List.mem_range.1 hi)).2.1.2.1
   ·intro i j x y hx hy
    rw[n_]at hx
    obtain⟨i',hi',rfl⟩:=Option.map_eq_some_iff.1 hx
    have hlt:i<len:=by
     have:=(x_.1 hi').1
     simpa using this
    have:i'=i:=by
     rw[List.getElem?_range hlt]at hi'
     injection hi' with hi';exact hi'.symm
    subst this
    obtain⟨h1,h2,h3,_⟩:=hF i' hlt
    have hj:j<sz:=by rw[<- h3];exact(x_.1 hy).1
    have hlj:j<(F i').1.length:=by rw[(World.cells?_some h1).2.1];exact hj
    exact h2.2.2 j _ y (by rw[m_ hlj];simp[hlj]) hy
   ·intro z hz
    obtain⟨i,hi,rfl⟩:=A_.1 hz
    exact(hF i (List.mem_range.1 hi)).2.2.2
end
theorem CellsR.of {G:Gh}{cs:List Value}{xs:Tb}(hl:cs.length=xs.length)(h:∀(j:Nat) (y:VV),xs[j]?=some y->∃v,cs[j]?=some v/\R G v y/\y.one=true):CellsR G cs xs:=by
 refine⟨hl,fun y hy=>?_,fun j v y hv hy=>?_⟩
 ·obtain⟨j,hj,e⟩:=List.mem_iff_getElem.1 hy
  obtain⟨_,_,_,h1⟩:=h j y (by rw[<- e];exact m_ hj)
  exact h1
 ·obtain⟨v',h1,h2,_⟩:=h j y hy
  rw[h1]at hv;injection hv with hv;subst hv;exact h2
theorem Aw {n:Nat}(h:n<=reachBytes):n<=140737488355328:=Nat.le_trans h (by decide)
theorem xg {α:Type}{C:α->Tb}{Ok:α->Prop}:∀xss:Ta,(∀z,z∈xss->∃s:α,z=C s/\Ok s)->∃l:List α,xss=l.map C/\∀s,s∈l->Ok s
 |[],_=>⟨[],rfl,(fun s hs=>by cases hs)⟩
 |z::r,h=>by
  obtain⟨s,rfl,hs⟩:=h z (by simp)
  obtain⟨l,rfl,hl⟩:=xg r fun y hy=>h y (by simp[hy])
  exact⟨s::l,rfl,fun u hu=>by
   rcases AT.1 hu with rfl|hu
   ·exact hs
   ·exact hl u hu⟩
end Go.Proofs.YtohnaepcgnbaiaaGreatDoor
