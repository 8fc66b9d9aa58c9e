/- Walks of functions that the claim reaches, and plain facts of them. Conditions: those in the statements. -/
import Derived.Test.YtohnaepcgnbaiaaGreatDoorJkErj
set_option linter.unusedSimpArgs false
set_option linter.unusedVariables false
set_option maxRecDepth 100000
namespace Go.Proofs.YtohnaepcgnbaiaaGreatDoor
open Go.RowKit
attribute [-go_sem] bJ cX bH bG aT cU cT
theorem DepF.le {S S':List Nat}{f:(Nat->Bool)->Bool}(h:DepF S f)(hs:∀v,v∈S->v∈S'):DepF S' f:=fun x y e=>h x y fun v hv=>e v (hs v hv)
theorem gk {o:List (List Nat)}{ks ks':List Nat}(h:∀k,k∈ks->k∈ks'):∀v,v∈aj o ks->v∈aj o ks':=fun v hv=>by
 obtain⟨k,hk,e⟩:=List.mem_flatMap.1 hv
 exact List.mem_flatMap.2 ⟨k,h k hk,e⟩
theorem RelR.finG {s u2:St}{K K':OB}{x m m' q c n B N:Nat}{ns ns':List Tr}{ds:List (List UInt8×Nat)}{o:List (List Nat)}{f:(Nat->Bool)->Bool}(h:RelR s K x m q c n B ns ds o N f (u2,K',m',ns')){u':St}(hu:∀z,u2 z≠.free->u' z=u2 z\/((∃xs,u2 z=.obj 30 xs)/\(s z≠.free->kF K x m z))):RelR s K x m q c n B ns ds o N f (u',K',m',ns'):=by
 have hM:RMem u2 K' x m' q c n B ns' ds o:=h.M
 have k:∀z,(kF K' x m' z\/z=q\/z=c)->u' z=u2 z:=fun z hz=>by
  have hl:u2 z≠.free:=by
   rcases hz with e|rfl|rfl
   ·exact hM.live e
   ·rw[hM.C.qo];simp
   ·rw[hM.C.co];simp
  rcases hu z hl with e|⟨⟨xs,e⟩,_⟩
  ·exact e
  ·obtain⟨h1,h2,h3⟩:=hM.rel e
   rcases hz with e|e|e
   ·exact absurd e h1
   ·exact absurd e h2
   ·exact absurd e h3
 refine⟨⟨⟨hM.C.om.keep fun z hz=>k z (.inl (.inl hz)),(k q (.inr (.inl rfl))).trans hM.C.qo,(k c (.inr (.inr rfl))).trans hM.C.co⟩,?_⟩,h.pre,h.mem,h.cnt,⟨h.k.p,h.k.q,h.k.o,h.k.nw,fun z hz hn=>?_⟩⟩
 ·rcases hM.sp with ⟨e,e1⟩|⟨me,e1,e2,e3⟩
  ·exact .inl ⟨e,(k x (.inl (.inr (.inl rfl)))).trans e1⟩
  ·exact .inr ⟨me,(k x (.inl (.inr (.inl rfl)))).trans e1,(k m' (.inl (.inr (.inr rfl)))).trans e2,e3⟩
 ·have e1:u2 z=s z:=h.k.out z hz hn
  rcases hu z (by rw[e1];exact hz)with e|⟨_,e⟩
  ·exact e.trans e1
  ·exact absurd (e hz) hn
theorem Ci {P:Program}{N:Nat}{D:List Deferred}{c:Code}{k:List Itm}{Q:Pst}{env:Env}{s:St}(I:Env->St->Prop)(h1:(∀env s,I env s->Kp P N D k Q .norm env s)->Kp P N D (.code c::k) Q .norm env s)(h2:∀env s,I env s->Kp P N D k Q .norm env s):bC (Kp P N D (.code c::k) Q .norm env s):=h1 h2
theorem tj (D1 D2:List Nat):(D1.map (fun(k:Nat)=>VV.int .i64 (k:Int))++(ak D2).flatten).map (fun y=>[y])=ak (D1++D2):=by
 have e:(ak D2).flatten=D2.map fun(k:Nat)=>VV.int .i64 (k:Int):=by
  induction D2 with
  |nil=>rfl
  |cons d D2 ih=>simp only[ak,List.map_cons,List.flatten_cons]at ih ⊢;rw[ih];rfl
 rw[e]
 simp[ak,Function.comp_def]
theorem frB {a b:St}(h:∀z,a z≠.free->b z=a z){y:Nat}(hy:b y=.free):a y=.free:=by
 by_cases e:a y=.free
 ·exact e
 ·exact absurd ((h y e).symm.trans hy) e
def JB (x b4 b5 b6:Nat)(u1:St)(A1:List (List UInt8))(D1:List Nat)(env:Env)(S:St):Prop:=∃b8 g1 g2,env 0=.ptr x 0/\env 4=.ptr b4 0/\env 5=.ptr b5 0/\env 6=.ptr b6 0/\env 8=.ptr b8 0/\(∀z,u1 z≠.free->S z=u1 z)/\S b8=.obj 30 [.mrw g1 A1.length,.mrw g2 D1.length,.int .i64 0]/\S g1=.row 9 1 (A1.map fun x=>.str x)/\S g2=.row 3 1 (D1.map fun(k:Nat)=>.int .i64 (k:Int))/\u1 b8=.free/\u1 g1=.free/\u1 g2=.free
structure JI (u1 S:St) (b8 bt g1 g2:Nat) (e:List (Int×Bool)) (q:JS):Prop where
 fr:∀z,u1 z≠.free->S z=u1 z
 o8:S b8=.obj 30 [.mrw g1 q.A.length,.mrw g2 q.D.length,.int .i64 0]
 r1:S g1=.row 9 1 (q.A.map fun x=>.str x)
 r2:S g2=.row 3 1 (q.D.map fun(k:Nat)=>.int .i64 (k:Int))
 mt:S bt=.map (mpZ bP e)
 tk:TakenM q.T e
 f:u1 b8=.free/\u1 g1=.free/\u1 g2=.free/\u1 bt=.free
def JT (u1 S:St)(v:VV)(g2:Nat)(t:List Nat):Prop:=(v=.raw (.slice none 0 0)/\t=[])\/∃gt,v=.mrw gt t.length/\S gt=.row 3 1 (t.map fun(k:Nat)=>.int .i64 (k:Int))/\gt≠g2/\u1 gt=.free
theorem JI.keep {u1 S S':St}{b8 bt g1 g2:Nat}{e:List (Int×Bool)}{q:JS}(h:JI u1 S b8 bt g1 g2 e q)(hk:∀z,(u1 z≠.free\/z=b8\/z=bt\/z=g1\/z=g2)->S' z=S z)(t:List Nat):JI u1 S' b8 bt g1 g2 e ⟨q.T,t,q.D,q.A⟩:=
 ⟨fun z hz=>(hk z (.inl hz)).trans (h.fr z hz),(hk b8 (.inr (.inl rfl))).trans h.o8,(hk g1 (.inr (.inr (.inr (.inl rfl))))).trans h.r1,(hk g2 (.inr (.inr (.inr (.inr rfl))))).trans h.r2,(hk bt (.inr (.inr (.inl rfl)))).trans h.mt,h.tk,h.f⟩
theorem JI.ne {u1 S:St}{b8 bt g1 g2:Nat}{e:List (Int×Bool)}{q:JS}(h:JI u1 S b8 bt g1 g2 e q):(¬ b8=bt/\¬ bt=b8)/\(¬ b8=g1/\¬ g1=b8)/\(¬ b8=g2/\¬ g2=b8)/\(¬ bt=g1/\¬ g1=bt)/\(¬ bt=g2/\¬ g2=bt)/\(¬ g1=g2/\¬ g2=g1):=by
 have key:∀(a b:Nat) (c d:Cell),S a=c->S b=d->c≠d->¬ a=b/\¬ b=a:=fun a b c d h1 h2 h3=>⟨fun e=>h3 (by rw[<- h1,<- h2,e]),fun e=>h3 (by rw[<- h1,<- h2,e])⟩
 exact⟨key _ _ _ _ h.o8 h.mt (by simp),key _ _ _ _ h.o8 h.r1 (by simp),key _ _ _ _ h.o8 h.r2 (by simp),key _ _ _ _ h.mt h.r1 (by simp),key _ _ _ _ h.mt h.r2 (by simp),key _ _ _ _ h.r1 h.r2 (by simp)⟩
section
variable {u1 S : St} {b8 bt g1 g2 gt bM : Nat} {e : List (Int × Bool)} {q : JS} {v : VV}
abbrev dv (l:List Nat):List VV:=l.map fun(k:Nat)=>.int .i64 (k:Int)
theorem JI.app0 (J:JI u1 S b8 bt g1 g2 e q)(h0:q.t=[])(hM:S bM=.free)(d:Nat):JI u1 (S.set bM (.row 3 1 [.int .i64 (d:Int)])) b8 bt g1 g2 e ⟨q.T,q.t++[d],q.D,q.A⟩/\JT u1 (S.set bM (.row 3 1 [.int .i64 (d:Int)])) (.mrw bM 1) g2 (q.t++[d]):=by
 have hk:∀z,S z≠.free->(S.set bM (.row 3 1 [.int .i64 (d:Int)])) z=S z:=fun z hz=>j_ _ _ (nef hM hz).1
 refine⟨J.keep (fun z hz=>hk z ?_) _,.inr ⟨bM,by rw[h0];rfl,by rw[h0];exact q_ _ _ _,fun e=>?_,frB J.fr hM⟩⟩
 ·rcases hz with e|rfl|rfl|rfl|rfl
  ·rw[J.fr z e];exact e
  ·rw[J.o8];simp
  ·rw[J.mt];simp
  ·rw[J.r1];simp
  ·rw[J.r2];simp
 ·have:=J.r2;rw[<- e,hM]at this;cases this
theorem JI.appT (J:JI u1 S b8 bt g1 g2 e q)(rt:S gt=.row 3 1 (dv q.t))(ngt:gt≠g2)(fgt:u1 gt=.free)(hM:(S.set gt .free) bM=.free)(d:Nat):JI u1 ((S.set gt .free).set bM (.row 3 1 (dv q.t++[.int .i64 (d:Int)]))) b8 bt g1 g2 e ⟨q.T,q.t++[d],q.D,q.A⟩/\JT u1 ((S.set gt .free).set bM (.row 3 1 (dv q.t++[.int .i64 (d:Int)]))) (.mrw bM (q.t.length+1)) g2 (q.t++[d]):=by
 have hbM:∀z,S z≠.free->¬ z=gt->¬ z=bM:=fun z hz hn e=>by subst e;rw[j_ _ _ hn]at hM;exact hz hM
 have hk:∀z,S z≠.free->¬ z=gt->((S.set gt .free).set bM (.row 3 1 (dv q.t++[.int .i64 (d:Int)]))) z=S z:=fun z hz hn=>by rw[j_ _ _ (hbM z hz hn),j_ _ _ hn]
 have hg2:S g2≠.free:=by rw[J.r2];simp
 refine⟨J.keep (fun z hz=>?_) _,.inr ⟨bM,by simp,by rw[q_];simp,fun e=>hbM g2 hg2 (fun e=>ngt e.symm) e.symm,?_⟩⟩
 ·rcases hz with e|rfl|rfl|rfl|rfl
  ·exact hk z (by rw[J.fr z e];exact e) fun e2=>e (by rw[e2];exact fgt)
  ·exact hk _ (by rw[J.o8];simp) fun e2=>by have:=J.o8;rw[e2,rt]at this;cases this
  ·exact hk _ (by rw[J.mt];simp) fun e2=>by have:=J.mt;rw[e2,rt]at this;cases this
  ·exact hk _ (by rw[J.r1];simp) fun e2=>by have:=J.r1;rw[e2,rt]at this;cases this
  ·exact hk _ hg2 fun e2=>ngt e2.symm
 ·by_cases e:u1 bM=.free
  ·exact e
  ·have h1:=J.fr bM e
   exact absurd rfl (hbM bM (by rw[h1];exact e) fun e2=>e (by rw[e2];exact fgt))
theorem JI.appA (J:JI u1 S b8 bt g1 g2 e q)(T:JT u1 S v g2 q.t)(hM:(S.set g1 .free) bM=.free)(a:List UInt8) :
  JI u1 (((S.set g1 .free).set bM (.row 9 1 ((q.A.map fun x=>.str x)++[.str a]))).set b8 (.obj 30 [.mrw bM (q.A.length+1),.mrw g2 q.D.length,.int .i64 0])) b8 bt bM g2 e ⟨q.T,q.t,q.D,q.A++[a]⟩/\JT u1 (((S.set g1 .free).set bM (.row 9 1 ((q.A.map fun x=>.str x)++[.str a]))).set b8 (.obj 30 [.mrw bM (q.A.length+1),.mrw g2 q.D.length,.int .i64 0])) v g2 q.t:=by
 have hbM:∀z,S z≠.free->¬ z=g1->¬ z=bM:=fun z hz hn e=>by subst e;rw[j_ _ _ hn]at hM;exact hz hM
 obtain⟨n1,n2,n3,n4,n5,n6⟩:=J.ne
 have h8:¬ b8=bM:=hbM b8 (by rw[J.o8];simp) n2.1
 have hk:∀z,S z≠.free->¬ z=g1->¬ z=b8->(((S.set g1 .free).set bM (.row 9 1 ((q.A.map fun x=>.str x)++[.str a]))).set b8 (.obj 30 [.mrw bM (q.A.length+1),.mrw g2 q.D.length,.int .i64 0])) z=S z:=fun z hz hn h8=>by rw[j_ _ _ h8,j_ _ _ (hbM z hz hn),j_ _ _ hn]
 refine⟨⟨fun z hz=>?_,?_,?_,(hk g2 (by rw[J.r2];simp) n6.2 n3.2).trans J.r2,(hk bt (by rw[J.mt];simp) n4.1 n1.2).trans J.mt,J.tk,J.f.1,?_,J.f.2.2.1,J.f.2.2.2⟩,?_⟩
 ·exact(hk z (by rw[J.fr z hz];exact hz) (fun e=>hz (by rw[e];exact J.f.2.1)) fun e=>hz (by rw[e];exact J.f.1)).trans (J.fr z hz)
 ·rw[q_];simp
 ·rw[j_ _ _ (fun e=>h8 e.symm),q_];simp
 ·by_cases e:u1 bM=.free
  ·exact e
  ·have h1:=J.fr bM e
   exact absurd rfl (hbM bM (by rw[h1];exact e) fun e2=>e (by rw[e2];exact J.f.2.1))
 ·rcases T with ⟨h1,h2⟩|⟨gt,h1,h2,h3,h4⟩
  ·exact .inl ⟨h1,h2⟩
  ·exact .inr ⟨gt,h1,(hk gt (by rw[h2];simp) (fun e=>by have:=J.r1;rw[<- e,h2]at this;cases this) fun e=>by have:=J.o8;rw[<- e,h2]at this;cases this).trans h2,h3,h4⟩
theorem JI.appD (J:JI u1 S b8 bt g1 g2 e q)(T:JT u1 S v g2 q.t)(hM:(S.set g2 .free) bM=.free)(d:Nat) :
  JI u1 (((S.set g2 .free).set bM (.row 3 1 (dv q.D++[.int .i64 (d:Int)]))).set b8 (.obj 30 [.mrw g1 q.A.length,.mrw bM (q.D.length+1),.int .i64 0])) b8 bt g1 bM e ⟨q.T,q.t,q.D++[d],q.A⟩/\JT u1 (((S.set g2 .free).set bM (.row 3 1 (dv q.D++[.int .i64 (d:Int)]))).set b8 (.obj 30 [.mrw g1 q.A.length,.mrw bM (q.D.length+1),.int .i64 0])) v bM q.t:=by
 have hbM:∀z,S z≠.free->¬ z=g2->¬ z=bM:=fun z hz hn e=>by subst e;rw[j_ _ _ hn]at hM;exact hz hM
 obtain⟨n1,n2,n3,n4,n5,n6⟩:=J.ne
 have h8:¬ b8=bM:=hbM b8 (by rw[J.o8];simp) n3.1
 have hk:∀z,S z≠.free->¬ z=g2->¬ z=b8->(((S.set g2 .free).set bM (.row 3 1 (dv q.D++[.int .i64 (d:Int)]))).set b8 (.obj 30 [.mrw g1 q.A.length,.mrw bM (q.D.length+1),.int .i64 0])) z=S z:=fun z hz hn h8=>by rw[j_ _ _ h8,j_ _ _ (hbM z hz hn),j_ _ _ hn]
 refine⟨⟨fun z hz=>?_,?_,(hk g1 (by rw[J.r1];simp) n6.1 n2.2).trans J.r1,?_,(hk bt (by rw[J.mt];simp) n5.1 n1.2).trans J.mt,J.tk,J.f.1,J.f.2.1,?_,J.f.2.2.2⟩,?_⟩
 ·exact(hk z (by rw[J.fr z hz];exact hz) (fun e=>hz (by rw[e];exact J.f.2.2.1)) fun e=>hz (by rw[e];exact J.f.1)).trans (J.fr z hz)
 ·rw[q_];simp
 ·rw[j_ _ _ (fun e=>h8 e.symm),q_];simp
 ·by_cases e:u1 bM=.free
  ·exact e
  ·have h1:=J.fr bM e
   exact absurd rfl (hbM bM (by rw[h1];exact e) fun e2=>e (by rw[e2];exact J.f.2.2.1))
 ·rcases T with ⟨h1,h2⟩|⟨gt,h1,h2,h3,h4⟩
  ·exact .inl ⟨h1,h2⟩
  ·have hgt:S gt≠.free:=by rw[h2];simp
   exact .inr ⟨gt,h1,(hk gt hgt h3 fun e=>by have:=J.o8;rw[<- e,h2]at this;cases this).trans h2,hbM gt hgt h3,h4⟩
end
theorem JI.tak {u1 S:St}{b8 bt g1 g2:Nat}{e:List (Int×Bool)}{q:JS}{v:VV}(J:JI u1 S b8 bt g1 g2 e q)(T:JT u1 S v g2 q.t)(k:Nat):JI u1 (S.set bt (.map (mpZ bP (ptZ (k:Int) true e)))) b8 bt g1 g2 (ptZ (k:Int) true e) ⟨q.T++[k],q.t,q.D,q.A⟩/\JT u1 (S.set bt (.map (mpZ bP (ptZ (k:Int) true e)))) v g2 q.t:=by
 obtain⟨n1,n2,n3,n4,n5,n6⟩:=J.ne
 have hk:∀z,¬ z=bt->(S.set bt (.map (mpZ bP (ptZ (k:Int) true e)))) z=S z:=fun z hz=>j_ _ _ hz
 refine⟨⟨fun z hz=>(hk z fun e=>hz (by rw[e];exact J.f.2.2.2)).trans (J.fr z hz),(hk _ n1.1).trans J.o8,(hk _ n4.2).trans J.r1,(hk _ n5.2).trans J.r2,q_ _ _ _,J.tk.add k,J.f⟩,?_⟩
 rcases T with ⟨h1,h2⟩|⟨gt,h1,h2,h3,h4⟩
 ·exact .inl ⟨h1,h2⟩
 ·exact .inr ⟨gt,h1,(hk _ fun e=>by have:=J.mt;rw[<- e,h2]at this;cases this).trans h2,h3,h4⟩
set_option maxHeartbeats 16000000 in
theorem Fp {s:St}{KK:OB}{x m q c n B N:Nat}{ns:List Tr}{ds:List (List UInt8×Nat)}{o:List (List Nat)}(hn64:n<=64)(hM:RMem s KK x m q c n B ns ds o)(hD:DOk n ds o)(hd8:ds.length<=1000){ff fh:(Nat->Bool)->Bool}(A1:List (List UInt8))(o1:Own)(D1:List Nat)(o2:Own)(hR1:Rel4 ds o A1 D1)(hne:A1≠[])(hf:DepF (aj o D1) ff)(mf:treeT n ff∈ns)
  (A2:List (List UInt8)) (o3:Own) (D2:List Nat) (o4:Own) (hR2:Rel4 ds o A2 D2) (hne2:A2≠[]) (hh:DepF (aj o D2) fh) (mh:treeT n fh∈ns) {jq:JS} (hj:lS ds A1 D1 (A2.zip D2) ⟨D1++D2,[],D1,A1⟩=some jq) (hQ:Rel4 ds o jq.A jq.D) (ht:Dom4 ds o jq.t) (htn:jq.t.Nodup) (htl:jq.t.length=D2.length) (hs1:∀k,k∈D1->k∈jq.D) (hs2:∀k,k∈jq.t->k∈jq.D)
  (hc:CntN ns N) (hB:N+((aj o D2).length+2) * 2 ^ (aj o D2).length+2 ^ (aj o jq.D).length<=B) :
  SCalls Tryz.prog 13 [.ptr x 0,.agg [.lst (az A1) o1,.lst (ak D1) o2,.int .i64 (ixF n ns ff:Nat)],.agg [.lst (az A2) o3,.lst (ak D2) o4,.int .i64 (ixF n ns fh:Nat)]] s fun w u=>∃a:gI,w=.ret (.tup [.agg [.lst (az jq.A) .no,.lst (ak jq.D) .no,.int .i64 (ixF n a.2.2.2 (fun y=>ff y && rnF (aX (aj o D2) (aj o jq.t)) fh y):Nat)],.int .i64 0])/\u=a.1/\RelR s KK x m q c n B ns ds o (N+((aj o D2).length+2) * 2 ^ (aj o D2).length+2 ^ (aj o jq.D).length) (fun y=>ff y && rnF (aX (aj o D2) (aj o jq.t)) fh y) a:=by
 have hl8:=hR1.l8
 have hl82:=hR2.l8
 have hA18:=hR1.nm.2.2
 have hDne:D1≠[]:=fun e=>hne (by have:=hR1.ln;rw[e]at this;simpa using this)
 have wm:=fun(u:St) (hu:∀z,s z≠.free->u z=s z)=>po hn64 (hM.more hu) hD [[.lst (az A1) o1,.lst (ak D1) o2,.int .i64 ((ixF n ns ff:Nat):Int)],[.lst (az A2) o3,.lst (ak D2) o4,.int .i64 ((ixF n ns fh:Nat):Int)]] .full (fun z hz=>by
  simp only[AT,List.not_mem_nil,or_false]at hz
  rcases hz with hz|hz
  ·exact⟨⟨A1,D1,treeT n ff⟩,o1,o2,hz,hR1.ok hD hf mf⟩
  ·exact⟨⟨A2,D2,treeT n fh⟩,o3,o4,hz,hR2.ok hD hh mh⟩) (by simp)
 have wix:=fun(u:St) (a:List UInt8)=>xW A1 o1 a (by have:=hR1.nm.2.2;omega) u
 have wct:=fun(u:St) (d:Nat)=>rR D1 o2 d (by omega) u
 have wcs:=fun u=>zm u A1 o1 hne (by have:=hR1.nm.2.2;omega)
 have wcm:=fun u=>lF u D1 o2 hDne (by omega)
 have WM:=o_ wm
 have WIX:=o_ wix
 have WCT:=o_ wct
 have WCS:=o_ wcs
 have WCM:=o_ wcm
 have HM:=o_ hM
 have HMF:=o_ mf
 have HMH:=o_ mh
 have HC:=o_ hc
 have HJ:=o_ hj
 have HR:=o_ (And.intro hR1 hR2)
 have HQ:=o_ hQ
 have HT:=o_ (And.intro ht (And.intro htn htl))
 have HS:=o_ (And.intro hs1 hs2)
 have HB:=o_ hB
 have HF:=o_ (And.intro hf hh)
 have HDD:=o_ hD
 have hsz:=fun d (hd:d∈D1\/d∈D2)=>show (szC ds)[d]?=some [.int .i64 4] from by
  have h4:∃nm,ds[d]?=some (nm,4):=hd.elim (fun e=>(hR1.d4 d e).1) (fun e=>(hR2.d4 d e).1)
  obtain⟨nm,e⟩:=h4
  exact kT e
 have HSZ4:=o_ hsz
 have hA2l:=dj A2
 have hD1l:=natsL_len (ks:=D1)
 have hD2l:=natsL_len (ks:=D2)
 have hln2:=hR2.ln
 have HSA2:=o_ (fun(i:Nat) (a:List UInt8) (e:A2[i]?=some a)=>iD e)
 have HSD1:=o_ (fun(i:Nat) (d:Nat) (e:D1[i]?=some d)=>aH e)
 have HSD2:=o_ (fun(i:Nat) (d:Nat) (e:D2[i]?=some d)=>aH e)
 clear wm wix wct wcs wcm hM mf mh hc hj hR1 hR2 hQ ht htn htl hs1 hs2 hB hf hh hD hsz
 generalize hkf:ixF n ns ff=kf at *
 have HKF:=o_ hkf
 clear hkf
 generalize hkh:ixF n ns fh=kh at *
 have HKH:=o_ hkh
 clear hkh
 generalize az A1=SA1 at *
 generalize az A2=SA2 at *
 generalize hV1:ak D1=V1 at *
 have HV1:=o_ hV1
 clear hV1
 generalize hV2:ak D2=V2 at *
 have HV2:=o_ hV2
 clear hV2
 generalize hSZE:szC ds=SZ at *
 have HSZE:=o_ hSZE
 clear hSZE
 refine am Tryz.func13 rfl Tryz.ntmps13 rfl fun Q hQ hQe=>?_
 (repeat'(first|refine Ctl ?_|((with_reducible refine k_ hK ?_);clear hK hE K E)|((first|(with_reducible refine ab fun K E hK hE=>?_)|((with_reducible refine au (fun b hb=>?_));(repeat(obtain⟨_,hb⟩:=hb))))<;>(try simp(disch:=omega) only[go_sem,seval, *]))))
 rename_i b4 hb4 b5 n1 n2 hb5 n3 n4 n5 n6
 obtain⟨b6,hb6e⟩:∃z,z=b:=⟨_,rfl⟩
 subst hb6e
 have hb6:s b6=.free:=hb
 obtain⟨u0,hu0⟩:∃u,u=((s.set b4 (.obj 30 [.lst SA1 o1,.lst V1 o2,.int .i64 (kf:Int)])).set b5 (.obj 30 [.lst SA2 o3,.lst V2 o4,.int .i64 (kh:Int)])).set b6 (.obj 30 [.lst [] .full,.lst [] .full,.int .i64 0]):=⟨_,rfl⟩
 rw[<- hu0]
 have g0:∀z,s z≠.free->u0 z=s z:=fun z hz=>by rw[hu0,j_ _ _ (nef hb6 hz).1,j_ _ _ (nef hb5 hz).1,j_ _ _ (nef hb4 hz).1]
 have k4:u0 b4=.obj 30 [.lst SA1 o1,.lst V1 o2,.int .i64 (kf:Int)]:=by rw[hu0,j_ _ _ (by assumption),j_ _ _ (by assumption),q_]
 have k5:u0 b5=.obj 30 [.lst SA2 o3,.lst V2 o4,.int .i64 (kh:Int)]:=by rw[hu0,j_ _ _ (by assumption),q_]
 have k6:u0 b6=.obj 30 [.lst [] .full,.lst [] .full,.int .i64 0]:=by rw[hu0,q_]
 have wm:=WM.out u0 g0
 have G0:=o_ (And.intro g0 hb6)
 clear hu0 hb g0 WM hb4 hb5 hb6 n1 n2 n3 n4 n5 n6
 refine ao oY wm (fun a h=>?_)
 obtain⟨u1,m1⟩:=a
 obtain⟨M1,K1⟩:=h
 dsimp only at M1 K1 ⊢
 have R1:=RelR.win M1 K1 HMF.out HC.out
 have j4:=R1.own (HM.out.more G0.out.1) k4 (by decide) (by decide) (by decide) (by decide)
 have j5:=R1.own (HM.out.more G0.out.1) k5 (by decide) (by decide) (by decide) (by decide)
 have j6:=R1.own (HM.out.more G0.out.1) k6 (by decide) (by decide) (by decide) (by decide)
 have R2:RelR s KK x m q c n B ns ds o N ff (u1,KK,m1,ns):=(RelR.win (HM.out.more G0.out.1) (.new G0.out.1) HMF.out HC.out).then R1
 dsimp only at j4 j5 j6
 obtain⟨a1,hx⟩:=M1.xf
 unfold spC at hx
 rw[HSZE.out]at hx
 have HR2:=o_ R2
 have HM1:=o_ M1
 have hl4:u1 b4≠.free:=by rw[j4];simp
 have hl5:u1 b5≠.free:=by rw[j5];simp
 have hl6:u1 b6≠.free:=by rw[j6];simp
 clear wm M1 K1 R1 R2 k4 k5 k6
 simp only[go_sem,seval]
 (repeat'(first|(with_reducible refine aR 3 ?_)|refine Ctl ?_|((with_reducible refine k_ hK ?_);clear hK hE K E)|((with_reducible refine ah (fun h=>?_) (fun h=>?_))<;>(try(exfalso;assumption)))))
 refine Ci (JB x b4 b5 b6 u1 A1 D1) (fun KEY=>?_) ?_
 ·(repeat'(first|(with_reducible first|(refine k_ hKh ?_;clear hKh Kh)|(refine k_ hKb (aC ?_);clear hKb Kb)|refine rQ 3 (.two [0,1,3,4] 2 [[3,4]] (.two [] 5 [[],[]] (.one [6] 7 [[6],[],[]] (.one [] 8 [[],[],[],[]] (.fin []))) 7 [[],[3,4]] (.one [] 5 [[],[],[]] (.one [6] 8 [[],[],[],[]] (.fin [])))) 7 [[0,1,3,4]] (.one [] 2 [[],[3,4]] (.one [] 5 [[],[],[]] (.one [6] 8 [[],[],[],[]] (.fin []))))) hQe fun K E hK hE=>?_)|((first|(with_reducible first|refine aB fun Kb hKb=>?_|refine dA fun Kh hKh=>?_|refine xP fun Kh hKh=>?_|refine rK (fun Kb hKb=>?_) (fun Kb hKb=>?_))|((with_reducible refine au (fun b hb=>?_));(try(obtain⟨_,_⟩:=nef hb hl4;obtain⟨_,_⟩:=nef hb hl5;obtain⟨_,_⟩:=nef hb hl6))))<;>(try simp(disch:=omega) only[go_sem,seval, *]))))
  ·refine ao lV (WCS.out _) (fun a h=>?_)
   obtain⟨u2,g1⟩:=a
   obtain⟨hgf,hu2⟩:=h
   dsimp only at hgf hu2 ⊢
   have f2:∀z,u1 z≠.free->u2 z=u1 z:=fun z hz=>by rw[hu2,j_ _ _ (nef hgf hz).1]
   have p4:=(f2 b4 hl4).trans j4
   have hp4:u2 b4≠.free:=by rw[p4];simp
   have hp5:u2 b5≠.free:=by rw[f2 b5 hl5,j5];simp
   have hp6:u2 b6≠.free:=by rw[f2 b6 hl6,j6];simp
   have pg:u2 g1=.row 9 1 (A1.map fun x=>.str x):=by rw[hu2,q_]
   have hpg:u2 g1≠.free:=by rw[pg];simp
   have HF2:=o_ (And.intro f2 hgf)
   clear hu2 f2 hgf
   simp only[go_sem,seval]
   (repeat'(first|(with_reducible first|(refine k_ hKh ?_;clear hKh Kh)|(refine k_ hKb (aC ?_);clear hKb Kb))|((first|(with_reducible first|refine aB fun Kb hKb=>?_|refine dA fun Kh hKh=>?_|refine xP fun Kh hKh=>?_|refine rK (fun Kb hKb=>?_) (fun Kb hKb=>?_))|((with_reducible refine au (fun b hb=>?_));(try(obtain⟨_,_⟩:=nef hb hp4;obtain⟨_,_⟩:=nef hb hp5;obtain⟨_,_⟩:=nef hb hp6;obtain⟨_,_⟩:=nef hb hpg))))<;>(try simp(disch:=omega) only[go_sem,seval, *]))))
   ·refine ao ft (WCM.out _) (fun a h=>?_)
    obtain⟨u3,g2⟩:=a
    obtain⟨hgf2,hu3⟩:=h
    dsimp only at hgf2 hu3 ⊢
    have f3:∀z,u2 z≠.free->u3 z=u2 z:=fun z hz=>by rw[hu3,j_ _ _ (nef hgf2 hz).1]
    have pg2:u3 g2=.row 3 1 (D1.map fun(k:Nat)=>.int .i64 (k:Int)):=by rw[hu3,q_]
    have pg1:=(f3 g1 hpg).trans pg
    have HF3:=o_ (And.intro f3 hgf2)
    clear hu3 f3 hgf2
    simp only[go_sem,seval]
    (repeat'(first|(with_reducible first|refine KEY _ _ ?_|(refine k_ hK ?_;clear hK hE K E)|(refine k_ hKh ?_;clear hKh Kh)|(refine k_ hKb (aC ?_);clear hKb Kb))|((first|(with_reducible first|refine aB fun Kb hKb=>?_|refine dA fun Kh hKh=>?_|refine ph fun Kh hKh=>?_)|((with_reducible refine au (fun b hb=>?_))))<;>(try simp(disch:=omega) only[go_sem,seval, *]))))
    have hbf:u3 b=.free:=hb
    all_goals refine⟨b,g1,g2,ac,ac,ac,ac,ac,fun z hz=>?_,q_ _ _ _,?_,?_,?_,HF2.out.2,?_⟩
    ·have e2:=HF2.out.1 z hz
     have e3:=HF3.out.1 z (by rw[e2];exact hz)
     rw[j_ _ _ (nef hbf (by rw[e3,e2];exact hz)).1,e3,e2]
    ·rw[j_ _ _ (nef hbf (by rw[pg1];simp)).1,pg1]
    ·rw[j_ _ _ (nef hbf (by rw[pg2];simp)).1,pg2]
    ·exact frB (fun z hz=>(HF3.out.1 z (by rw[HF2.out.1 z hz];exact hz)).trans (HF2.out.1 z hz)) hbf
    ·exact frB HF2.out.1 HF3.out.2
   ·have hbf:u2 b=.free:=hb
    refine ao ft (WCM.out _) (fun a h=>?_)
    obtain⟨u3,g2⟩:=a
    obtain⟨hgf2,hu3⟩:=h
    dsimp only at hgf2 hu3 ⊢
    have hgb:¬ g2=b:=fun e=>by rw[e,q_]at hgf2;cases hgf2
    have hgf3:u2 g2=.free:=by rw[j_ _ _ hgb]at hgf2;exact hgf2
    have f3:∀z,u2 z≠.free->u3 z=u2 z:=fun z hz=>by rw[hu3,j_ _ _ (nef hgf3 hz).1,j_ _ _ (nef hbf hz).1]
    have pb:u3 b=.obj 30 [.lst [] .full,.lst [] .full,.int .i64 0]:=by rw[hu3,j_ _ _ (fun e=>hgb e.symm),q_]
    have pg2:u3 g2=.row 3 1 (D1.map fun(k:Nat)=>.int .i64 (k:Int)):=by rw[hu3,q_]
    have pg1:=(f3 g1 hpg).trans pg
    have HF3:=o_ (And.intro f3 hgf3)
    clear hu3 f3 hgf2 hgf3 hb
    simp only[go_sem,seval,pb]
    (repeat'(first|(with_reducible first|refine KEY _ _ ?_|(refine k_ hK ?_;clear hK hE K E)|(refine k_ hKh ?_;clear hKh Kh)|(refine k_ hKb (aC ?_);clear hKb Kb))|(((with_reducible first|refine aB fun Kb hKb=>?_|refine dA fun Kh hKh=>?_|refine ph fun Kh hKh=>?_))<;>(try simp(disch:=omega) only[go_sem,seval, *]))))
    all_goals refine⟨b,g1,g2,ac,ac,ac,ac,ac,fun z hz=>?_,q_ _ _ _,?_,?_,?_,HF2.out.2,?_⟩
    ·have e2:=HF2.out.1 z hz
     have e3:=HF3.out.1 z (by rw[e2];exact hz)
     rw[j_ _ _ (nef hbf (by rw[e2];exact hz)).1,e3,e2]
    ·rw[j_ _ _ (nef hbf hpg).1,pg1]
    ·rw[j_ _ _ hgb,pg2]
    ·exact frB HF2.out.1 hbf
    ·exact frB HF2.out.1 HF3.out.2
  ·have hbf:u1 b=.free:=hb
   refine ao lV (WCS.out _) (fun a h=>?_)
   obtain⟨u2,g1⟩:=a
   obtain⟨hgf,hu2⟩:=h
   dsimp only at hgf hu2 ⊢
   have hgb:¬ g1=b:=fun e=>by rw[e,q_]at hgf;cases hgf
   have hgf2:u1 g1=.free:=by rw[j_ _ _ hgb]at hgf;exact hgf
   have f2:∀z,u1 z≠.free->u2 z=u1 z:=fun z hz=>by rw[hu2,j_ _ _ (nef hgf2 hz).1,j_ _ _ (nef hbf hz).1]
   have pb2:u2 b=.obj 30 [.lst [] .full,.lst [] .full,.int .i64 0]:=by rw[hu2,j_ _ _ (fun e=>hgb e.symm),q_]
   have p4:=(f2 b4 hl4).trans j4
   have pg:u2 g1=.row 9 1 (A1.map fun x=>.str x):=by rw[hu2,q_]
   have HF2:=o_ (And.intro f2 hgf2)
   clear hu2 f2 hgf hgf2 hb
   simp only[go_sem,seval]
   (repeat'(first|(with_reducible first|(refine k_ hKh ?_;clear hKh Kh)|(refine k_ hKb (aC ?_);clear hKb Kb))|(((with_reducible first|refine aB fun Kb hKb=>?_|refine dA fun Kh hKh=>?_))<;>(try simp(disch:=assumption) only[go_sem,seval, *]))))
   refine ao ft (WCM.out _) (fun a h=>?_)
   obtain⟨u3,g2⟩:=a
   obtain⟨hgf2,hu3⟩:=h
   dsimp only at hgf2 hu3 ⊢
   have f3:∀z,u2 z≠.free->u3 z=u2 z:=fun z hz=>by rw[hu3,j_ _ _ (nef hgf2 hz).1]
   have pb:=(f3 b (by rw[pb2];simp)).trans pb2
   have pg2:u3 g2=.row 3 1 (D1.map fun(k:Nat)=>.int .i64 (k:Int)):=by rw[hu3,q_]
   have pg1:=(f3 g1 (by rw[pg];simp)).trans pg
   have HF3:=o_ (And.intro f3 hgf2)
   have hg2b:¬ g2=b:=fun e=>by rw[e,pb]at pg2;cases pg2
   clear hu3 f3 hgf2
   simp only[go_sem,seval,pb]
   (repeat'(first|(with_reducible first|refine KEY _ _ ?_|(refine k_ hK ?_;clear hK hE K E)|(refine k_ hKh ?_;clear hKh Kh)|(refine k_ hKb (aC ?_);clear hKb Kb))|(((with_reducible first|refine aB fun Kb hKb=>?_|refine dA fun Kh hKh=>?_|refine ph fun Kh hKh=>?_))<;>(try simp(disch:=omega) only[go_sem,seval, *]))))
   all_goals refine⟨b,g1,g2,ac,ac,ac,ac,ac,fun z hz=>?_,q_ _ _ _,?_,?_,hbf,HF2.out.2,?_⟩
   ·have e2:=HF2.out.1 z hz
    have e3:=HF3.out.1 z (by rw[e2];exact hz)
    rw[j_ _ _ (nef hbf hz).1,e3,e2]
   ·rw[j_ _ _ hgb,pg1]
   ·rw[j_ _ _ hg2b,pg2]
   ·exact frB HF2.out.1 HF3.out.2
 rintro env S ⟨b8,g1,g2,e0,e4,e5,e6,e8,fS,o8,r1,r2,f8,fg1,fg2⟩
 have p4:=(fS b4 hl4).trans j4
 have p5:=(fS b5 hl5).trans j5
 have h4:S b4≠.free:=by rw[p4];simp
 have h5:S b5≠.free:=by rw[p5];simp
 have h6:S b6≠.free:=by rw[fS b6 hl6,j6];simp
 have h8:S b8≠.free:=by rw[o8];simp
 have hg1:S g1≠.free:=by rw[r1];simp
 have hg2:S g2≠.free:=by rw[r2];simp
 have HF1:=o_ (And.intro fS (And.intro f8 (And.intro fg1 fg2)))
 clear fS f8 fg1 fg2
 (repeat'(first|refine Ctl ?_|(with_reducible first|(refine k_ hK ?_;clear hK hE K E)|(refine k_ hKh ?_;clear hKh Kh)|refine ax 5 [([0,1,3,4,7],2,[[3,4,7]]),([],5,[[],[7]])] [6] hQe fun K E hK hE=>?_)|((first|(with_reducible first|refine ab fun K E hK hE=>?_|refine ay fun Kh hKh=>?_|refine aB fun Kb hKb=>?_)|((with_reducible refine au (fun b hb=>?_));(try(obtain⟨_,_⟩:=nef hb h4;obtain⟨_,_⟩:=nef hb h5;obtain⟨_,_⟩:=nef hb h6;obtain⟨_,_⟩:=nef hb h8;obtain⟨_,_⟩:=nef hb hg1;obtain⟨_,_⟩:=nef hb hg2))))<;>(try simp(disch:=omega) only[go_sem,seval, *]))))
 obtain⟨bt,hbte⟩:∃z,z=b:=⟨_,rfl⟩
 subst hbte
 have hbt:S bt=.free:=hb
 obtain⟨S1,hS1⟩:∃u,u=S.set bt (.map []):=⟨_,rfl⟩
 rw[<- hS1]
 have g1S:∀z,S z≠.free->S1 z=S z:=fun z hz=>by rw[hS1,j_ _ _ (nef hbt hz).1]
 have mt:S1 bt=.map (mpZ bP []):=by rw[hS1,q_];rfl
 have J0:JI u1 S1 b8 bt g1 g2 [] ⟨[],[],D1,A1⟩:=⟨fun z hz=>(g1S z (by rw[HF1.out.1 z hz];exact hz)).trans (HF1.out.1 z hz),(g1S b8 h8).trans o8,(g1S g1 hg1).trans r1,(g1S g2 hg2).trans r2,mt,TakenM.nil,HF1.out.2.1,HF1.out.2.2.1,HF1.out.2.2.2,frB HF1.out.1 hbt⟩
 have p4:=(g1S b4 h4).trans p4
 have p5:=(g1S b5 h5).trans p5
 have HJ0:=o_ J0
 have h4:S1 b4≠.free:=by rw[p4];simp
 have h5:S1 b5≠.free:=by rw[p5];simp
 have hbt1:S1 bt≠.free:=by rw[mt];simp
 clear hS1 g1S mt J0 hb hbt HF1 o8 r1 r2
 refine ao ft (WCM.out _) (fun a h=>?_)
 obtain⟨u3,g3⟩:=a
 obtain⟨hgf3,hu3⟩:=h
 dsimp only at hgf3 hu3 ⊢
 have f3:∀z,S1 z≠.free->u3 z=S1 z:=fun z hz=>by rw[hu3,j_ _ _ (nef hgf3 hz).1]
 have pg3:u3 g3=.row 3 1 (D1.map fun(k:Nat)=>.int .i64 (k:Int)):=by rw[hu3,q_]
 have q5:=(f3 b5 h5).trans p5
 have h5g:¬ b5=g3:=fun e=>by rw[e,pg3]at q5;cases q5
 have hDl:(D1.map fun(k:Nat)=>VV.int .i64 (k:Int)).length=D1.length:=z_ _
 have hVy:∀y,y∈V2->y.length=1:=fun y hy=>by
  rw[<- HV2.out]at hy
  obtain⟨k,_,rfl⟩:=A_.1 hy
  rfl
 have HF3:=o_ (And.intro f3 hgf3)
 clear hu3 f3 hgf3
 simp only[go_sem,seval]
 (repeat'(first|refine Ctl ?_|(with_reducible first|(refine k_ hK ?_;clear hK hE K E)|(refine k_ hKh ?_;clear hKh Kh)|(refine k_ hKb (aC ?_);clear hKb Kb))|((first|(with_reducible first|refine ay fun Kh hKh=>?_|refine aG fun Kh hKh=>?_|refine aB fun Kb hKb=>?_)|((with_reducible refine cJ (fun bM hM=>?_))))<;>(try simp(disch:=omega) only[go_sem,seval,hDl,hD2l, *]))))
 have hapl:(D1.map (fun(k:Nat)=>VV.int .i64 (k:Int))++V2.flatten).length=D1.length+D2.length:=by
  have e:=congrArg List.length (tj D1 D2)
  rw[HV2.out]at e
  exact(z_ _).symm.trans (e.trans (natsL_len.trans p_))
 refine kK 41 bM (D1.length+D2.length) (q_ _ _ _) (ac) hapl ?_
 have hap:=tj D1 D2
 rw[HV2.out]at hap
 rw[hap]
 obtain⟨S2,hS2⟩:∃u,u=((u3.set g3 .free).set bM (.row 3 1 (D1.map (fun(k:Nat)=>VV.int .i64 (k:Int))++V2.flatten))).set bM .free:=⟨_,rfl⟩
 rw[<- hS2]
 have f2:∀z,S1 z≠.free->S2 z=S1 z:=fun z hz=>by
  have e3:=HF3.out.1 z hz
  have n1:=(nef HF3.out.2 hz).1
  have n2:¬ z=bM:=fun e=>by subst e;rw[j_ _ _ n1,e3]at hM;exact hz hM
  rw[hS2,j_ _ _ n2,j_ _ _ n2,j_ _ _ n1,e3]
 have p4:=(f2 b4 h4).trans p4
 have p5:=(f2 b5 h5).trans p5
 have hvl:(ak (D1++D2)).length=(D1++D2).length:=natsL_len
 have HVL:=o_ (fun(i:Nat) (d:Nat) (e:(D1++D2)[i]?=some d)=>aH e)
 have HJ1:Hid (JI u1 S2 b8 bt g1 g2 [] ⟨[],[],D1,A1⟩):=o_ (HJ0.out.keep (fun z hz=>f2 z (by
  rcases hz with e|rfl|rfl|rfl|rfl
  ·rw[HJ0.out.fr z e];exact e
  ·rw[HJ0.out.o8];simp
  ·rw[HJ0.out.mt];simp
  ·rw[HJ0.out.r1];simp
  ·rw[HJ0.out.r2];simp)) [])
 clear hS2 f2 hap hapl hVy HF3 hDl hM q5 h5g pg3 HJ0 hbt1
 have hDLl:(D1++D2).length=D1.length+D2.length:=p_
 generalize hDL:D1++D2=DL at *
 generalize ak DL=VL at *
 have n8t:=HJ1.out.ne.1.1
 have mt2:=HJ1.out.mt
 refine aY (fun f env s'=>∃(i:Nat) (e:List (Int×Bool)),i<=DL.length/\f+i=DL.length/\Hid (TakenM (DL.take i) e)/\s'=S2.set bt (.map (mpZ bP e))/\env 0=.ptr x 0/\env 4=.ptr b4 0/\env 5=.ptr b5 0/\env 6=.ptr b6 0/\env 8=.ptr b8 0/\env 9=.mp bt/\env 41=.lst VL .no/\env 42=.int .i64 ((D1.length:Int)+(D2.length:Int))/\env 43=.int .i64 i) DL.length
  ⟨0,[],by omega,by omega,o_ (by simpa using TakenM.nil),(v_ _ _ _ mt2).symm,ac,ac,ac,ac,ac,ac,ac,ac,ac⟩ ?_
 rintro f env s' ⟨i,e,hi,hfi,HI,rfl,e0,e4,e5,e6,e8,e9,e41,e42,e43⟩
 by_cases h2:i<DL.length
 ·obtain⟨d,hd⟩:∃d,DL[i]?=some d:=⟨_,m_ h2⟩
  have hx1:=HVL.out i d hd
  have HN:Hid (TakenM (DL.take (i+1)) (ptZ (d:Int) true e)):=o_ (by rw[List.take_add_one,hd];exact HI.out.add d)
  have hlt:(i:Int)<(D1.length:Int)+(D2.length:Int):=by omega
  clear hd
  (repeat'(first|refine Ctl ?_|((with_reducible refine k_ hK ?_);clear hK hE K E)|((with_reducible refine ah (fun h=>?_) (fun h=>?_))<;>(try(exfalso;omega)))|(((with_reducible refine ab fun K E hK hE=>?_))<;>(try simp(disch:=omega) only[go_sem,seval,hlt,hx1, *]))))
  all_goals exact⟨f - 1,by omega,i+1,_,by omega,by omega,HN,rfl,ac,ac,ac,ac,ac,ac,ac,ac,ac⟩
 ·have hin:i=DL.length:=by omega
  have hT:=HI.out
  rw[hin,b_]at hT
  obtain⟨S3,hS3⟩:∃u,u=S2.set bt (.map (mpZ bP e)):=⟨_,rfl⟩
  rw[<- hS3]
  have f3:∀z,¬ z=bt->S3 z=S2 z:=fun z hz=>by rw[hS3,j_ _ _ hz]
  have HJ3:Hid (JI u1 S3 b8 bt g1 g2 e ⟨DL,[],D1,A1⟩):=by
   have h1:=HJ1.out
   obtain⟨n1,n2,n3,n4,n5,n6⟩:=h1.ne
   refine o_ ⟨fun z hz=>?_,(f3 _ n1.1).trans h1.o8,(f3 _ n4.2).trans h1.r1,(f3 _ n5.2).trans h1.r2,by rw[hS3,q_],hT,h1.f⟩
   exact(f3 z fun e=>hz (by rw[e];exact h1.f.2.2.2)).trans (h1.fr z hz)
  have p5:=(HJ3.out.fr b5 hl5).trans j5
  have hnlt:¬ (i:Int)<(D1.length:Int)+(D2.length:Int):=by omega
  clear hS3 f3 HJ1 HVL hvl hDLl h4 h5 HI hT mt2 n8t hi hfi h2 hin HV1 hDne hne
  (repeat'(first|refine Ctl ?_|((with_reducible refine k_ hK ?_);clear hK hE K E)|((with_reducible refine ah (fun h=>?_) (fun h=>?_))<;>(try(exfalso;omega)))|(((with_reducible refine ab fun K E hK hE=>?_))<;>(try simp(disch:=omega) only[go_sem,seval,hA2l,hnlt, *]))))
  refine iR 12 (ac) ?_
  refine aY (fun f env s'=>∃(i:Nat) (g1 g2:Nat) (e:List (Int×Bool)) (jc:JS) (v:VV),i<=A2.length/\f+i=A2.length/\(jc.A.length<=8+i/\jc.D.length<=8+i/\jc.t.length<=i)/\Hid (JI u1 s' b8 bt g1 g2 e jc/\JT u1 s' v g2 jc.t/\lS ds A1 D1 ((A2.zip D2).drop i) jc=some jq)/\env 0=.ptr x 0/\env 4=.ptr b4 0/\env 5=.ptr b5 0/\env 6=.ptr b6 0/\env 8=.ptr b8 0/\env 9=.mp bt/\env 12=v/\env 51=.lst SA2 o3/\env 52=.int .i64 A2.length/\env 53=.int .i64 i) A2.length
   ⟨0,g1,g2,e,⟨DL,[],D1,A1⟩,_,by omega,by omega,⟨hA18,hl8,Nat.le_refl 0⟩,o_ ⟨HJ3.out,.inl ⟨rfl,rfl⟩,HJ.out⟩,ac,ac,ac,ac,ac,ac,ac,ac,ac,ac⟩ ?_
  clear HJ3 HJ e0 e4 e5 e6 e8 e9
  rintro f env s' ⟨i,g1,g2,e,jc,v,hi,hfi,⟨bd1,bd2,bd3⟩,HI,e0,e4,e5,e6,e8,e9,e12,e51,e52,e53⟩
  by_cases h2:i<A2.length
  ·obtain⟨a,ha⟩:∃a,A2[i]?=some a:=⟨_,m_ h2⟩
   obtain⟨d,hd⟩:∃d,D2[i]?=some d:=⟨_,m_ (by omega)⟩
   have hxa:=HSA2.out i a ha
   have hxd:=HSD2.out i d hd
   obtain⟨J,T,F⟩:=HI.out
   obtain⟨q',hst,F'⟩:=EG ha hd F
   have p4:=(J.fr b4 hl4).trans j4
   have p5:=(J.fr b5 hl5).trans j5
   have px:=(J.fr x HM1.out.xl).trans hx
   have hz2:=HSZ4.out d (.inr (y_ hd))
   have HJJ:=o_ J
   have HF':=o_ F'
   have HST:=o_ hst
   clear HI J F F' hst ha hd
   rcases lk a A1 with ⟨hix,hno⟩|⟨k,hix,hk⟩
   ·have wix:=WIX.out s' a
    rw[hix]at wix
    have wct:=WCT.out s' d
    by_cases hdm:d∈D1
    ·rw[decide_eq_true hdm]at wct
     obtain⟨k,hfk,hqe⟩:=ve HST.out hix hdm
     have HFN:=o_ (hqe ▸ HF'.out)
     have pxs:s' x=.obj 73 (spC c q ds a1):=by rw[px];unfold spC;rw[HSZE.out]
     have wfr:SRet Tryz.prog 38 [.ptr x 0,.int .i64 4,.mp bt] s' (.tup [.int .i64 (k:Int),.bool true]) s':=M8 s' x c q bt a1 ds pxs hd8 HJJ.out.tk HJJ.out.mt 4 k hfk
     have mt:=HJJ.out.mt
     have HTT:=o_ T
     clear hix hno hdm hfk hqe pxs T
     (repeat'(first|(with_reducible refine aR 26 ?_)|refine Ctl ?_|((with_reducible refine k_ hK ?_);clear hK hE K E)|((with_reducible refine ah (fun h=>?_) (fun h=>?_))<;>(try(exfalso;first|assumption|omega)))|(((with_reducible first|refine ab fun K E hK hE=>?_|refine ae kB (wix) ?_|refine ae tL (wct) ?_|refine ae Qj (wfr) ?_))<;>(try simp(disch:=omega) only[go_sem,seval,hA2l,hxa,hxd,hz2, *]))))
     unfold bC
     obtain⟨J6,T6⟩:=HJJ.out.tak HTT.out k
     refine bE fun S6 hS6=>?_
     rw[<- hS6]at J6 T6
     have HJ6:=o_ J6
     clear hS6 J6 mt wix wct wfr p4 p5 px HTT
     rcases T6 with ⟨rfl,ht0⟩|⟨gt,rfl,rt,ngt,fgt⟩
     ·have HT0:=o_ ht0
      clear ht0
      (repeat'(first|(with_reducible refine aR 27 ?_)|refine Ctl ?_|((with_reducible refine k_ hK ?_);clear hK hE K E)|((first|(with_reducible refine ab fun K E hK hE=>?_)|((with_reducible refine fG (fun bM hM=>?_))))<;>(try simp(disch:=omega) only[go_sem,seval,List.flatten_cons,List.flatten_nil,List.append_nil, *]))))
      unfold bC
      have H7:=HJ6.out.app0 HT0.out hM k
      obtain⟨J7,T7⟩:=H7
      try dsimp only at J7
      try dsimp only at T7
      refine bE fun S7 hS7=>?_
      rw[<- hS7]at J7 T7
      have p8:=J7.o8
      have r1:=J7.r1
      dsimp only at p8 r1
      have hal:(jc.A.map fun x=>VV.str x).length=jc.A.length:=z_ _
      have n81:=J7.ne.2.1.1
      have HJ7:=o_ (And.intro J7 T7)
      clear hS7 J7 T7 hM
      (repeat'(first|(with_reducible first|refine aR 28 ?_|(refine k_ hK ?_;clear hK hE K E))|((first|(with_reducible refine ab fun K E hK hE=>?_)|((with_reducible refine cJ (fun bM hM=>?_));(try(obtain⟨_,_⟩:=nef hM (a:=b8) (by rw[j_ _ _ n81,p8];simp)))))<;>(try simp(disch:=omega) only[go_sem,seval,hal,List.flatten_cons,List.flatten_nil,List.append_nil, *]))))
      unfold bC
      obtain⟨J8,T8⟩:=HJ7.out.1.appA HJ7.out.2 hM a
      try dsimp only at J8
      try dsimp only at T8
      refine bE fun S8 hS8=>?_
      rw[<- hS8]at J8 T8
      clear p8 r1
      have p8:=J8.o8
      have r2:=J8.r2
      dsimp only at p8 r2
      have hdl:(jc.D.map fun(k:Nat)=>VV.int .i64 (k:Int)).length=jc.D.length:=z_ _
      have n82:=J8.ne.2.2.1.1
      have HJ8:=o_ (And.intro J8 T8)
      clear hS8 J8 T8 hM HJ7
      (repeat'(first|refine Ctl ?_|((with_reducible refine k_ hK ?_);clear hK hE K E)|((first|(with_reducible refine ab fun K E hK hE=>?_)|((with_reducible refine cJ (fun bM hM=>?_));(try(obtain⟨_,_⟩:=nef hM (a:=b8) (by rw[j_ _ _ n82,p8];simp)))))<;>(try simp(disch:=omega) only[go_sem,seval,hdl,List.flatten_cons,List.flatten_nil,List.append_nil, *]))))
      have H9:=HJ8.out.1.appD HJ8.out.2 hM k
      all_goals exact⟨f - 1,by omega,i+1,_,_,_,_,_,by omega,by omega,(by simp;omega),o_ ⟨H9.1,H9.2,HFN.out⟩,ac,ac,ac,ac,ac,ac,ac,ac,ac,ac⟩
     ·have hti:(List.map (fun(k:Nat)=>VV.int .i64 (k:Int)) jc.t).length=jc.t.length:=z_ _
      (repeat'(first|(with_reducible refine aR 27 ?_)|refine Ctl ?_|((with_reducible refine k_ hK ?_);clear hK hE K E)|((first|(with_reducible refine ab fun K E hK hE=>?_)|((with_reducible refine cJ (fun bM hM=>?_))))<;>(try simp(disch:=omega) only[go_sem,seval,hti,List.flatten_cons,List.flatten_nil,List.append_nil, *]))))
      unfold bC
      have H7:=HJ6.out.appT rt ngt fgt hM k
      clear rt
      obtain⟨J7,T7⟩:=H7
      try dsimp only at J7
      try dsimp only at T7
      refine bE fun S7 hS7=>?_
      rw[<- hS7]at J7 T7
      have p8:=J7.o8
      have r1:=J7.r1
      dsimp only at p8 r1
      have hal:(jc.A.map fun x=>VV.str x).length=jc.A.length:=z_ _
      have n81:=J7.ne.2.1.1
      have HJ7:=o_ (And.intro J7 T7)
      clear hS7 J7 T7 hM
      (repeat'(first|(with_reducible first|refine aR 28 ?_|(refine k_ hK ?_;clear hK hE K E))|((first|(with_reducible refine ab fun K E hK hE=>?_)|((with_reducible refine cJ (fun bM hM=>?_));(try(obtain⟨_,_⟩:=nef hM (a:=b8) (by rw[j_ _ _ n81,p8];simp)))))<;>(try simp(disch:=omega) only[go_sem,seval,hal,List.flatten_cons,List.flatten_nil,List.append_nil, *]))))
      unfold bC
      obtain⟨J8,T8⟩:=HJ7.out.1.appA HJ7.out.2 hM a
      try dsimp only at J8
      try dsimp only at T8
      refine bE fun S8 hS8=>?_
      rw[<- hS8]at J8 T8
      clear p8 r1
      have p8:=J8.o8
      have r2:=J8.r2
      dsimp only at p8 r2
      have hdl:(jc.D.map fun(k:Nat)=>VV.int .i64 (k:Int)).length=jc.D.length:=z_ _
      have n82:=J8.ne.2.2.1.1
      have HJ8:=o_ (And.intro J8 T8)
      clear hS8 J8 T8 hM HJ7
      (repeat'(first|refine Ctl ?_|((with_reducible refine k_ hK ?_);clear hK hE K E)|((first|(with_reducible refine ab fun K E hK hE=>?_)|((with_reducible refine cJ (fun bM hM=>?_));(try(obtain⟨_,_⟩:=nef hM (a:=b8) (by rw[j_ _ _ n82,p8];simp)))))<;>(try simp(disch:=omega) only[go_sem,seval,hdl,List.flatten_cons,List.flatten_nil,List.append_nil, *]))))
      have H9:=HJ8.out.1.appD HJ8.out.2 hM k
      all_goals exact⟨f - 1,by omega,i+1,_,_,_,_,_,by omega,by omega,(by simp;omega),o_ ⟨H9.1,H9.2,HFN.out⟩,ac,ac,ac,ac,ac,ac,ac,ac,ac,ac⟩
    ·rw[decide_eq_false hdm]at wct
     have hqe:=yA HST.out hix hdm
     have HFN:=o_ (hqe ▸ HF'.out)
     clear hix hno hdm hqe
     rcases T with ⟨rfl,ht0⟩|⟨gt,rfl,rt,ngt,fgt⟩
     ·have HT0:=o_ ht0
      clear ht0
      (repeat'(first|(with_reducible refine aR 27 ?_)|refine Ctl ?_|((with_reducible refine k_ hK ?_);clear hK hE K E)|((with_reducible refine ah (fun h=>?_) (fun h=>?_))<;>(try(exfalso;first|assumption|omega)))|((first|(with_reducible first|refine ab fun K E hK hE=>?_|refine ae kB (wix) ?_|refine ae tL (wct) ?_)|((with_reducible refine fG (fun bM hM=>?_))))<;>(try simp(disch:=omega) only[go_sem,seval,hA2l,hxa,hxd,hz2,List.flatten_cons,List.flatten_nil,List.append_nil, *]))))
      unfold bC
      have H7:=HJJ.out.app0 HT0.out hM d
      clear wix wct p4 p5 px
      obtain⟨J7,T7⟩:=H7
      try dsimp only at J7
      try dsimp only at T7
      refine bE fun S7 hS7=>?_
      rw[<- hS7]at J7 T7
      have p8:=J7.o8
      have r1:=J7.r1
      dsimp only at p8 r1
      have hal:(jc.A.map fun x=>VV.str x).length=jc.A.length:=z_ _
      have n81:=J7.ne.2.1.1
      have HJ7:=o_ (And.intro J7 T7)
      clear hS7 J7 T7 hM
      (repeat'(first|(with_reducible first|refine aR 28 ?_|(refine k_ hK ?_;clear hK hE K E))|((first|(with_reducible refine ab fun K E hK hE=>?_)|((with_reducible refine cJ (fun bM hM=>?_));(try(obtain⟨_,_⟩:=nef hM (a:=b8) (by rw[j_ _ _ n81,p8];simp)))))<;>(try simp(disch:=omega) only[go_sem,seval,hal,List.flatten_cons,List.flatten_nil,List.append_nil, *]))))
      unfold bC
      obtain⟨J8,T8⟩:=HJ7.out.1.appA HJ7.out.2 hM a
      try dsimp only at J8
      try dsimp only at T8
      refine bE fun S8 hS8=>?_
      rw[<- hS8]at J8 T8
      clear p8 r1
      have p8:=J8.o8
      have r2:=J8.r2
      dsimp only at p8 r2
      have hdl:(jc.D.map fun(k:Nat)=>VV.int .i64 (k:Int)).length=jc.D.length:=z_ _
      have n82:=J8.ne.2.2.1.1
      have HJ8:=o_ (And.intro J8 T8)
      clear hS8 J8 T8 hM HJ7
      (repeat'(first|refine Ctl ?_|((with_reducible refine k_ hK ?_);clear hK hE K E)|((first|(with_reducible refine ab fun K E hK hE=>?_)|((with_reducible refine cJ (fun bM hM=>?_));(try(obtain⟨_,_⟩:=nef hM (a:=b8) (by rw[j_ _ _ n82,p8];simp)))))<;>(try simp(disch:=omega) only[go_sem,seval,hdl,List.flatten_cons,List.flatten_nil,List.append_nil, *]))))
      have H9:=HJ8.out.1.appD HJ8.out.2 hM d
      all_goals exact⟨f - 1,by omega,i+1,_,_,_,_,_,by omega,by omega,(by simp;omega),o_ ⟨H9.1,H9.2,HFN.out⟩,ac,ac,ac,ac,ac,ac,ac,ac,ac,ac⟩
     ·have hti:(List.map (fun(k:Nat)=>VV.int .i64 (k:Int)) jc.t).length=jc.t.length:=z_ _
      (repeat'(first|(with_reducible refine aR 27 ?_)|refine Ctl ?_|((with_reducible refine k_ hK ?_);clear hK hE K E)|((with_reducible refine ah (fun h=>?_) (fun h=>?_))<;>(try(exfalso;first|assumption|omega)))|((first|(with_reducible first|refine ab fun K E hK hE=>?_|refine ae kB (wix) ?_|refine ae tL (wct) ?_)|((with_reducible refine cJ (fun bM hM=>?_))))<;>(try simp(disch:=omega) only[go_sem,seval,hA2l,hxa,hxd,hz2,hti,List.flatten_cons,List.flatten_nil,List.append_nil, *]))))
      unfold bC
      have H7:=HJJ.out.appT rt ngt fgt hM d
      clear wix wct p4 p5 px rt
      obtain⟨J7,T7⟩:=H7
      try dsimp only at J7
      try dsimp only at T7
      refine bE fun S7 hS7=>?_
      rw[<- hS7]at J7 T7
      have p8:=J7.o8
      have r1:=J7.r1
      dsimp only at p8 r1
      have hal:(jc.A.map fun x=>VV.str x).length=jc.A.length:=z_ _
      have n81:=J7.ne.2.1.1
      have HJ7:=o_ (And.intro J7 T7)
      clear hS7 J7 T7 hM
      (repeat'(first|(with_reducible first|refine aR 28 ?_|(refine k_ hK ?_;clear hK hE K E))|((first|(with_reducible refine ab fun K E hK hE=>?_)|((with_reducible refine cJ (fun bM hM=>?_));(try(obtain⟨_,_⟩:=nef hM (a:=b8) (by rw[j_ _ _ n81,p8];simp)))))<;>(try simp(disch:=omega) only[go_sem,seval,hal,List.flatten_cons,List.flatten_nil,List.append_nil, *]))))
      unfold bC
      obtain⟨J8,T8⟩:=HJ7.out.1.appA HJ7.out.2 hM a
      try dsimp only at J8
      try dsimp only at T8
      refine bE fun S8 hS8=>?_
      rw[<- hS8]at J8 T8
      clear p8 r1
      have p8:=J8.o8
      have r2:=J8.r2
      dsimp only at p8 r2
      have hdl:(jc.D.map fun(k:Nat)=>VV.int .i64 (k:Int)).length=jc.D.length:=z_ _
      have n82:=J8.ne.2.2.1.1
      have HJ8:=o_ (And.intro J8 T8)
      clear hS8 J8 T8 hM HJ7
      (repeat'(first|refine Ctl ?_|((with_reducible refine k_ hK ?_);clear hK hE K E)|((first|(with_reducible refine ab fun K E hK hE=>?_)|((with_reducible refine cJ (fun bM hM=>?_));(try(obtain⟨_,_⟩:=nef hM (a:=b8) (by rw[j_ _ _ n82,p8];simp)))))<;>(try simp(disch:=omega) only[go_sem,seval,hdl,List.flatten_cons,List.flatten_nil,List.append_nil, *]))))
      have H9:=HJ8.out.1.appD HJ8.out.2 hM d
      all_goals exact⟨f - 1,by omega,i+1,_,_,_,_,_,by omega,by omega,(by simp;omega),o_ ⟨H9.1,H9.2,HFN.out⟩,ac,ac,ac,ac,ac,ac,ac,ac,ac,ac⟩
   ·have wix:=WIX.out s' a
    rw[hix]at wix
    have hkD:k<D1.length:=by have h1:=HR.out.1.ln;have:=(x_.1 hk).1;omega
    obtain⟨dk,hdk⟩:∃dk,D1[k]?=some dk:=⟨_,m_ hkD⟩
    have hv1:=HSD1.out k dk hdk
    have hz1:=HSZ4.out dk (.inl (y_ hdk))
    have hqe:=A5 HST.out hix
    rw[List.getD_eq_getElem?_getD,hdk]at hqe
    have HFN:=o_ (hqe ▸ HF'.out)
    clear hix hk hkD hdk hqe
    rcases T with ⟨rfl,ht0⟩|⟨gt,rfl,rt,ngt,fgt⟩
    ·have HT0:=o_ ht0
     clear ht0
     (repeat'(first|refine Ctl ?_|(with_reducible first|(refine k_ hK ?_;clear hK hE K E)|(refine k_ hKh ?_;clear hKh Kh)|refine ax 17 [] [0,1,2,3,4,5,6,7,8,9,10,11,12,13,14,15,16,17,18] hQe fun K E hK hE=>?_)|((with_reducible refine ah (fun h=>?_) (fun h=>?_))<;>(try(exfalso;first|assumption|omega)))|((first|(with_reducible first|refine ab fun K E hK hE=>?_|refine ae kB (wix) ?_|refine aG fun Kh hKh=>?_)|((with_reducible refine fG (fun bM hM=>?_))))<;>(try simp(disch:=omega) only[go_sem,seval,hA2l,hxa,hxd,hv1,hz1,hz2,List.flatten_cons,List.flatten_nil,List.append_nil, *]))))
     have H7:=HJJ.out.app0 HT0.out hM dk
     all_goals exact⟨f - 1,by omega,i+1,_,_,_,_,_,by omega,by omega,(by simp;omega),o_ ⟨H7.1,H7.2,HFN.out⟩,ac,ac,ac,ac,ac,ac,ac,ac,ac,ac⟩
    ·have hti:(List.map (fun(k:Nat)=>VV.int .i64 (k:Int)) jc.t).length=jc.t.length:=z_ _
     (repeat'(first|refine Ctl ?_|(with_reducible first|(refine k_ hK ?_;clear hK hE K E)|(refine k_ hKh ?_;clear hKh Kh)|refine ax 17 [] [0,1,2,3,4,5,6,7,8,9,10,11,12,13,14,15,16,17,18] hQe fun K E hK hE=>?_)|((with_reducible refine ah (fun h=>?_) (fun h=>?_))<;>(try(exfalso;first|assumption|omega)))|((first|(with_reducible first|refine ab fun K E hK hE=>?_|refine ae kB (wix) ?_|refine aG fun Kh hKh=>?_)|((with_reducible refine cJ (fun bM hM=>?_))))<;>(try simp(disch:=omega) only[go_sem,seval,hA2l,hxa,hxd,hv1,hz1,hz2,hti,List.flatten_cons,List.flatten_nil,List.append_nil, *]))))
     have H7:=HJJ.out.appT rt ngt fgt hM dk
     all_goals exact⟨f - 1,by omega,i+1,_,_,_,_,_,by omega,by omega,(by simp;omega),o_ ⟨H7.1,H7.2,HFN.out⟩,ac,ac,ac,ac,ac,ac,ac,ac,ac,ac⟩
  ·have hin:i=A2.length:=by omega
   obtain⟨J,T,F⟩:=HI.out
   have hdr:(A2.zip D2).drop i=[]:=List.drop_eq_nil_of_le (by rw[List.length_zip];omega)
   rw[hdr]at F
   have hjq:jc=jq:=by
    simp only[lS]at F
    injection F
   subst hjq
   have hA2p:0<A2.length:=List.length_pos_iff.2 hne2
   obtain⟨ht4,htn,htl⟩:=HT.out
   rcases T with ⟨rfl,ht0⟩|⟨gt,rfl,rt,ngt,fgt⟩
   ·rw[ht0]at htl
    simp at htl
    omega
   have hti:(List.map (fun(k:Nat)=>VV.int .i64 (k:Int)) jc.t).length=jc.t.length:=z_ _
   have HJJ:=o_ J
   have hnl:¬ (i:Int)<(A2.length:Int):=by omega
   clear HI F J hdr
   (repeat'(first|(with_reducible refine aR 30 ?_)|refine Ctl ?_|((with_reducible refine k_ hK ?_);clear hK hE K E)|((with_reducible refine ah (fun h=>?_) (fun h=>?_))<;>(try(exfalso;omega)))|(((with_reducible refine ab fun K E hK hE=>?_))<;>(try simp(disch:=omega) only[go_sem,seval,hA2l,hnl, *]))))
   unfold bC
   refine kK 12 gt jc.t.length rt (ac) hti ?_
   rw[show (List.map (fun(k:Nat)=>VV.int .i64 (k:Int)) jc.t).map (fun y=>[y])=ak jc.t by simp[ak,Function.comp_def]]
   have J:=HJJ.out
   have nt8:¬ b8=gt:=fun e=>by have:=J.o8;rw[e,rt]at this;cases this
   have nt1:¬ g1=gt:=fun e=>by have:=J.r1;rw[e,rt]at this;cases this
   have nt2:¬ g2=gt:=fun e=>ngt e.symm
   obtain⟨n1,n2,n3,n4,n5,n6⟩:=J.ne
   have a8:(s'.set gt .free) b8=_:=(j_ _ _ nt8).trans J.o8
   have a1':(s'.set gt .free) g1=_:=(j_ _ _ nt1).trans J.r1
   have a2':(s'.set gt .free) g2=_:=(j_ _ _ nt2).trans J.r2
   refine lD (GSg.frz (i:=0) a8 rfl a1' (z_ _)) ?_
   simp only[List.set_cons_zero]
   rw[show (jc.A.map fun x=>VV.str x).map (fun y=>[y])=az jc.A by simp[az,Function.comp_def]]
   have b2':((((s'.set gt .free).set g1 .free).set b8 (.obj 30 [.lst (az jc.A) .no,.mrw g2 jc.D.length,.int .i64 0])) g2)=_:=(j_ _ _ n3.2).trans ((j_ _ _ n6.2).trans a2')
   refine lD (GSg.frz (i:=1) (q_ _ _ _) rfl b2' (z_ _)) ?_
   simp only[List.set_cons_zero,List.set_cons_succ]
   rw[show (List.map (fun(k:Nat)=>VV.int .i64 (k:Int)) jc.D).map (fun y=>[y])=ak jc.D by simp[ak,Function.comp_def]]
   refine bE fun SF hSF=>?_
   have o8:SF b8=.obj 30 [.lst (az jc.A) .no,.lst (ak jc.D) .no,.int .i64 0]:=by rw[hSF,q_]
   have fr:∀z,u1 z≠.free->SF z=u1 z:=fun z hz=>by
    have c1:¬ z=gt:=fun e=>hz (by rw[e];exact fgt)
    have c2:¬ z=g1:=fun e=>hz (by rw[e];exact J.f.2.1)
    have c3:¬ z=g2:=fun e=>hz (by rw[e];exact J.f.2.2.1)
    have c4:¬ z=b8:=fun e=>hz (by rw[e];exact J.f.1)
    rw[hSF,j_ _ _ c4,j_ _ _ c3,j_ _ _ c4,j_ _ _ c2,j_ _ _ c1,J.fr z hz]
   have MF:=HM1.out.more fr
   have p4:=(fr b4 hl4).trans j4
   have p5:=(fr b5 hl5).trans j5
   have p6:=(fr b6 hl6).trans j6
   have px:=(fr x HM1.out.xl).trans hx
   have hRF:=HR2.out.new fr
   have hD:=HDD.out
   obtain⟨hf,hh⟩:=HF.out
   have hlt1:=HR.out.1.d4.lt
   have hlt2:=HR.out.2.d4.lt
   have hltq:=HQ.out.d4.lt
   have hvl2:=HR.out.2.d4.vl
   have hvlt:=ht4.vl
   have hB:=HB.out
   have hvd:(aj o jc.t).length=(aj o D2).length:=by rw[hvl2,hvlt,htl]
   have hnd2:=cr hD HR.out.2.nd hlt2
   have wt:=vP MF hD D2 jc.t o4 .no hh (aJ hD hlt2) HMH.out hlt2 ht4.lt HR.out.2.nd htn hl82 (by omega) hvd HC.out (Nat.le_trans (Nat.le_add_right _ _) hB)
   have hgdep:DepF (aj o jc.t) (rnF (aX (aj o D2) (aj o jc.t)) fh):=by
    have e:=iH (A:=aj o D2) (A':=aj o jc.t) (B:=[]) (B':=[]) hvd rfl (by simpa using hnd2)
    simp only[List.append_nil]at e
    have h1:=qT (by_:=aX (aj o D2) (aj o jc.t)) hh
    rw[e]at h1
    exact h1
   rw[HV2.out,HKH.out]at wt
   obtain⟨G,hG⟩:∃G,G=rnF (aX (aj o D2) (aj o jc.t)) fh:=⟨_,rfl⟩
   rw[<- hG]at wt hgdep
   have HG:=o_ hG
   have hprod:DepF (aj o jc.D) (fun y=>ff y && G y):=fun y1 y2 e=>by
    have e1:=hf y1 y2 fun v hv=>e v (gk HS.out.1 v hv)
    have e2:=hgdep y1 y2 fun v hv=>e v (gk HS.out.2 v hv)
    show (ff y1 && G y1)=(ff y2 && G y2)
    rw[e1,e2]
   have hsub:=(di (aJ hD hltq) hprod (Nat.le_refl _)).mono (Nat.sub_le _ _)
   have hhf:=hf.hang (aJ hD hlt1)
   have hhg:=hgdep.hang (aJ hD ht4.lt)
   have hqa:=dj jc.A
   have hq8:¬ (jc.A.length:Int) > 8:=by have:=HQ.out.nm.2.2;omega
   have HMF2:=o_ MF
   have HRF:=o_ hRF
   have HPR:=o_ (And.intro hprod (And.intro hsub (And.intro hhf hhg)))
   have HFR:=o_ fr
   have h4:SF b4≠.free:=by rw[p4];simp
   have h6:SF b6≠.free:=by rw[p6];simp
   have h8:SF b8≠.free:=by rw[o8];simp
   unfold OpFC at wt
   generalize az jc.A=SA at *
   generalize ak jc.D=VD at *
   generalize ak jc.t=VT at *
   have HF8:=o_ J.f.1
   have HFS8:Hid (s b8≠.free->kF KK x m b8):=o_ fun e=>Classical.byContradiction fun hk=>e ((HR2.out.k.out b8 e hk).symm.trans J.f.1)
   clear hSF a8 a1' a2' b2' rt MF hRF hD hf hh hlt1 hlt2 hltq hvl2 hvlt hvd hnd2 hgdep hprod hsub hhf hhg fr J HJJ ht4 htn htl hB hnl hG
   (repeat'(first|refine Ctl ?_|((with_reducible refine k_ hK ?_);clear hK hE K E)|((with_reducible refine ah (fun h=>?_) (fun h=>?_))<;>(try(exfalso;assumption)))|(((with_reducible refine ab fun K E hK hE=>?_))<;>(try simp(disch:=omega) only[go_sem,seval,hqa,hq8, *]))))
   refine ao xJ wt (fun a h=>?_)
   obtain⟨u3,K3,ns3⟩:=a
   try dsimp only at h
   have HR3:Hid (RelR s KK x m q c n B ns ds o (N+((aj o D2).length+2) * 2 ^ (aj o D2).length) G (u3,K3,m1,ns3)):=o_ (HRF.out.then (RelR.op HMF2.out h))
   have l4:=(h.k.out b4 h4 (HMF2.out.C.om.types p4 (by decide) (by decide) (by decide))).trans p4
   have l6:=(h.k.out b6 h6 (HMF2.out.C.om.types p6 (by decide) (by decide) (by decide))).trans p6
   have l8:=(h.k.out b8 h8 (HMF2.out.C.om.types o8 (by decide) (by decide) (by decide))).trans o8
   have lx:=(h.k.out x HMF2.out.xl HMF2.out.xk).trans px
   have wq:=dD u3 q K3.o K3.s.p HR3.out.M.C.qo
   obtain⟨hprod,hsub,hhf,hhg⟩:=HPR.out
   have wa:=vS HR3.out.M.C.om hhf hhg (bn h.pre HMF.out).1 h.mem h.cnt hsub HB.out
   have e1:ixF n ns3 ff=kf:=(bn h.pre HMF.out).2.trans HKF.out
   try dsimp only at wa
   rw[e1]at wa
   unfold OpFC at wa
   dsimp only at l4 l6 l8 lx ⊢
   generalize hkG:ixF n ns3 G=kG at *
   clear h wt p4 p5 p6 px o8 h4 h6 h8 hprod hsub hhf hhg e1 hkG
   simp only[go_sem,seval]
   (repeat'(first|refine Ctl ?_|(with_reducible first|(refine k_ hK ?_;clear hK hE K E)|(refine k_ hKh ?_;clear hKh Kh)|(refine k_ hKb (aC ?_);clear hKb Kb)|refine ax 34 [([0,1,2,3,5,6,7],4,[[5,6,7]]),([],8,[[],[]]),([9,10,11,12],13,[[11],[],[]])] [14] hQe fun K E hK hE=>?_)|((with_reducible refine ah (fun h=>?_) (fun h=>?_))<;>(try(exfalso;assumption)))|(((with_reducible first|refine ab fun K E hK hE=>?_|refine ae dK (wq) ?_|refine ay fun Kh hKh=>?_|refine aB fun Kb hKb=>?_))<;>(try simp(disch:=omega) only[go_sem,seval, *]))))
   refine ao BI wa (fun a h=>?_)
   obtain⟨u4,K4,ns4⟩:=a
   try dsimp only at h
   have HR4:Hid (RelR s KK x m q c n B ns ds o (N+((aj o D2).length+2) * 2 ^ (aj o D2).length+2 ^ (aj o jc.D).length) (fun y=>ff y && G y) (u4,K4,m1,ns4)):=o_ (HR3.out.then (RelR.op HR3.out.M h))
   have q6:=(h.k.out b6 (by rw[l6];simp) (HR3.out.M.C.om.types l6 (by decide) (by decide) (by decide))).trans l6
   have q8:=(h.k.out b8 (by rw[l8];simp) (HR3.out.M.C.om.types l8 (by decide) (by decide) (by decide))).trans l8
   have n68:¬ b6=b8:=fun e=>hl6 (by rw[e];exact HF8.out)
   have n86:¬ b8=b6:=fun e=>n68 e.symm
   dsimp only at q6 q8 ⊢
   generalize hkp:ixF n ns4 (fun y=>ff y && G y)=kp at *
   have HKP:=o_ hkp
   clear h wa wq l4 l6 l8 lx hkp
   simp only[go_sem,seval,q8]
   (repeat'(first|refine Ctl ?_|(with_reducible first|(refine k_ hK ?_;clear hK hE K E)|(refine k_ hKh ?_;clear hKh Kh)|(refine k_ hKb (aC ?_);clear hKb Kb))|((with_reducible refine ah (fun h=>?_) (fun h=>?_))<;>(try(exfalso;assumption)))|(((with_reducible first|refine ab fun K E hK hE=>?_|refine ay fun Kh hKh=>?_|refine aG fun Kh hKh=>?_|refine aB fun Kb hKb=>?_))<;>(try simp(disch:=omega) only[go_sem,seval, *]))))
   all_goals(refine aq Gx hQ ?_)
   all_goals refine⟨_,_,Wk.refl _,Fg.refl _,(St.set _ b6 _,K4,m1,ns4),?_,rfl,?_⟩
   ·have e:(ixF n ns4 fun y=>ff y && rnF (aX (aj o D2) (aj o jc.t)) fh y)=kp:=by rw[<- HG.out];exact HKP.out
    show _=SEnd.ret (.tup [.agg [.lst SA .no,.lst VD .no,.int .i64 ((ixF n ns4 (fun y=>ff y && rnF (aX (aj o D2) (aj o jc.t)) fh y):Nat):Int)],.int .i64 0])
    rw[e]
   ·rw[<- HG.out]
    refine HR4.out.finG fun z hz=>?_
    by_cases e6:z=b6
    ·subst e6;exact .inr ⟨⟨_,q6⟩,fun e=>absurd G0.out.2 e⟩
    by_cases e8:z=b8
    ·subst e8;exact .inr ⟨⟨_,q8⟩,HFS8.out⟩
    left
    rw[j_ _ _ e6,j_ _ _ e8]
end Go.Proofs.YtohnaepcgnbaiaaGreatDoor
namespace Go.Proofs.YtohnaepcgnbaiaaGreatDoor
open Go.RowKit
attribute [-go_sem] bJ cX bH bG aT cU cT
set_option maxHeartbeats 8000000 in
theorem Fk {s:St}{KK:OB}{x m q c n B N:Nat}{ns:List Tr}{ds:List (List UInt8×Nat)}{o:List (List Nat)}(hn64:n<=64)(hM:RMem s KK x m q c n B ns ds o)(hD:DOk n ds o){f:(Nat->Bool)->Bool}(A:List (List UInt8))(o1:Own)(D:List Nat)(o2:Own)(hR:Rel4 ds o A D)(hf:DepF (aj o D) f)(mf:treeT n f∈ns)
  (A2:List (List UInt8)) (o3:Own) (h2:bi A2) (hl2:A2.length=A.length) (hc:CntN ns N) :
  SCalls Tryz.prog 16 [.ptr x 0,.agg [.lst (az A) o1,.lst (ak D) o2,.int .i64 (ixF n ns f:Nat)],.lst (az A2) o3] s fun w u=>∃a:gI,w=.ret (.tup [.agg [.lst (az A2) .no,.lst (ak D) .no,.int .i64 (ixF n a.2.2.2 f:Nat)],.int .i64 0])/\u=a.1/\RelR s KK x m q c n B ns ds o N f a:=by
 have hl8:=hR.l8
 have wm:=fun(u:St) (hu:∀z,s z≠.free->u z=s z)=>po hn64 (hM.more hu) hD [[.lst (az A) o1,.lst (ak D) o2,.int .i64 ((ixF n ns f:Nat):Int)]] .full (fun z hz=>by
  rw[a_]at hz
  exact⟨⟨A,D,treeT n f⟩,o1,o2,hz,hR.ok hD hf mf⟩) (by simp)
 have wn:=fun u=>xV u A2 o3 h2
 have wcs:=fun u=>iA u A2 o3 (by have:=h2.2.2;omega)
 have wcn:=fun u=>pt u D o2 (by omega)
 have hs1:=dj A
 have hs2:(az A2).length=A.length:=by rw[dj,hl2]
 have WM:=o_ wm
 have WN:=o_ wn
 have WCS:=o_ wcs
 have WCN:=o_ wcn
 have HM:=o_ hM
 have HMF:=o_ mf
 have HC:=o_ hc
 clear wm wn wcs wcn hR hf mf hc hl8 hM h2
 generalize hkf:ixF n ns f=kf at *
 have HKF:=o_ hkf
 clear hkf
 generalize az A=SA at *
 generalize az A2=SB at *
 generalize ak D=V at *
 refine am Tryz.func16 rfl Tryz.ntmps16 rfl fun Q hQ hQe=>?_
 (repeat'(first|refine Ctl ?_|((with_reducible refine k_ hK ?_);clear hK hE K E)|((first|(with_reducible refine ab fun K E hK hE=>?_)|((with_reducible refine au (fun b hb=>?_));(repeat(obtain⟨_,hb⟩:=hb))))<;>(try simp(disch:=omega) only[go_sem,seval, *]))))
 rename_i b4 hb4 nba nab
 obtain⟨b6,hb6e⟩:∃z,z=b:=⟨_,rfl⟩
 subst hb6e
 have hb6:s b6=.free:=hb
 obtain⟨u0,hu0⟩:∃u,u=(s.set b4 (.obj 30 [.lst SA o1,.lst V o2,.int .i64 (kf:Int)])).set b6 (.obj 30 [.lst [] .full,.lst [] .full,.int .i64 0]):=⟨_,rfl⟩
 rw[<- hu0]
 have g0:∀z,s z≠.free->u0 z=s z:=fun z hz=>by rw[hu0,j_ _ _ (nef hb6 hz).1,j_ _ _ (nef hb4 hz).1]
 have k4:u0 b4=.obj 30 [.lst SA o1,.lst V o2,.int .i64 (kf:Int)]:=by rw[hu0,j_ _ _ (by assumption),q_]
 have k6:u0 b6=.obj 30 [.lst [] .full,.lst [] .full,.int .i64 0]:=by rw[hu0,q_]
 have wm:=WM.out u0 g0
 have G0:=o_ g0
 have HB6:=o_ hb6
 clear hu0 hb g0 WM hb4 hb6
 refine ao oY wm (fun a h=>?_)
 obtain⟨u1,m1⟩:=a
 obtain⟨M1,K1⟩:=h
 dsimp only at M1 K1 ⊢
 have R1:=RelR.win M1 K1 HMF.out HC.out
 have j4:=R1.own (HM.out.more G0.out) k4 (by decide) (by decide) (by decide) (by decide)
 have j6:=R1.own (HM.out.more G0.out) k6 (by decide) (by decide) (by decide) (by decide)
 have R2:RelR s KK x m q c n B ns ds o N f (u1,KK,m1,ns):=(RelR.win (HM.out.more G0.out) (.new G0.out) HMF.out HC.out).then R1
 have HF:=o_ fun y=>R2.set (y:=y) j6 HB6.out
 dsimp only at j4 j6
 have wn:=WN.out u1
 have wcs:=WCS.out u1
 have wcn:=WCN.out u1
 clear wm M1 K1 R1 R2 k4 k6 WN WCS WCN
 simp only[go_sem,seval]
 (repeat'(first|refine Ctl ?_|(with_reducible first|(refine k_ hK ?_;clear hK hE K E)|(refine k_ hKh ?_;clear hKh Kh)|(refine k_ hKb (aC ?_);clear hKb Kb)|refine ax 5 [([0,2,3,5,6],1,[[2,3,5,6]]),([],4,[[],[5,6]]),([7],8,[[],[],[]])] [9] hQe fun K E hK hE=>?_)|((with_reducible refine ah (fun h=>?_) (fun h=>?_))<;>(try(exfalso;assumption)))|(((with_reducible first|refine ab fun K E hK hE=>?_|refine ae GT (wn) ?_|refine ae lV (wcs) ?_|refine ae ft (wcn) ?_|refine ay fun Kh hKh=>?_|refine aG fun Kh hKh=>?_|refine aB fun Kb hKb=>?_))<;>(try simp(disch:=omega) only[go_sem,seval,hs1,hs2, *]))))
 all_goals(refine aq Gv hQ ?_)
 all_goals exact⟨_,_,Wk.refl _,Fg.refl _,(_,KK,m1,ns),congrArg (fun z:Nat=>SEnd.ret (.tup [.agg [.lst SB .no,.lst V .no,.int .i64 (z:Int)],.int .i64 0])) HKF.out.symm,rfl,HF.out _⟩
end Go.Proofs.YtohnaepcgnbaiaaGreatDoor
