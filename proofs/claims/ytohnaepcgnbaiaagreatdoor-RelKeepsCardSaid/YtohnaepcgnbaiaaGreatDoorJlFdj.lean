/- Walks. Conditions: in the statements. -/
import Derived.Test.YtohnaepcgnbaiaaGreatDoorJlEnj
import Derived.WideKeyRuns
set_option maxHeartbeats 32000000
set_option linter.unusedSimpArgs false
set_option linter.unusedVariables false
set_option maxRecDepth 100000
namespace Go.Proofs.YtohnaepcgnbaiaaGreatDoor
open Go.RowKit
attribute [-go_sem] bJ cX bH bG aT cU cT
theorem gk {o:TU}{ks ks':TW}(h:∀k,k∈ks->k∈ks'):∀v,v∈aj o ks->v∈aj o ks':=fun v hv=>by
 obtain⟨k,hk,e⟩:=List.mem_flatMap.1 hv
 exact List.mem_flatMap.2 ⟨k,h k hk,e⟩
theorem RelR.finG {s u2:St}{K K':OB}{x m m' q c n B N:Nat}{ns ns':Td}{ds:TN}{o:TU}{f:Tf}(h:RelR s K x m q c n B ns ds o N f (u2,K',m',ns')){u':St}(hu:∀z,u2 z≠.free->u' z=u2 z\/((∃xs,u2 z=.obj 30 xs)/\(s z≠.free->kF K x m z))):RelR s K x m q c n B ns ds o N f (u',K',m',ns'):=by
 have hM:RMem u2 K' x m' q c n B ns' ds o:=h.M
 have k:∀z,(kF K' x m' z\/z=q\/z=c)->u' z=u2 z:=fun z hz=>by
  have hl:u2 z≠.free:=by
   rcases hz with e|rfl|rfl
   ·exact hM.live e
   ·rw[hM.C.qo];simp
   ·rw[hM.C.co];simp
  rcases hu z hl with e|⟨⟨xs,e⟩,_⟩
  ·exact e
  ·obtain⟨h1,h2,h3⟩:=hM.rel e
   rcases hz with e|e|e
   ·exact absurd e h1
   ·exact absurd e h2
   ·exact absurd e h3
 refine⟨⟨⟨hM.C.om.keep fun z hz=>k z (.inl (.inl hz)),(k q (.inr (.inl rfl))).trans hM.C.qo,(k c (.inr (.inr rfl))).trans hM.C.co⟩,?_⟩,h.pre,h.mem,h.cnt,⟨h.k.p,h.k.q,h.k.o,h.k.nw,fun z hz hn=>?_⟩⟩
 ·rcases hM.sp with ⟨e,e1⟩|⟨me,e1,e2,e3⟩
  ·exact .inl ⟨e,(k x (.inl (.inr (.inl rfl)))).trans e1⟩
  ·exact .inr ⟨me,(k x (.inl (.inr (.inl rfl)))).trans e1,(k m' (.inl (.inr (.inr rfl)))).trans e2,e3⟩
 ·have e1:u2 z=s z:=h.k.out z hz hn
  rcases hu z (by rw[e1];exact hz)with e|⟨_,e⟩
  ·exact e.trans e1
  ·exact absurd (e hz) hn
theorem Ci {P:Program}{N:Nat}{D:List Deferred}{c:Code}{k:List Itm}{Q:Pst}{env:Env}{s:St}(I:Env->St->Prop)(h1:(∀env s,I env s->Kp P N D k Q .norm env s)->Kp P N D (.code c::k) Q .norm env s)(h2:∀env s,I env s->Kp P N D k Q .norm env s):bC (Kp P N D (.code c::k) Q .norm env s):=h1 h2
theorem tj (D1 D2:TW):(D1.map (fun(k:Nat)=>VV.int .i64 (k:Int))++(ak D2).flatten).map (fun y=>[y])=ak (D1++D2):=by
 have e:(ak D2).flatten=D2.map fun(k:Nat)=>VV.int .i64 (k:Int):=by
  induction D2 with
  |nil=>rfl
  |cons d D2 ih=>simp only[ak,List.map_cons,List.flatten_cons]at ih ⊢;rw[ih];rfl
 rw[e]
 simp[ak,Function.comp_def]
theorem frB {a b:St}(h:∀z,a z≠.free->b z=a z){y:Nat}(hy:b y=.free):a y=.free:=by
 by_cases e:a y=.free
 ·exact e
 ·exact absurd ((h y e).symm.trans hy) e
def JB (x b4 b5 b6:Nat)(u1:St)(A1:TV)(D1:TW)(env:Env)(S:St):Prop:=∃b8 g1 g2,env 0=.ptr x 0/\env 4=.ptr b4 0/\env 5=.ptr b5 0/\env 6=.ptr b6 0/\env 8=.ptr b8 0/\(∀z,u1 z≠.free->S z=u1 z)/\S b8=.obj 30 [.mrw g1 A1.length,.mrw g2 D1.length,.int .i64 0]/\S g1=.row 9 1 (A1.map fun x=>.str x)/\S g2=.row 3 1 (D1.map fun(k:Nat)=>.int .i64 (k:Int))/\u1 b8=.free/\u1 g1=.free/\u1 g2=.free
structure JI (u1 S:St) (b8 bt g1 g2:Nat) (e:List (Int×Bool)) (q:JS):Prop where
 fr:∀z,u1 z≠.free->S z=u1 z
 o8:S b8=.obj 30 [.mrw g1 q.A.length,.mrw g2 q.D.length,.int .i64 0]
 r1:S g1=.row 9 1 (q.A.map fun x=>.str x)
 r2:S g2=.row 3 1 (q.D.map fun(k:Nat)=>.int .i64 (k:Int))
 mt:S bt=.map (mpZ bP e)
 tk:TakenM q.T e
 f:u1 b8=.free/\u1 g1=.free/\u1 g2=.free/\u1 bt=.free
def JT (u1 S:St)(v:VV)(g2:Nat)(t:TW):Prop:=(v=.raw (.slice none 0 0)/\t=[])\/∃gt,v=.mrw gt t.length/\S gt=.row 3 1 (t.map fun(k:Nat)=>.int .i64 (k:Int))/\gt≠g2/\u1 gt=.free
theorem JI.keep {u1 S S':St}{b8 bt g1 g2:Nat}{e:List (Int×Bool)}{q:JS}(h:JI u1 S b8 bt g1 g2 e q)(hk:∀z,(u1 z≠.free\/z=b8\/z=bt\/z=g1\/z=g2)->S' z=S z)(t:TW):JI u1 S' b8 bt g1 g2 e ⟨q.T,t,q.D,q.A⟩:=
 ⟨fun z hz=>(hk z (.inl hz)).trans (h.fr z hz),(hk b8 (.inr (.inl rfl))).trans h.o8,(hk g1 (.inr (.inr (.inr (.inl rfl))))).trans h.r1,(hk g2 (.inr (.inr (.inr (.inr rfl))))).trans h.r2,(hk bt (.inr (.inr (.inl rfl)))).trans h.mt,h.tk,h.f⟩
theorem JI.ne {u1 S:St}{b8 bt g1 g2:Nat}{e:List (Int×Bool)}{q:JS}(h:JI u1 S b8 bt g1 g2 e q):(¬ b8=bt/\¬ bt=b8)/\(¬ b8=g1/\¬ g1=b8)/\(¬ b8=g2/\¬ g2=b8)/\(¬ bt=g1/\¬ g1=bt)/\(¬ bt=g2/\¬ g2=bt)/\(¬ g1=g2/\¬ g2=g1):=by
 have key:∀(a b:Nat) (c d:Cell),S a=c->S b=d->c≠d->¬ a=b/\¬ b=a:=fun a b c d h1 h2 h3=>⟨fun e=>h3 (by rw[<- h1,<- h2,e]),fun e=>h3 (by rw[<- h1,<- h2,e])⟩
 exact⟨key _ _ _ _ h.o8 h.mt (by simp),key _ _ _ _ h.o8 h.r1 (by simp),key _ _ _ _ h.o8 h.r2 (by simp),key _ _ _ _ h.mt h.r1 (by simp),key _ _ _ _ h.mt h.r2 (by simp),key _ _ _ _ h.r1 h.r2 (by simp)⟩
section
variable {u1 S : St} {b8 bt g1 g2 gt bM : Nat} {e : List (Int × Bool)} {q : JS} {v : VV}
abbrev dv (l:TW):Tb:=l.map fun(k:Nat)=>.int .i64 (k:Int)
theorem JI.app0 (J:JI u1 S b8 bt g1 g2 e q)(h0:q.t=[])(hM:S bM=.free)(d:Nat):JI u1 (S.set bM (.row 3 1 [.int .i64 (d:Int)])) b8 bt g1 g2 e ⟨q.T,q.t++[d],q.D,q.A⟩/\JT u1 (S.set bM (.row 3 1 [.int .i64 (d:Int)])) (.mrw bM 1) g2 (q.t++[d]):=by
 have hk:∀z,S z≠.free->(S.set bM (.row 3 1 [.int .i64 (d:Int)])) z=S z:=fun z hz=>j_ _ _ (nef hM hz).1
 refine⟨J.keep (fun z hz=>hk z ?_) _,.inr ⟨bM,by rw[h0];rfl,by rw[h0];exact q_ _ _ _,fun e=>?_,frB J.fr hM⟩⟩
 ·rcases hz with e|rfl|rfl|rfl|rfl
  ·rw[J.fr z e];exact e
  ·rw[J.o8];simp
  ·rw[J.mt];simp
  ·rw[J.r1];simp
  ·rw[J.r2];simp
 ·have:=J.r2;rw[<- e,hM]at this;cases this
theorem JI.appT (J:JI u1 S b8 bt g1 g2 e q)(rt:S gt=.row 3 1 (dv q.t))(ngt:gt≠g2)(fgt:u1 gt=.free)(hM:(S.set gt .free) bM=.free)(d:Nat):JI u1 ((S.set gt .free).set bM (.row 3 1 (dv q.t++[.int .i64 (d:Int)]))) b8 bt g1 g2 e ⟨q.T,q.t++[d],q.D,q.A⟩/\JT u1 ((S.set gt .free).set bM (.row 3 1 (dv q.t++[.int .i64 (d:Int)]))) (.mrw bM (q.t.length+1)) g2 (q.t++[d]):=by
 have hbM:∀z,S z≠.free->¬ z=gt->¬ z=bM:=fun z hz hn e=>by subst e;rw[j_ _ _ hn]at hM;exact hz hM
 have hk:∀z,S z≠.free->¬ z=gt->((S.set gt .free).set bM (.row 3 1 (dv q.t++[.int .i64 (d:Int)]))) z=S z:=fun z hz hn=>by rw[j_ _ _ (hbM z hz hn),j_ _ _ hn]
 have hg2:S g2≠.free:=by rw[J.r2];simp
 refine⟨J.keep (fun z hz=>?_) _,.inr ⟨bM,by simp,by rw[q_];simp,fun e=>hbM g2 hg2 (fun e=>ngt e.symm) e.symm,?_⟩⟩
 ·rcases hz with e|rfl|rfl|rfl|rfl
  ·exact hk z (by rw[J.fr z e];exact e) fun e2=>e (by rw[e2];exact fgt)
  ·exact hk _ (by rw[J.o8];simp) fun e2=>by have:=J.o8;rw[e2,rt]at this;cases this
  ·exact hk _ (by rw[J.mt];simp) fun e2=>by have:=J.mt;rw[e2,rt]at this;cases this
  ·exact hk _ (by rw[J.r1];simp) fun e2=>by have:=J.r1;rw[e2,rt]at this;cases this
  ·exact hk _ hg2 fun e2=>ngt e2.symm
 ·by_cases e:u1 bM=.free
  ·exact e
  ·have h1:=J.fr bM e
   exact absurd rfl (hbM bM (by rw[h1];exact e) fun e2=>e (by rw[e2];exact fgt))
theorem JI.appA (J:JI u1 S b8 bt g1 g2 e q)(T:JT u1 S v g2 q.t)(hM:(S.set g1 .free) bM=.free)(a:TT) :
  JI u1 (((S.set g1 .free).set bM (.row 9 1 ((q.A.map fun x=>.str x)++[.str a]))).set b8 (.obj 30 [.mrw bM (q.A.length+1),.mrw g2 q.D.length,.int .i64 0])) b8 bt bM g2 e ⟨q.T,q.t,q.D,q.A++[a]⟩/\JT u1 (((S.set g1 .free).set bM (.row 9 1 ((q.A.map fun x=>.str x)++[.str a]))).set b8 (.obj 30 [.mrw bM (q.A.length+1),.mrw g2 q.D.length,.int .i64 0])) v g2 q.t:=by
 have hbM:∀z,S z≠.free->¬ z=g1->¬ z=bM:=fun z hz hn e=>by subst e;rw[j_ _ _ hn]at hM;exact hz hM
 obtain⟨n1,n2,n3,n4,n5,n6⟩:=J.ne
 have h8:¬ b8=bM:=hbM b8 (by rw[J.o8];simp) n2.1
 have hk:∀z,S z≠.free->¬ z=g1->¬ z=b8->(((S.set g1 .free).set bM (.row 9 1 ((q.A.map fun x=>.str x)++[.str a]))).set b8 (.obj 30 [.mrw bM (q.A.length+1),.mrw g2 q.D.length,.int .i64 0])) z=S z:=fun z hz hn h8=>by rw[j_ _ _ h8,j_ _ _ (hbM z hz hn),j_ _ _ hn]
 refine⟨⟨fun z hz=>?_,?_,?_,(hk g2 (by rw[J.r2];simp) n6.2 n3.2).trans J.r2,(hk bt (by rw[J.mt];simp) n4.1 n1.2).trans J.mt,J.tk,J.f.1,?_,J.f.2.2.1,J.f.2.2.2⟩,?_⟩
 ·exact(hk z (by rw[J.fr z hz];exact hz) (fun e=>hz (by rw[e];exact J.f.2.1)) fun e=>hz (by rw[e];exact J.f.1)).trans (J.fr z hz)
 ·rw[q_];simp
 ·rw[j_ _ _ (fun e=>h8 e.symm),q_];simp
 ·by_cases e:u1 bM=.free
  ·exact e
  ·have h1:=J.fr bM e
   exact absurd rfl (hbM bM (by rw[h1];exact e) fun e2=>e (by rw[e2];exact J.f.2.1))
 ·rcases T with ⟨h1,h2⟩|⟨gt,h1,h2,h3,h4⟩
  ·exact .inl ⟨h1,h2⟩
  ·exact .inr ⟨gt,h1,(hk gt (by rw[h2];simp) (fun e=>by have:=J.r1;rw[<- e,h2]at this;cases this) fun e=>by have:=J.o8;rw[<- e,h2]at this;cases this).trans h2,h3,h4⟩
theorem JI.appD (J:JI u1 S b8 bt g1 g2 e q)(T:JT u1 S v g2 q.t)(hM:(S.set g2 .free) bM=.free)(d:Nat) :
  JI u1 (((S.set g2 .free).set bM (.row 3 1 (dv q.D++[.int .i64 (d:Int)]))).set b8 (.obj 30 [.mrw g1 q.A.length,.mrw bM (q.D.length+1),.int .i64 0])) b8 bt g1 bM e ⟨q.T,q.t,q.D++[d],q.A⟩/\JT u1 (((S.set g2 .free).set bM (.row 3 1 (dv q.D++[.int .i64 (d:Int)]))).set b8 (.obj 30 [.mrw g1 q.A.length,.mrw bM (q.D.length+1),.int .i64 0])) v bM q.t:=by
 have hbM:∀z,S z≠.free->¬ z=g2->¬ z=bM:=fun z hz hn e=>by subst e;rw[j_ _ _ hn]at hM;exact hz hM
 obtain⟨n1,n2,n3,n4,n5,n6⟩:=J.ne
 have h8:¬ b8=bM:=hbM b8 (by rw[J.o8];simp) n3.1
 have hk:∀z,S z≠.free->¬ z=g2->¬ z=b8->(((S.set g2 .free).set bM (.row 3 1 (dv q.D++[.int .i64 (d:Int)]))).set b8 (.obj 30 [.mrw g1 q.A.length,.mrw bM (q.D.length+1),.int .i64 0])) z=S z:=fun z hz hn h8=>by rw[j_ _ _ h8,j_ _ _ (hbM z hz hn),j_ _ _ hn]
 refine⟨⟨fun z hz=>?_,?_,(hk g1 (by rw[J.r1];simp) n6.1 n2.2).trans J.r1,?_,(hk bt (by rw[J.mt];simp) n5.1 n1.2).trans J.mt,J.tk,J.f.1,J.f.2.1,?_,J.f.2.2.2⟩,?_⟩
 ·exact(hk z (by rw[J.fr z hz];exact hz) (fun e=>hz (by rw[e];exact J.f.2.2.1)) fun e=>hz (by rw[e];exact J.f.1)).trans (J.fr z hz)
 ·rw[q_];simp
 ·rw[j_ _ _ (fun e=>h8 e.symm),q_];simp
 ·by_cases e:u1 bM=.free
  ·exact e
  ·have h1:=J.fr bM e
   exact absurd rfl (hbM bM (by rw[h1];exact e) fun e2=>e (by rw[e2];exact J.f.2.2.1))
 ·rcases T with ⟨h1,h2⟩|⟨gt,h1,h2,h3,h4⟩
  ·exact .inl ⟨h1,h2⟩
  ·have hgt:S gt≠.free:=by rw[h2];simp
   exact .inr ⟨gt,h1,(hk gt hgt h3 fun e=>by have:=J.o8;rw[<- e,h2]at this;cases this).trans h2,hbM gt hgt h3,h4⟩
end
theorem JI.tak {u1 S:St}{b8 bt g1 g2:Nat}{e:List (Int×Bool)}{q:JS}{v:VV}(J:JI u1 S b8 bt g1 g2 e q)(T:JT u1 S v g2 q.t)(k:Nat):JI u1 (S.set bt (.map (mpZ bP (ptZ (k:Int) true e)))) b8 bt g1 g2 (ptZ (k:Int) true e) ⟨q.T++[k],q.t,q.D,q.A⟩/\JT u1 (S.set bt (.map (mpZ bP (ptZ (k:Int) true e)))) v g2 q.t:=by
 obtain⟨n1,n2,n3,n4,n5,n6⟩:=J.ne
 have hk:∀z,¬ z=bt->(S.set bt (.map (mpZ bP (ptZ (k:Int) true e)))) z=S z:=fun z hz=>j_ _ _ hz
 refine⟨⟨fun z hz=>(hk z fun e=>hz (by rw[e];exact J.f.2.2.2)).trans (J.fr z hz),(hk _ n1.1).trans J.o8,(hk _ n4.2).trans J.r1,(hk _ n5.2).trans J.r2,q_ _ _ _,J.tk.add k,J.f⟩,?_⟩
 rcases T with ⟨h1,h2⟩|⟨gt,h1,h2,h3,h4⟩
 ·exact .inl ⟨h1,h2⟩
 ·exact .inr ⟨gt,h1,(hk _ fun e=>by have:=J.mt;rw[<- e,h2]at this;cases this).trans h2,h3,h4⟩
theorem Fp {s:St}{KK:OB}{x m q c n B N:Nat}{ns:Td}{ds:TN}{o:TU}(hn64:n<=64)(hM:RMem s KK x m q c n B ns ds o)(hD:DOk n ds o)(hd8:ds.length<=1000){ff fh:Tf}(A1:TV)(o1:Own)(D1:TW)(o2:Own)(hR1:Rel4 ds o A1 D1)(hne:A1≠[])(hf:DepF (aj o D1) ff)(mf:treeT n ff∈ns)
  (A2:TV) (o3:Own) (D2:TW) (o4:Own) (hR2:Rel4 ds o A2 D2) (hne2:A2≠[]) (hh:DepF (aj o D2) fh) (mh:treeT n fh∈ns) {jq:JS} (hj:lS ds A1 D1 (A2.zip D2) ⟨D1++D2,[],D1,A1⟩=some jq) (hQ:Rel4 ds o jq.A jq.D) (ht:Dom4 ds o jq.t) (htn:jq.t.Nodup) (htl:jq.t.length=D2.length) (hs1:∀k,k∈D1->k∈jq.D) (hs2:∀k,k∈jq.t->k∈jq.D)
  (hc:CntN ns N) (hB:N+((aj o D2).length+2) * 2 ^ (aj o D2).length+2 ^ (aj o jq.D).length<=B) :
  SCalls Tryz.prog 13 [.ptr x 0,.agg [.lst (az A1) o1,.lst (ak D1) o2,.int .i64 (ixF n ns ff:Nat)],.agg [.lst (az A2) o3,.lst (ak D2) o4,.int .i64 (ixF n ns fh:Nat)]] s fun w u=>∃a:gI,w=.ret (.tup [.agg [.lst (az jq.A) .no,.lst (ak jq.D) .no,.int .i64 (ixF n a.2.2.2 (fun y=>ff y && rnF (aX (aj o D2) (aj o jq.t)) fh y):Nat)],.int .i64 0])/\u=a.1/\RelR s KK x m q c n B ns ds o (N+((aj o D2).length+2) * 2 ^ (aj o D2).length+2 ^ (aj o jq.D).length) (fun y=>ff y && rnF (aX (aj o D2) (aj o jq.t)) fh y) a:=by
 have hl8:=hR1.l8
 have hl82:=hR2.l8
 have hA18:=hR1.nm.2.2
 have hDne:D1≠[]:=fun e=>hne (by have:=hR1.ln;rw[e]at this;simpa using this)
 have wm:=fun(u:St) (hu:∀z,s z≠.free->u z=s z)=>po hn64 (hM.more hu) hD [[.lst (az A1) o1,.lst (ak D1) o2,.int .i64 ((ixF n ns ff:Nat):Int)],[.lst (az A2) o3,.lst (ak D2) o4,.int .i64 ((ixF n ns fh:Nat):Int)]] .full (fun z hz=>by
  simp only[AT,List.not_mem_nil,or_false]at hz
  rcases hz with hz|hz
  ·exact⟨⟨A1,D1,treeT n ff⟩,o1,o2,hz,hR1.ok hD hf mf⟩
  ·exact⟨⟨A2,D2,treeT n fh⟩,o3,o4,hz,hR2.ok hD hh mh⟩) (by simp)
 have wix:=fun(u:St) (a:TT)=>xW A1 o1 a (by have:=hR1.nm.2.2;omega) u
 have wct:=fun(u:St) (d:Nat)=>rR D1 o2 d (by omega) u
 have wcs:=fun u=>zm u A1 o1 hne (by have:=hR1.nm.2.2;omega)
 have wcm:=fun u=>lF u D1 o2 hDne (by omega)
 have WM:=o_ wm
 have WIX:=o_ wix
 have WCT:=o_ wct
 have WCS:=o_ wcs
 have WCM:=o_ wcm
 have HM:=o_ hM
 have HMF:=o_ mf
 have HMH:=o_ mh
 have HC:=o_ hc
 have HJ:=o_ hj
 have HR:=o_ (And.intro hR1 hR2)
 have HQ:=o_ hQ
 have HT:=o_ (And.intro ht (And.intro htn htl))
 have HS:=o_ (And.intro hs1 hs2)
 have HB:=o_ hB
 have HF:=o_ (And.intro hf hh)
 have HDD:=o_ hD
 have hsz:=fun d (hd:d∈D1\/d∈D2)=>show (szC ds)[d]?=some [.int .i64 4] from by
  have h4:∃nm,ds[d]?=some (nm,4):=hd.elim (fun e=>(hR1.d4 d e).1) (fun e=>(hR2.d4 d e).1)
  obtain⟨nm,e⟩:=h4
  exact kT e
 have HSZ4:=o_ hsz
 have hA2l:=dj A2
 have hD1l:=natsL_len (ks:=D1)
 have hD2l:=natsL_len (ks:=D2)
 have hln2:=hR2.ln
 have HSA2:=o_ (fun(i:Nat) (a:TT) (e:A2[i]?=some a)=>iD e)
 have HSD1:=o_ (fun(i:Nat) (d:Nat) (e:D1[i]?=some d)=>aH e)
 have HSD2:=o_ (fun(i:Nat) (d:Nat) (e:D2[i]?=some d)=>aH e)
 clear wm wix wct wcs wcm hM mf mh hc hj hR1 hR2 hQ ht htn htl hs1 hs2 hB hf hh hD hsz
 generalize hkf:ixF n ns ff=kf at *
 have HKF:=o_ hkf
 clear hkf
 generalize hkh:ixF n ns fh=kh at *
 have HKH:=o_ hkh
 clear hkh
 generalize az A1=SA1 at *
 generalize az A2=SA2 at *
 generalize hV1:ak D1=V1 at *
 have HV1:=o_ hV1
 clear hV1
 generalize hV2:ak D2=V2 at *
 have HV2:=o_ hV2
 clear hV2
 generalize hSZE:szC ds=SZ at *
 have HSZE:=o_ hSZE
 clear hSZE
 refine am Tryz.func13 rfl Tryz.ntmps13 rfl fun Q hQ hQe=>?_
 (repeat'(first|refine Ctl ?_|((with_reducible refine k_ hK ?_);clear hK hE K E)|((first|(with_reducible refine ab fun K E hK hE=>?_)|((with_reducible refine au (fun b hb=>?_));(repeat(obtain⟨_,hb⟩:=hb))))<;>(try simp(disch:=omega) only[go_sem,seval, *]))))
 rename_i b4 hb4 b5 n1 n2 hb5 n3 n4 n5 n6
 obtain⟨b6,hb6e⟩:∃z,z=b:=⟨_,rfl⟩
 subst hb6e
 have hb6:s b6=.free:=hb
 obtain⟨u0,hu0⟩:∃u,u=((s.set b4 (.obj 30 [.lst SA1 o1,.lst V1 o2,.int .i64 (kf:Int)])).set b5 (.obj 30 [.lst SA2 o3,.lst V2 o4,.int .i64 (kh:Int)])).set b6 (.obj 30 [.lst [] .full,.lst [] .full,.int .i64 0]):=⟨_,rfl⟩
 rw[<- hu0]
 have g0:∀z,s z≠.free->u0 z=s z:=fun z hz=>by rw[hu0,j_ _ _ (nef hb6 hz).1,j_ _ _ (nef hb5 hz).1,j_ _ _ (nef hb4 hz).1]
 have k4:u0 b4=.obj 30 [.lst SA1 o1,.lst V1 o2,.int .i64 (kf:Int)]:=by rw[hu0,j_ _ _ (‹_›),j_ _ _ (‹_›),q_]
 have k5:u0 b5=.obj 30 [.lst SA2 o3,.lst V2 o4,.int .i64 (kh:Int)]:=by rw[hu0,j_ _ _ (‹_›),q_]
 have k6:u0 b6=.obj 30 [.lst [] .full,.lst [] .full,.int .i64 0]:=by rw[hu0,q_]
 have wm:=WM.out u0 g0
 have G0:=o_ (And.intro g0 hb6)
 clear hu0 hb g0 WM hb4 hb5 hb6 n1 n2 n3 n4 n5 n6
 refine ao oY wm (fun a h=>?_)
 obtain⟨u1,m1⟩:=a
 obtain⟨M1,K1⟩:=h
 dsimp only at M1 K1 ⊢
 have R1:=RelR.win M1 K1 HMF.out HC.out
 have j4:=R1.own (HM.out.more G0.out.1) k4 (by decide) (by decide) (by decide) (by decide)
 have j5:=R1.own (HM.out.more G0.out.1) k5 (by decide) (by decide) (by decide) (by decide)
 have j6:=R1.own (HM.out.more G0.out.1) k6 (by decide) (by decide) (by decide) (by decide)
 have R2:RelR s KK x m q c n B ns ds o N ff (u1,KK,m1,ns):=(RelR.win (HM.out.more G0.out.1) (.new G0.out.1) HMF.out HC.out).then R1
 dsimp only at j4 j5 j6
 obtain⟨a1,hx⟩:=M1.xf
 unfold spC at hx
 rw[HSZE.out]at hx
 have HR2:=o_ R2
 have HM1:=o_ M1
 have hl4:u1 b4≠.free:=by rw[j4];simp
 have hl5:u1 b5≠.free:=by rw[j5];simp
 have hl6:u1 b6≠.free:=by rw[j6];simp
 clear wm M1 K1 R1 R2 k4 k5 k6
 simp only[go_sem,seval]
 (repeat'(first|(with_reducible refine aR 3 ?_)|refine Ctl ?_|((with_reducible refine k_ hK ?_);clear hK hE K E)|((with_reducible refine bZ (fun h=>?_) (fun h=>?_))<;>(try(exfalso;assumption)))))
 refine Ci (JB x b4 b5 b6 u1 A1 D1) (fun KEY=>?_) ?_
 ·(repeat'(first|(with_reducible first|(refine k_ hKh ?_;clear hKh Kh)|(refine k_ hKb (aC ?_);clear hKb Kb)|refine rQ 3 (.two [0,1,3,4] 2 [[3,4]] (.two [] 5 [[],[]] (.one [6] 7 [[6],[],[]] (.one [] 8 [[],[],[],[]] (.fin []))) 7 [[],[3,4]] (.one [] 5 [[],[],[]] (.one [6] 8 [[],[],[],[]] (.fin [])))) 7 [[0,1,3,4]] (.one [] 2 [[],[3,4]] (.one [] 5 [[],[],[]] (.one [6] 8 [[],[],[],[]] (.fin []))))) hQe fun K E hK hE=>?_)|((first|(with_reducible first|refine aB fun Kb hKb=>?_|refine dA fun Kh hKh=>?_|refine xP fun Kh hKh=>?_|refine rK (fun Kb hKb=>?_) (fun Kb hKb=>?_))|((with_reducible refine au (fun b hb=>?_));(try(obtain⟨_,_⟩:=nef hb hl4;obtain⟨_,_⟩:=nef hb hl5;obtain⟨_,_⟩:=nef hb hl6))))<;>(try simp(disch:=omega) only[go_sem,seval, *]))))
  ·refine ao lV (WCS.out _) (fun a h=>?_)
   obtain⟨u2,g1⟩:=a
   obtain⟨hgf,hu2⟩:=h
   dsimp only at hgf hu2 ⊢
   have f2:∀z,u1 z≠.free->u2 z=u1 z:=fun z hz=>by rw[hu2,j_ _ _ (nef hgf hz).1]
   have p4:=(f2 b4 hl4).trans j4
   have hp4:u2 b4≠.free:=by rw[p4];simp
   have hp5:u2 b5≠.free:=by rw[f2 b5 hl5,j5];simp
   have hp6:u2 b6≠.free:=by rw[f2 b6 hl6,j6];simp
   have pg:u2 g1=.row 9 1 (A1.map fun x=>.str x):=by rw[hu2,q_]
   have hpg:u2 g1≠.free:=by rw[pg];simp
   have HF2:=o_ (And.intro f2 hgf)
   clear hu2 f2 hgf
   simp only[go_sem,seval]
   (repeat'(first|(with_reducible first|(refine k_ hKh ?_;clear hKh Kh)|(refine k_ hKb (aC ?_);clear hKb Kb))|((first|(with_reducible first|refine aB fun Kb hKb=>?_|refine dA fun Kh hKh=>?_|refine xP fun Kh hKh=>?_|refine rK (fun Kb hKb=>?_) (fun Kb hKb=>?_))|((with_reducible refine au (fun b hb=>?_));(try(obtain⟨_,_⟩:=nef hb hp4;obtain⟨_,_⟩:=nef hb hp5;obtain⟨_,_⟩:=nef hb hp6;obtain⟨_,_⟩:=nef hb hpg))))<;>(try simp(disch:=omega) only[go_sem,seval, *]))))
   ·refine ao ft (WCM.out _) (fun a h=>?_)
    obtain⟨u3,g2⟩:=a
    obtain⟨hgf2,hu3⟩:=h
    dsimp only at hgf2 hu3 ⊢
    have f3:∀z,u2 z≠.free->u3 z=u2 z:=fun z hz=>by rw[hu3,j_ _ _ (nef hgf2 hz).1]
    have pg2:u3 g2=.row 3 1 (D1.map fun(k:Nat)=>.int .i64 (k:Int)):=by rw[hu3,q_]
    have pg1:=(f3 g1 hpg).trans pg
    have HF3:=o_ (And.intro f3 hgf2)
    clear hu3 f3 hgf2
    simp only[go_sem,seval]
    (repeat'(first|(with_reducible first|refine KEY _ _ ?_|(refine k_ hK ?_;clear hK hE K E)|(refine k_ hKh ?_;clear hKh Kh)|(refine k_ hKb (aC ?_);clear hKb Kb))|((first|(with_reducible first|refine aB fun Kb hKb=>?_|refine dA fun Kh hKh=>?_|refine ph fun Kh hKh=>?_)|((with_reducible refine au (fun b hb=>?_))))<;>(try simp(disch:=omega) only[go_sem,seval, *]))))
    have hbf:u3 b=.free:=hb
    all_goals refine⟨b,g1,g2,ac,ac,ac,ac,ac,fun z hz=>?_,q_ _ _ _,?_,?_,?_,HF2.out.2,?_⟩
    ·have e2:=HF2.out.1 z hz
     have e3:=HF3.out.1 z (by rw[e2];exact hz)
     rw[j_ _ _ (nef hbf (by rw[e3,e2];exact hz)).1,e3,e2]
    ·rw[j_ _ _ (nef hbf (by rw[pg1];simp)).1,pg1]
    ·rw[j_ _ _ (nef hbf (by rw[pg2];simp)).1,pg2]
    ·exact frB (fun z hz=>(HF3.out.1 z (by rw[HF2.out.1 z hz];exact hz)).trans (HF2.out.1 z hz)) hbf
    ·exact frB HF2.out.1 HF3.out.2
   ·have hbf:u2 b=.free:=hb
    refine ao ft (WCM.out _) (fun a h=>?_)
    obtain⟨u3,g2⟩:=a
    obtain⟨hgf2,hu3⟩:=h
    dsimp only at hgf2 hu3 ⊢
    have hgb:¬ g2=b:=fun e=>by rw[e,q_]at hgf2;cases hgf2
    have hgf3:u2 g2=.free:=by rw[j_ _ _ hgb]at hgf2;exact hgf2
    have f3:∀z,u2 z≠.free->u3 z=u2 z:=fun z hz=>by rw[hu3,j_ _ _ (nef hgf3 hz).1,j_ _ _ (nef hbf hz).1]
    have pb:u3 b=.obj 30 [.lst [] .full,.lst [] .full,.int .i64 0]:=by rw[hu3,j_ _ _ (fun e=>hgb e.symm),q_]
    have pg2:u3 g2=.row 3 1 (D1.map fun(k:Nat)=>.int .i64 (k:Int)):=by rw[hu3,q_]
    have pg1:=(f3 g1 hpg).trans pg
    have HF3:=o_ (And.intro f3 hgf3)
    clear hu3 f3 hgf2 hgf3 hb
    simp only[go_sem,seval,pb]
    (repeat'(first|(with_reducible first|refine KEY _ _ ?_|(refine k_ hK ?_;clear hK hE K E)|(refine k_ hKh ?_;clear hKh Kh)|(refine k_ hKb (aC ?_);clear hKb Kb))|(((with_reducible first|refine aB fun Kb hKb=>?_|refine dA fun Kh hKh=>?_|refine ph fun Kh hKh=>?_))<;>(try simp(disch:=omega) only[go_sem,seval, *]))))
    all_goals refine⟨b,g1,g2,ac,ac,ac,ac,ac,fun z hz=>?_,q_ _ _ _,?_,?_,?_,HF2.out.2,?_⟩
    ·have e2:=HF2.out.1 z hz
     have e3:=HF3.out.1 z (by rw[e2];exact hz)
     rw[j_ _ _ (nef hbf (by rw[e2];exact hz)).1,e3,e2]
    ·rw[j_ _ _ (nef hbf hpg).1,pg1]
    ·rw[j_ _ _ hgb,pg2]
    ·exact frB HF2.out.1 hbf
    ·exact frB HF2.out.1 HF3.out.2
  ·have hbf:u1 b=.free:=hb
   refine ao lV (WCS.out _) (fun a h=>?_)
   obtain⟨u2,g1⟩:=a
   obtain⟨hgf,hu2⟩:=h
   dsimp only at hgf hu2 ⊢
   have hgb:¬ g1=b:=fun e=>by rw[e,q_]at hgf;cases hgf
   have hgf2:u1 g1=.free:=by rw[j_ _ _ hgb]at hgf;exact hgf
   have f2:∀z,u1 z≠.free->u2 z=u1 z:=fun z hz=>by rw[hu2,j_ _ _ (nef hgf2 hz).1,j_ _ _ (nef hbf hz).1]
   have pb2:u2 b=.obj 30 [.lst [] .full,.lst [] .full,.int .i64 0]:=by rw[hu2,j_ _ _ (fun e=>hgb e.symm),q_]
   have p4:=(f2 b4 hl4).trans j4
   have pg:u2 g1=.row 9 1 (A1.map fun x=>.str x):=by rw[hu2,q_]
   have HF2:=o_ (And.intro f2 hgf2)
   clear hu2 f2 hgf hgf2 hb
   simp only[go_sem,seval]
   (repeat'(first|(with_reducible first|(refine k_ hKh ?_;clear hKh Kh)|(refine k_ hKb (aC ?_);clear hKb Kb))|(((with_reducible first|refine aB fun Kb hKb=>?_|refine dA fun Kh hKh=>?_))<;>(try simp(disch:=assumption) only[go_sem,seval, *]))))
   refine ao ft (WCM.out _) (fun a h=>?_)
   obtain⟨u3,g2⟩:=a
   obtain⟨hgf2,hu3⟩:=h
   dsimp only at hgf2 hu3 ⊢
   have f3:∀z,u2 z≠.free->u3 z=u2 z:=fun z hz=>by rw[hu3,j_ _ _ (nef hgf2 hz).1]
   have pb:=(f3 b (by rw[pb2];simp)).trans pb2
   have pg2:u3 g2=.row 3 1 (D1.map fun(k:Nat)=>.int .i64 (k:Int)):=by rw[hu3,q_]
   have pg1:=(f3 g1 (by rw[pg];simp)).trans pg
   have HF3:=o_ (And.intro f3 hgf2)
   have hg2b:¬ g2=b:=fun e=>by rw[e,pb]at pg2;cases pg2
   clear hu3 f3 hgf2
   simp only[go_sem,seval,pb]
   (repeat'(first|(with_reducible first|refine KEY _ _ ?_|(refine k_ hK ?_;clear hK hE K E)|(refine k_ hKh ?_;clear hKh Kh)|(refine k_ hKb (aC ?_);clear hKb Kb))|(((with_reducible first|refine aB fun Kb hKb=>?_|refine dA fun Kh hKh=>?_|refine ph fun Kh hKh=>?_))<;>(try simp(disch:=omega) only[go_sem,seval, *]))))
   all_goals refine⟨b,g1,g2,ac,ac,ac,ac,ac,fun z hz=>?_,q_ _ _ _,?_,?_,hbf,HF2.out.2,?_⟩
   ·have e2:=HF2.out.1 z hz
    have e3:=HF3.out.1 z (by rw[e2];exact hz)
    rw[j_ _ _ (nef hbf hz).1,e3,e2]
   ·rw[j_ _ _ hgb,pg1]
   ·rw[j_ _ _ hg2b,pg2]
   ·exact frB HF2.out.1 HF3.out.2
 rintro env S ⟨b8,g1,g2,e0,e4,e5,e6,e8,fS,o8,r1,r2,f8,fg1,fg2⟩
 have p4:=(fS b4 hl4).trans j4
 have p5:=(fS b5 hl5).trans j5
 have h4:S b4≠.free:=by rw[p4];simp
 have h5:S b5≠.free:=by rw[p5];simp
 have h6:S b6≠.free:=by rw[fS b6 hl6,j6];simp
 have h8:S b8≠.free:=by rw[o8];simp
 have hg1:S g1≠.free:=by rw[r1];simp
 have hg2:S g2≠.free:=by rw[r2];simp
 have HF1:=o_ (And.intro fS (And.intro f8 (And.intro fg1 fg2)))
 clear fS f8 fg1 fg2
 (repeat'(first|refine Ctl ?_|(with_reducible first|(refine k_ hK ?_;clear hK hE K E)|(refine k_ hKh ?_;clear hKh Kh)|refine ax 5 [([0,1,3,4,7],2,[[3,4,7]]),([],5,[[],[7]])] [6] hQe fun K E hK hE=>?_)|((first|(with_reducible first|refine ab fun K E hK hE=>?_|refine ay fun Kh hKh=>?_|refine aB fun Kb hKb=>?_)|((with_reducible refine au (fun b hb=>?_));(try(obtain⟨_,_⟩:=nef hb h4;obtain⟨_,_⟩:=nef hb h5;obtain⟨_,_⟩:=nef hb h6;obtain⟨_,_⟩:=nef hb h8;obtain⟨_,_⟩:=nef hb hg1;obtain⟨_,_⟩:=nef hb hg2))))<;>(try simp(disch:=omega) only[go_sem,seval, *]))))
 obtain⟨bt,hbte⟩:∃z,z=b:=⟨_,rfl⟩
 subst hbte
 have hbt:S bt=.free:=hb
 obtain⟨S1,hS1⟩:∃u,u=S.set bt (.map []):=⟨_,rfl⟩
 rw[<- hS1]
 have g1S:∀z,S z≠.free->S1 z=S z:=fun z hz=>by rw[hS1,j_ _ _ (nef hbt hz).1]
 have mt:S1 bt=.map (mpZ bP []):=by rw[hS1,q_];rfl
 have J0:JI u1 S1 b8 bt g1 g2 [] ⟨[],[],D1,A1⟩:=⟨fun z hz=>(g1S z (by rw[HF1.out.1 z hz];exact hz)).trans (HF1.out.1 z hz),(g1S b8 h8).trans o8,(g1S g1 hg1).trans r1,(g1S g2 hg2).trans r2,mt,TakenM.nil,HF1.out.2.1,HF1.out.2.2.1,HF1.out.2.2.2,frB HF1.out.1 hbt⟩
 have p4:=(g1S b4 h4).trans p4
 have p5:=(g1S b5 h5).trans p5
 have HJ0:=o_ J0
 have h4:S1 b4≠.free:=by rw[p4];simp
 have h5:S1 b5≠.free:=by rw[p5];simp
 have hbt1:S1 bt≠.free:=by rw[mt];simp
 clear hS1 g1S mt J0 hb hbt HF1 o8 r1 r2
 refine ao ft (WCM.out _) (fun a h=>?_)
 obtain⟨u3,g3⟩:=a
 obtain⟨hgf3,hu3⟩:=h
 dsimp only at hgf3 hu3 ⊢
 have f3:∀z,S1 z≠.free->u3 z=S1 z:=fun z hz=>by rw[hu3,j_ _ _ (nef hgf3 hz).1]
 have pg3:u3 g3=.row 3 1 (D1.map fun(k:Nat)=>.int .i64 (k:Int)):=by rw[hu3,q_]
 have q5:=(f3 b5 h5).trans p5
 have h5g:¬ b5=g3:=fun e=>by rw[e,pg3]at q5;cases q5
 have hDl:(D1.map fun(k:Nat)=>VV.int .i64 (k:Int)).length=D1.length:=z_ _
 have hVy:∀y,y∈V2->y.length=1:=fun y hy=>by
  rw[<- HV2.out]at hy
  obtain⟨k,_,rfl⟩:=A_.1 hy
  rfl
 have HF3:=o_ (And.intro f3 hgf3)
 clear hu3 f3 hgf3
 simp only[go_sem,seval]
 (repeat'(first|refine Ctl ?_|(with_reducible first|(refine k_ hK ?_;clear hK hE K E)|(refine k_ hKh ?_;clear hKh Kh)|(refine k_ hKb (aC ?_);clear hKb Kb))|((first|(with_reducible first|refine ay fun Kh hKh=>?_|refine aG fun Kh hKh=>?_|refine aB fun Kb hKb=>?_)|((with_reducible refine cJ (fun bM hM=>?_))))<;>(try simp(disch:=omega) only[go_sem,seval,hDl,hD2l, *]))))
 have hapl:(D1.map (fun(k:Nat)=>VV.int .i64 (k:Int))++V2.flatten).length=D1.length+D2.length:=by
  have e:=congrArg List.length (tj D1 D2)
  rw[HV2.out]at e
  exact(z_ _).symm.trans (e.trans (natsL_len.trans p_))
 refine kK 41 bM (D1.length+D2.length) (q_ _ _ _) (ac) hapl ?_
 have hap:=tj D1 D2
 rw[HV2.out]at hap
 rw[hap]
 obtain⟨S2,hS2⟩:∃u,u=((u3.set g3 .free).set bM (.row 3 1 (D1.map (fun(k:Nat)=>VV.int .i64 (k:Int))++V2.flatten))).set bM .free:=⟨_,rfl⟩
 rw[<- hS2]
 have f2:∀z,S1 z≠.free->S2 z=S1 z:=fun z hz=>by
  have e3:=HF3.out.1 z hz
  have n1:=(nef HF3.out.2 hz).1
  have n2:¬ z=bM:=fun e=>by subst e;rw[j_ _ _ n1,e3]at hM;exact hz hM
  rw[hS2,j_ _ _ n2,j_ _ _ n2,j_ _ _ n1,e3]
 have p4:=(f2 b4 h4).trans p4
 have p5:=(f2 b5 h5).trans p5
 have hvl:(ak (D1++D2)).length=(D1++D2).length:=natsL_len
 have HVL:=o_ (fun(i:Nat) (d:Nat) (e:(D1++D2)[i]?=some d)=>aH e)
 have HJ1:Hid (JI u1 S2 b8 bt g1 g2 [] ⟨[],[],D1,A1⟩):=o_ (HJ0.out.keep (fun z hz=>f2 z (by
  rcases hz with e|rfl|rfl|rfl|rfl
  ·rw[HJ0.out.fr z e];exact e
  ·rw[HJ0.out.o8];simp
  ·rw[HJ0.out.mt];simp
  ·rw[HJ0.out.r1];simp
  ·rw[HJ0.out.r2];simp)) [])
 clear hS2 f2 hap hapl hVy HF3 hDl hM q5 h5g pg3 HJ0 hbt1
 have hDLl:(D1++D2).length=D1.length+D2.length:=p_
 generalize hDL:D1++D2=DL at *
 generalize ak DL=VL at *
 have n8t:=HJ1.out.ne.1.1
 have mt2:=HJ1.out.mt
 refine aY (fun f env s'=>∃(i:Nat) (e:List (Int×Bool)),i<=DL.length/\f+i=DL.length/\Hid (TakenM (DL.take i) e)/\s'=S2.set bt (.map (mpZ bP e))/\env 0=.ptr x 0/\env 4=.ptr b4 0/\env 5=.ptr b5 0/\env 6=.ptr b6 0/\env 8=.ptr b8 0/\env 9=.mp bt/\env 41=.lst VL .no/\env 42=.int .i64 ((D1.length:Int)+(D2.length:Int))/\env 43=.int .i64 i) DL.length
  ⟨0,[],by omega,by omega,o_ (by simpa using TakenM.nil),(v_ _ _ _ mt2).symm,ac,ac,ac,ac,ac,ac,ac,ac,ac⟩ ?_
 rintro f env s' ⟨i,e,hi,hfi,HI,rfl,e0,e4,e5,e6,e8,e9,e41,e42,e43⟩
 by_cases h2:i<DL.length
 ·obtain⟨d,hd⟩:∃d,DL[i]?=some d:=⟨_,m_ h2⟩
  have hx1:=HVL.out i d hd
  have HN:Hid (TakenM (DL.take (i+1)) (ptZ (d:Int) true e)):=o_ (by rw[List.take_add_one,hd];exact HI.out.add d)
  have hlt:(i:Int)<(D1.length:Int)+(D2.length:Int):=by omega
  clear hd
  (repeat'(first|refine Ctl ?_|((with_reducible refine k_ hK ?_);clear hK hE K E)|((with_reducible refine bZ (fun h=>?_) (fun h=>?_))<;>(try(exfalso;omega)))|(((with_reducible refine ab fun K E hK hE=>?_))<;>(try simp(disch:=omega) only[go_sem,seval,hlt,hx1, *]))))
  all_goals exact⟨f - 1,by omega,i+1,_,by omega,by omega,HN,rfl,ac,ac,ac,ac,ac,ac,ac,ac,ac⟩
 ·have hin:i=DL.length:=by omega
  have hT:=HI.out
  rw[hin,b_]at hT
  obtain⟨S3,hS3⟩:∃u,u=S2.set bt (.map (mpZ bP e)):=⟨_,rfl⟩
  rw[<- hS3]
  have f3:∀z,¬ z=bt->S3 z=S2 z:=fun z hz=>by rw[hS3,j_ _ _ hz]
  have HJ3:Hid (JI u1 S3 b8 bt g1 g2 e ⟨DL,[],D1,A1⟩):=by
   have h1:=HJ1.out
   obtain⟨n1,n2,n3,n4,n5,n6⟩:=h1.ne
   refine o_ ⟨fun z hz=>?_,(f3 _ n1.1).trans h1.o8,(f3 _ n4.2).trans h1.r1,(f3 _ n5.2).trans h1.r2,by rw[hS3,q_],hT,h1.f⟩
   exact(f3 z fun e=>hz (by rw[e];exact h1.f.2.2.2)).trans (h1.fr z hz)
  have p5:=(HJ3.out.fr b5 hl5).trans j5
  have hnlt:¬ (i:Int)<(D1.length:Int)+(D2.length:Int):=by omega
  clear hS3 f3 HJ1 HVL hvl hDLl h4 h5 HI hT mt2 n8t hi hfi h2 hin HV1 hDne hne
  (repeat'(first|refine Ctl ?_|((with_reducible refine k_ hK ?_);clear hK hE K E)|((with_reducible refine bZ (fun h=>?_) (fun h=>?_))<;>(try(exfalso;omega)))|(((with_reducible refine ab fun K E hK hE=>?_))<;>(try simp(disch:=omega) only[go_sem,seval,hA2l,hnlt, *]))))
  refine iR 12 (ac) ?_
  refine aY (fun f env s'=>∃(i:Nat) (g1 g2:Nat) (e:List (Int×Bool)) (jc:JS) (v:VV),i<=A2.length/\f+i=A2.length/\(jc.A.length<=8+i/\jc.D.length<=8+i/\jc.t.length<=i)/\Hid (JI u1 s' b8 bt g1 g2 e jc/\JT u1 s' v g2 jc.t/\lS ds A1 D1 ((A2.zip D2).drop i) jc=some jq)/\env 0=.ptr x 0/\env 4=.ptr b4 0/\env 5=.ptr b5 0/\env 6=.ptr b6 0/\env 8=.ptr b8 0/\env 9=.mp bt/\env 12=v/\env 51=.lst SA2 o3/\env 52=.int .i64 A2.length/\env 53=.int .i64 i) A2.length
   ⟨0,g1,g2,e,⟨DL,[],D1,A1⟩,_,by omega,by omega,⟨hA18,hl8,Nat.le_refl 0⟩,o_ ⟨HJ3.out,.inl ⟨rfl,rfl⟩,HJ.out⟩,ac,ac,ac,ac,ac,ac,ac,ac,ac,ac⟩ ?_
  clear HJ3 HJ e0 e4 e5 e6 e8 e9
  rintro f env s' ⟨i,g1,g2,e,jc,v,hi,hfi,⟨bd1,bd2,bd3⟩,HI,e0,e4,e5,e6,e8,e9,e12,e51,e52,e53⟩
  by_cases h2:i<A2.length
  ·obtain⟨a,ha⟩:∃a,A2[i]?=some a:=⟨_,m_ h2⟩
   obtain⟨d,hd⟩:∃d,D2[i]?=some d:=⟨_,m_ (by omega)⟩
   have hxa:=HSA2.out i a ha
   have hxd:=HSD2.out i d hd
   obtain⟨J,T,F⟩:=HI.out
   obtain⟨q',hst,F'⟩:=EG ha hd F
   have p4:=(J.fr b4 hl4).trans j4
   have p5:=(J.fr b5 hl5).trans j5
   have px:=(J.fr x HM1.out.xl).trans hx
   have hz2:=HSZ4.out d (.inr (y_ hd))
   have HJJ:=o_ J
   have HF':=o_ F'
   have HST:=o_ hst
   clear HI J F F' hst ha hd
   rcases lk a A1 with ⟨hix,hno⟩|⟨k,hix,hk⟩
   ·have wix:=WIX.out s' a
    rw[hix]at wix
    have wct:=WCT.out s' d
    by_cases hdm:d∈D1
    ·rw[decide_eq_true hdm]at wct
     obtain⟨k,hfk,hqe⟩:=ve HST.out hix hdm
     have HFN:=o_ (hqe ▸ HF'.out)
     have pxs:s' x=.obj 73 (spC c q ds a1):=by rw[px];unfold spC;rw[HSZE.out]
     have wfr:SRet Tryz.prog 38 [.ptr x 0,.int .i64 4,.mp bt] s' (.tup [.int .i64 (k:Int),.bool true]) s':=M8 s' x c q bt a1 ds pxs hd8 HJJ.out.tk HJJ.out.mt 4 k hfk
     have mt:=HJJ.out.mt
     have HTT:=o_ T
     clear hix hno hdm hfk hqe pxs T
     (repeat'(first|(with_reducible refine aR 26 ?_)|refine Ctl ?_|((with_reducible refine k_ hK ?_);clear hK hE K E)|((with_reducible refine bZ (fun h=>?_) (fun h=>?_))<;>(try(exfalso;first|assumption|omega)))|(((with_reducible first|refine ab fun K E hK hE=>?_|refine ae kB (wix) ?_|refine ae tL (wct) ?_|refine ae Qj (wfr) ?_))<;>(try simp(disch:=omega) only[go_sem,seval,hA2l,hxa,hxd,hz2, *]))))
     unfold bC
     obtain⟨J6,T6⟩:=HJJ.out.tak HTT.out k
     refine bE fun S6 hS6=>?_
     rw[<- hS6]at J6 T6
     have HJ6:=o_ J6
     clear hS6 J6 mt wix wct wfr p4 p5 px HTT
     rcases T6 with ⟨rfl,ht0⟩|⟨gt,rfl,rt,ngt,fgt⟩
     ·have HT0:=o_ ht0
      clear ht0
      (repeat'(first|(with_reducible refine aR 27 ?_)|refine Ctl ?_|((with_reducible refine k_ hK ?_);clear hK hE K E)|((first|(with_reducible refine ab fun K E hK hE=>?_)|((with_reducible refine fG (fun bM hM=>?_))))<;>(try simp(disch:=omega) only[go_sem,seval,List.flatten_cons,List.flatten_nil,List.append_nil, *]))))
      unfold bC
      have H7:=HJ6.out.app0 HT0.out hM k
      obtain⟨J7,T7⟩:=H7
      try dsimp only at J7
      try dsimp only at T7
      refine bE fun S7 hS7=>?_
      rw[<- hS7]at J7 T7
      have p8:=J7.o8
      have r1:=J7.r1
      dsimp only at p8 r1
      have hal:(jc.A.map fun x=>VV.str x).length=jc.A.length:=z_ _
      have n81:=J7.ne.2.1.1
      have HJ7:=o_ (And.intro J7 T7)
      clear hS7 J7 T7 hM
      (repeat'(first|(with_reducible first|refine aR 28 ?_|(refine k_ hK ?_;clear hK hE K E))|((first|(with_reducible refine ab fun K E hK hE=>?_)|((with_reducible refine cJ (fun bM hM=>?_));(try(obtain⟨_,_⟩:=nef hM (a:=b8) (by rw[j_ _ _ n81,p8];simp)))))<;>(try simp(disch:=omega) only[go_sem,seval,hal,List.flatten_cons,List.flatten_nil,List.append_nil, *]))))
      unfold bC
      obtain⟨J8,T8⟩:=HJ7.out.1.appA HJ7.out.2 hM a
      try dsimp only at J8
      try dsimp only at T8
      refine bE fun S8 hS8=>?_
      rw[<- hS8]at J8 T8
      clear p8 r1
      have p8:=J8.o8
      have r2:=J8.r2
      dsimp only at p8 r2
      have hdl:(jc.D.map fun(k:Nat)=>VV.int .i64 (k:Int)).length=jc.D.length:=z_ _
      have n82:=J8.ne.2.2.1.1
      have HJ8:=o_ (And.intro J8 T8)
      clear hS8 J8 T8 hM HJ7
      (repeat'(first|refine Ctl ?_|((with_reducible refine k_ hK ?_);clear hK hE K E)|((first|(with_reducible refine ab fun K E hK hE=>?_)|((with_reducible refine cJ (fun bM hM=>?_));(try(obtain⟨_,_⟩:=nef hM (a:=b8) (by rw[j_ _ _ n82,p8];simp)))))<;>(try simp(disch:=omega) only[go_sem,seval,hdl,List.flatten_cons,List.flatten_nil,List.append_nil, *]))))
      have H9:=HJ8.out.1.appD HJ8.out.2 hM k
      all_goals exact⟨f - 1,by omega,i+1,_,_,_,_,_,by omega,by omega,(by simp;omega),o_ ⟨H9.1,H9.2,HFN.out⟩,ac,ac,ac,ac,ac,ac,ac,ac,ac,ac⟩
     ·have hti:(List.map (fun(k:Nat)=>VV.int .i64 (k:Int)) jc.t).length=jc.t.length:=z_ _
      (repeat'(first|(with_reducible refine aR 27 ?_)|refine Ctl ?_|((with_reducible refine k_ hK ?_);clear hK hE K E)|((first|(with_reducible refine ab fun K E hK hE=>?_)|((with_reducible refine cJ (fun bM hM=>?_))))<;>(try simp(disch:=omega) only[go_sem,seval,hti,List.flatten_cons,List.flatten_nil,List.append_nil, *]))))
      unfold bC
      have H7:=HJ6.out.appT rt ngt fgt hM k
      clear rt
      obtain⟨J7,T7⟩:=H7
      try dsimp only at J7
      try dsimp only at T7
      refine bE fun S7 hS7=>?_
      rw[<- hS7]at J7 T7
      have p8:=J7.o8
      have r1:=J7.r1
      dsimp only at p8 r1
      have hal:(jc.A.map fun x=>VV.str x).length=jc.A.length:=z_ _
      have n81:=J7.ne.2.1.1
      have HJ7:=o_ (And.intro J7 T7)
      clear hS7 J7 T7 hM
      (repeat'(first|(with_reducible first|refine aR 28 ?_|(refine k_ hK ?_;clear hK hE K E))|((first|(with_reducible refine ab fun K E hK hE=>?_)|((with_reducible refine cJ (fun bM hM=>?_));(try(obtain⟨_,_⟩:=nef hM (a:=b8) (by rw[j_ _ _ n81,p8];simp)))))<;>(try simp(disch:=omega) only[go_sem,seval,hal,List.flatten_cons,List.flatten_nil,List.append_nil, *]))))
      unfold bC
      obtain⟨J8,T8⟩:=HJ7.out.1.appA HJ7.out.2 hM a
      try dsimp only at J8
      try dsimp only at T8
      refine bE fun S8 hS8=>?_
      rw[<- hS8]at J8 T8
      clear p8 r1
      have p8:=J8.o8
      have r2:=J8.r2
      dsimp only at p8 r2
      have hdl:(jc.D.map fun(k:Nat)=>VV.int .i64 (k:Int)).length=jc.D.length:=z_ _
      have n82:=J8.ne.2.2.1.1
      have HJ8:=o_ (And.intro J8 T8)
      clear hS8 J8 T8 hM HJ7
      (repeat'(first|refine Ctl ?_|((with_reducible refine k_ hK ?_);clear hK hE K E)|((first|(with_reducible refine ab fun K E hK hE=>?_)|((with_reducible refine cJ (fun bM hM=>?_));(try(obtain⟨_,_⟩:=nef hM (a:=b8) (by rw[j_ _ _ n82,p8];simp)))))<;>(try simp(disch:=omega) only[go_sem,seval,hdl,List.flatten_cons,List.flatten_nil,List.append_nil, *]))))
      have H9:=HJ8.out.1.appD HJ8.out.2 hM k
      all_goals exact⟨f - 1,by omega,i+1,_,_,_,_,_,by omega,by omega,(by simp;omega),o_ ⟨H9.1,H9.2,HFN.out⟩,ac,ac,ac,ac,ac,ac,ac,ac,ac,ac⟩
    ·rw[decide_eq_false hdm]at wct
     have hqe:=yA HST.out hix hdm
     have HFN:=o_ (hqe ▸ HF'.out)
     clear hix hno hdm hqe
     rcases T with ⟨rfl,ht0⟩|⟨gt,rfl,rt,ngt,fgt⟩
     ·have HT0:=o_ ht0
      clear ht0
      (repeat'(first|(with_reducible refine aR 27 ?_)|refine Ctl ?_|((with_reducible refine k_ hK ?_);clear hK hE K E)|((with_reducible refine bZ (fun h=>?_) (fun h=>?_))<;>(try(exfalso;first|assumption|omega)))|((first|(with_reducible first|refine ab fun K E hK hE=>?_|refine ae kB (wix) ?_|refine ae tL (wct) ?_)|((with_reducible refine fG (fun bM hM=>?_))))<;>(try simp(disch:=omega) only[go_sem,seval,hA2l,hxa,hxd,hz2,List.flatten_cons,List.flatten_nil,List.append_nil, *]))))
      unfold bC
      have H7:=HJJ.out.app0 HT0.out hM d
      clear wix wct p4 p5 px
      obtain⟨J7,T7⟩:=H7
      try dsimp only at J7
      try dsimp only at T7
      refine bE fun S7 hS7=>?_
      rw[<- hS7]at J7 T7
      have p8:=J7.o8
      have r1:=J7.r1
      dsimp only at p8 r1
      have hal:(jc.A.map fun x=>VV.str x).length=jc.A.length:=z_ _
      have n81:=J7.ne.2.1.1
      have HJ7:=o_ (And.intro J7 T7)
      clear hS7 J7 T7 hM
      (repeat'(first|(with_reducible first|refine aR 28 ?_|(refine k_ hK ?_;clear hK hE K E))|((first|(with_reducible refine ab fun K E hK hE=>?_)|((with_reducible refine cJ (fun bM hM=>?_));(try(obtain⟨_,_⟩:=nef hM (a:=b8) (by rw[j_ _ _ n81,p8];simp)))))<;>(try simp(disch:=omega) only[go_sem,seval,hal,List.flatten_cons,List.flatten_nil,List.append_nil, *]))))
      unfold bC
      obtain⟨J8,T8⟩:=HJ7.out.1.appA HJ7.out.2 hM a
      try dsimp only at J8
      try dsimp only at T8
      refine bE fun S8 hS8=>?_
      rw[<- hS8]at J8 T8
      clear p8 r1
      have p8:=J8.o8
      have r2:=J8.r2
      dsimp only at p8 r2
      have hdl:(jc.D.map fun(k:Nat)=>VV.int .i64 (k:Int)).length=jc.D.length:=z_ _
      have n82:=J8.ne.2.2.1.1
      have HJ8:=o_ (And.intro J8 T8)
      clear hS8 J8 T8 hM HJ7
      (repeat'(first|refine Ctl ?_|((with_reducible refine k_ hK ?_);clear hK hE K E)|((first|(with_reducible refine ab fun K E hK hE=>?_)|((with_reducible refine cJ (fun bM hM=>?_));(try(obtain⟨_,_⟩:=nef hM (a:=b8) (by rw[j_ _ _ n82,p8];simp)))))<;>(try simp(disch:=omega) only[go_sem,seval,hdl,List.flatten_cons,List.flatten_nil,List.append_nil, *]))))
      have H9:=HJ8.out.1.appD HJ8.out.2 hM d
      all_goals exact⟨f - 1,by omega,i+1,_,_,_,_,_,by omega,by omega,(by simp;omega),o_ ⟨H9.1,H9.2,HFN.out⟩,ac,ac,ac,ac,ac,ac,ac,ac,ac,ac⟩
     ·have hti:(List.map (fun(k:Nat)=>VV.int .i64 (k:Int)) jc.t).length=jc.t.length:=z_ _
      (repeat'(first|(with_reducible refine aR 27 ?_)|refine Ctl ?_|((with_reducible refine k_ hK ?_);clear hK hE K E)|((with_reducible refine bZ (fun h=>?_) (fun h=>?_))<;>(try(exfalso;first|assumption|omega)))|((first|(with_reducible first|refine ab fun K E hK hE=>?_|refine ae kB (wix) ?_|refine ae tL (wct) ?_)|((with_reducible refine cJ (fun bM hM=>?_))))<;>(try simp(disch:=omega) only[go_sem,seval,hA2l,hxa,hxd,hz2,hti,List.flatten_cons,List.flatten_nil,List.append_nil, *]))))
      unfold bC
      have H7:=HJJ.out.appT rt ngt fgt hM d
      clear wix wct p4 p5 px rt
      obtain⟨J7,T7⟩:=H7
      try dsimp only at J7
      try dsimp only at T7
      refine bE fun S7 hS7=>?_
      rw[<- hS7]at J7 T7
      have p8:=J7.o8
      have r1:=J7.r1
      dsimp only at p8 r1
      have hal:(jc.A.map fun x=>VV.str x).length=jc.A.length:=z_ _
      have n81:=J7.ne.2.1.1
      have HJ7:=o_ (And.intro J7 T7)
      clear hS7 J7 T7 hM
      (repeat'(first|(with_reducible first|refine aR 28 ?_|(refine k_ hK ?_;clear hK hE K E))|((first|(with_reducible refine ab fun K E hK hE=>?_)|((with_reducible refine cJ (fun bM hM=>?_));(try(obtain⟨_,_⟩:=nef hM (a:=b8) (by rw[j_ _ _ n81,p8];simp)))))<;>(try simp(disch:=omega) only[go_sem,seval,hal,List.flatten_cons,List.flatten_nil,List.append_nil, *]))))
      unfold bC
      obtain⟨J8,T8⟩:=HJ7.out.1.appA HJ7.out.2 hM a
      try dsimp only at J8
      try dsimp only at T8
      refine bE fun S8 hS8=>?_
      rw[<- hS8]at J8 T8
      clear p8 r1
      have p8:=J8.o8
      have r2:=J8.r2
      dsimp only at p8 r2
      have hdl:(jc.D.map fun(k:Nat)=>VV.int .i64 (k:Int)).length=jc.D.length:=z_ _
      have n82:=J8.ne.2.2.1.1
      have HJ8:=o_ (And.intro J8 T8)
      clear hS8 J8 T8 hM HJ7
      (repeat'(first|refine Ctl ?_|((with_reducible refine k_ hK ?_);clear hK hE K E)|((first|(with_reducible refine ab fun K E hK hE=>?_)|((with_reducible refine cJ (fun bM hM=>?_));(try(obtain⟨_,_⟩:=nef hM (a:=b8) (by rw[j_ _ _ n82,p8];simp)))))<;>(try simp(disch:=omega) only[go_sem,seval,hdl,List.flatten_cons,List.flatten_nil,List.append_nil, *]))))
      have H9:=HJ8.out.1.appD HJ8.out.2 hM d
      all_goals exact⟨f - 1,by omega,i+1,_,_,_,_,_,by omega,by omega,(by simp;omega),o_ ⟨H9.1,H9.2,HFN.out⟩,ac,ac,ac,ac,ac,ac,ac,ac,ac,ac⟩
   ·have wix:=WIX.out s' a
    rw[hix]at wix
    have hkD:k<D1.length:=by have h1:=HR.out.1.ln;have:=(x_.1 hk).1;omega
    obtain⟨dk,hdk⟩:∃dk,D1[k]?=some dk:=⟨_,m_ hkD⟩
    have hv1:=HSD1.out k dk hdk
    have hz1:=HSZ4.out dk (.inl (y_ hdk))
    have hqe:=A5 HST.out hix
    rw[List.getD_eq_getElem?_getD,hdk]at hqe
    have HFN:=o_ (hqe ▸ HF'.out)
    clear hix hk hkD hdk hqe
    rcases T with ⟨rfl,ht0⟩|⟨gt,rfl,rt,ngt,fgt⟩
    ·have HT0:=o_ ht0
     clear ht0
     (repeat'(first|refine Ctl ?_|(with_reducible first|(refine k_ hK ?_;clear hK hE K E)|(refine k_ hKh ?_;clear hKh Kh)|refine ax 17 [] [0,1,2,3,4,5,6,7,8,9,10,11,12,13,14,15,16,17,18] hQe fun K E hK hE=>?_)|((with_reducible refine bZ (fun h=>?_) (fun h=>?_))<;>(try(exfalso;first|assumption|omega)))|((first|(with_reducible first|refine ab fun K E hK hE=>?_|refine ae kB (wix) ?_|refine aG fun Kh hKh=>?_)|((with_reducible refine fG (fun bM hM=>?_))))<;>(try simp(disch:=omega) only[go_sem,seval,hA2l,hxa,hxd,hv1,hz1,hz2,List.flatten_cons,List.flatten_nil,List.append_nil, *]))))
     have H7:=HJJ.out.app0 HT0.out hM dk
     all_goals exact⟨f - 1,by omega,i+1,_,_,_,_,_,by omega,by omega,(by simp;omega),o_ ⟨H7.1,H7.2,HFN.out⟩,ac,ac,ac,ac,ac,ac,ac,ac,ac,ac⟩
    ·have hti:(List.map (fun(k:Nat)=>VV.int .i64 (k:Int)) jc.t).length=jc.t.length:=z_ _
     (repeat'(first|refine Ctl ?_|(with_reducible first|(refine k_ hK ?_;clear hK hE K E)|(refine k_ hKh ?_;clear hKh Kh)|refine ax 17 [] [0,1,2,3,4,5,6,7,8,9,10,11,12,13,14,15,16,17,18] hQe fun K E hK hE=>?_)|((with_reducible refine bZ (fun h=>?_) (fun h=>?_))<;>(try(exfalso;first|assumption|omega)))|((first|(with_reducible first|refine ab fun K E hK hE=>?_|refine ae kB (wix) ?_|refine aG fun Kh hKh=>?_)|((with_reducible refine cJ (fun bM hM=>?_))))<;>(try simp(disch:=omega) only[go_sem,seval,hA2l,hxa,hxd,hv1,hz1,hz2,hti,List.flatten_cons,List.flatten_nil,List.append_nil, *]))))
     have H7:=HJJ.out.appT rt ngt fgt hM dk
     all_goals exact⟨f - 1,by omega,i+1,_,_,_,_,_,by omega,by omega,(by simp;omega),o_ ⟨H7.1,H7.2,HFN.out⟩,ac,ac,ac,ac,ac,ac,ac,ac,ac,ac⟩
  ·have hin:i=A2.length:=by omega
   obtain⟨J,T,F⟩:=HI.out
   have hdr:(A2.zip D2).drop i=[]:=List.drop_eq_nil_of_le (by rw[List.length_zip];omega)
   rw[hdr]at F
   have hjq:jc=jq:=by
    simp only[lS]at F
    injection F
   subst hjq
   have hA2p:0<A2.length:=List.length_pos_iff.2 hne2
   obtain⟨ht4,htn,htl⟩:=HT.out
   rcases T with ⟨rfl,ht0⟩|⟨gt,rfl,rt,ngt,fgt⟩
   ·rw[ht0]at htl
    simp at htl
    omega
   have hti:(List.map (fun(k:Nat)=>VV.int .i64 (k:Int)) jc.t).length=jc.t.length:=z_ _
   have HJJ:=o_ J
   have hnl:¬ (i:Int)<(A2.length:Int):=by omega
   clear HI F J hdr
   (repeat'(first|(with_reducible refine aR 30 ?_)|refine Ctl ?_|((with_reducible refine k_ hK ?_);clear hK hE K E)|((with_reducible refine bZ (fun h=>?_) (fun h=>?_))<;>(try(exfalso;omega)))|(((with_reducible refine ab fun K E hK hE=>?_))<;>(try simp(disch:=omega) only[go_sem,seval,hA2l,hnl, *]))))
   unfold bC
   refine kK 12 gt jc.t.length rt (ac) hti ?_
   rw[show (List.map (fun(k:Nat)=>VV.int .i64 (k:Int)) jc.t).map (fun y=>[y])=ak jc.t by simp[ak,Function.comp_def]]
   have J:=HJJ.out
   have nt8:¬ b8=gt:=fun e=>by have:=J.o8;rw[e,rt]at this;cases this
   have nt1:¬ g1=gt:=fun e=>by have:=J.r1;rw[e,rt]at this;cases this
   have nt2:¬ g2=gt:=fun e=>ngt e.symm
   obtain⟨n1,n2,n3,n4,n5,n6⟩:=J.ne
   have a8:(s'.set gt .free) b8=_:=(j_ _ _ nt8).trans J.o8
   have a1':(s'.set gt .free) g1=_:=(j_ _ _ nt1).trans J.r1
   have a2':(s'.set gt .free) g2=_:=(j_ _ _ nt2).trans J.r2
   refine lD (GSg.frz (i:=0) a8 rfl a1' (z_ _)) ?_
   simp only[List.set_cons_zero]
   rw[show (jc.A.map fun x=>VV.str x).map (fun y=>[y])=az jc.A by simp[az,Function.comp_def]]
   have b2':((((s'.set gt .free).set g1 .free).set b8 (.obj 30 [.lst (az jc.A) .no,.mrw g2 jc.D.length,.int .i64 0])) g2)=_:=(j_ _ _ n3.2).trans ((j_ _ _ n6.2).trans a2')
   refine lD (GSg.frz (i:=1) (q_ _ _ _) rfl b2' (z_ _)) ?_
   simp only[List.set_cons_zero,List.set_cons_succ]
   rw[show (List.map (fun(k:Nat)=>VV.int .i64 (k:Int)) jc.D).map (fun y=>[y])=ak jc.D by simp[ak,Function.comp_def]]
   refine bE fun SF hSF=>?_
   have o8:SF b8=.obj 30 [.lst (az jc.A) .no,.lst (ak jc.D) .no,.int .i64 0]:=by rw[hSF,q_]
   have fr:∀z,u1 z≠.free->SF z=u1 z:=fun z hz=>by
    have c1:¬ z=gt:=fun e=>hz (by rw[e];exact fgt)
    have c2:¬ z=g1:=fun e=>hz (by rw[e];exact J.f.2.1)
    have c3:¬ z=g2:=fun e=>hz (by rw[e];exact J.f.2.2.1)
    have c4:¬ z=b8:=fun e=>hz (by rw[e];exact J.f.1)
    rw[hSF,j_ _ _ c4,j_ _ _ c3,j_ _ _ c4,j_ _ _ c2,j_ _ _ c1,J.fr z hz]
   have MF:=HM1.out.more fr
   have p4:=(fr b4 hl4).trans j4
   have p5:=(fr b5 hl5).trans j5
   have p6:=(fr b6 hl6).trans j6
   have px:=(fr x HM1.out.xl).trans hx
   have hRF:=HR2.out.new fr
   have hD:=HDD.out
   obtain⟨hf,hh⟩:=HF.out
   have hlt1:=HR.out.1.d4.lt
   have hlt2:=HR.out.2.d4.lt
   have hltq:=HQ.out.d4.lt
   have hvl2:=HR.out.2.d4.vl
   have hvlt:=ht4.vl
   have hB:=HB.out
   have hvd:(aj o jc.t).length=(aj o D2).length:=by rw[hvl2,hvlt,htl]
   have hnd2:=cr hD HR.out.2.nd hlt2
   have wt:=vP MF hD D2 jc.t o4 .no hh (aJ hD hlt2) HMH.out hlt2 ht4.lt HR.out.2.nd htn hl82 (by omega) hvd HC.out (Nat.le_trans (Nat.le_add_right _ _) hB)
   have hgdep:DepF (aj o jc.t) (rnF (aX (aj o D2) (aj o jc.t)) fh):=by
    have e:=iH (A:=aj o D2) (A':=aj o jc.t) (B:=[]) (B':=[]) hvd rfl (by simpa using hnd2)
    simp only[List.append_nil]at e
    have h1:=qT (by_:=aX (aj o D2) (aj o jc.t)) hh
    rw[e]at h1
    exact h1
   rw[HV2.out,HKH.out]at wt
   obtain⟨G,hG⟩:∃G,G=rnF (aX (aj o D2) (aj o jc.t)) fh:=⟨_,rfl⟩
   rw[<- hG]at wt hgdep
   have HG:=o_ hG
   have hprod:DepF (aj o jc.D) (fun y=>ff y && G y):=fun y1 y2 e=>by
    have e1:=hf y1 y2 fun v hv=>e v (gk HS.out.1 v hv)
    have e2:=hgdep y1 y2 fun v hv=>e v (gk HS.out.2 v hv)
    show (ff y1 && G y1)=(ff y2 && G y2)
    rw[e1,e2]
   have hsub:=(di (aJ hD hltq) hprod (Nat.le_refl _)).mono (Nat.sub_le _ _)
   have hhf:=hf.hang (aJ hD hlt1)
   have hhg:=hgdep.hang (aJ hD ht4.lt)
   have hqa:=dj jc.A
   have hq8:¬ (jc.A.length:Int) > 8:=by have:=HQ.out.nm.2.2;omega
   have HMF2:=o_ MF
   have HRF:=o_ hRF
   have HPR:=o_ (And.intro hprod (And.intro hsub (And.intro hhf hhg)))
   have HFR:=o_ fr
   have h4:SF b4≠.free:=by rw[p4];simp
   have h6:SF b6≠.free:=by rw[p6];simp
   have h8:SF b8≠.free:=by rw[o8];simp
   unfold OpFC at wt
   generalize az jc.A=SA at *
   generalize ak jc.D=VD at *
   generalize ak jc.t=VT at *
   have HF8:=o_ J.f.1
   have HFS8:Hid (s b8≠.free->kF KK x m b8):=o_ fun e=>Classical.byContradiction fun hk=>e ((HR2.out.k.out b8 e hk).symm.trans J.f.1)
   clear hSF a8 a1' a2' b2' rt MF hRF hD hf hh hlt1 hlt2 hltq hvl2 hvlt hvd hnd2 hgdep hprod hsub hhf hhg fr J HJJ ht4 htn htl hB hnl hG
   (repeat'(first|refine Ctl ?_|((with_reducible refine k_ hK ?_);clear hK hE K E)|((with_reducible refine bZ (fun h=>?_) (fun h=>?_))<;>(try(exfalso;assumption)))|(((with_reducible refine ab fun K E hK hE=>?_))<;>(try simp(disch:=omega) only[go_sem,seval,hqa,hq8, *]))))
   refine ao xJ wt (fun a h=>?_)
   obtain⟨u3,K3,ns3⟩:=a
   try dsimp only at h
   have HR3:Hid (RelR s KK x m q c n B ns ds o (N+((aj o D2).length+2) * 2 ^ (aj o D2).length) G (u3,K3,m1,ns3)):=o_ (HRF.out.then (RelR.op HMF2.out h))
   have l4:=(h.k.out b4 h4 (HMF2.out.C.om.types p4 (by decide) (by decide) (by decide))).trans p4
   have l6:=(h.k.out b6 h6 (HMF2.out.C.om.types p6 (by decide) (by decide) (by decide))).trans p6
   have l8:=(h.k.out b8 h8 (HMF2.out.C.om.types o8 (by decide) (by decide) (by decide))).trans o8
   have lx:=(h.k.out x HMF2.out.xl HMF2.out.xk).trans px
   have wq:=dD u3 q K3.o K3.s.p HR3.out.M.C.qo
   obtain⟨hprod,hsub,hhf,hhg⟩:=HPR.out
   have wa:=vS HR3.out.M.C.om hhf hhg (bn h.pre HMF.out).1 h.mem h.cnt hsub HB.out
   have e1:ixF n ns3 ff=kf:=(bn h.pre HMF.out).2.trans HKF.out
   try dsimp only at wa
   rw[e1]at wa
   unfold OpFC at wa
   dsimp only at l4 l6 l8 lx ⊢
   generalize hkG:ixF n ns3 G=kG at *
   clear h wt p4 p5 p6 px o8 h4 h6 h8 hprod hsub hhf hhg e1 hkG
   simp only[go_sem,seval]
   (repeat'(first|refine Ctl ?_|(with_reducible first|(refine k_ hK ?_;clear hK hE K E)|(refine k_ hKh ?_;clear hKh Kh)|(refine k_ hKb (aC ?_);clear hKb Kb)|refine ax 34 [([0,1,2,3,5,6,7],4,[[5,6,7]]),([],8,[[],[]]),([9,10,11,12],13,[[11],[],[]])] [14] hQe fun K E hK hE=>?_)|((with_reducible refine bZ (fun h=>?_) (fun h=>?_))<;>(try(exfalso;assumption)))|(((with_reducible first|refine ab fun K E hK hE=>?_|refine ae dK (wq) ?_|refine ay fun Kh hKh=>?_|refine aB fun Kb hKb=>?_))<;>(try simp(disch:=omega) only[go_sem,seval, *]))))
   refine ao BI wa (fun a h=>?_)
   obtain⟨u4,K4,ns4⟩:=a
   try dsimp only at h
   have HR4:Hid (RelR s KK x m q c n B ns ds o (N+((aj o D2).length+2) * 2 ^ (aj o D2).length+2 ^ (aj o jc.D).length) (fun y=>ff y && G y) (u4,K4,m1,ns4)):=o_ (HR3.out.then (RelR.op HR3.out.M h))
   have q6:=(h.k.out b6 (by rw[l6];simp) (HR3.out.M.C.om.types l6 (by decide) (by decide) (by decide))).trans l6
   have q8:=(h.k.out b8 (by rw[l8];simp) (HR3.out.M.C.om.types l8 (by decide) (by decide) (by decide))).trans l8
   have n68:¬ b6=b8:=fun e=>hl6 (by rw[e];exact HF8.out)
   have n86:¬ b8=b6:=fun e=>n68 e.symm
   dsimp only at q6 q8 ⊢
   generalize hkp:ixF n ns4 (fun y=>ff y && G y)=kp at *
   have HKP:=o_ hkp
   clear h wa wq l4 l6 l8 lx hkp
   simp only[go_sem,seval,q8]
   (repeat'(first|refine Ctl ?_|(with_reducible first|(refine k_ hK ?_;clear hK hE K E)|(refine k_ hKh ?_;clear hKh Kh)|(refine k_ hKb (aC ?_);clear hKb Kb))|((with_reducible refine bZ (fun h=>?_) (fun h=>?_))<;>(try(exfalso;assumption)))|(((with_reducible first|refine ab fun K E hK hE=>?_|refine ay fun Kh hKh=>?_|refine aG fun Kh hKh=>?_|refine aB fun Kb hKb=>?_))<;>(try simp(disch:=omega) only[go_sem,seval, *]))))
   all_goals(refine aq Gx hQ ?_)
   all_goals refine⟨_,_,Wk.refl _,Fg.refl _,(St.set _ b6 _,K4,m1,ns4),?_,rfl,?_⟩
   ·have e:(ixF n ns4 fun y=>ff y && rnF (aX (aj o D2) (aj o jc.t)) fh y)=kp:=by rw[<- HG.out];exact HKP.out
    show _=SEnd.ret (.tup [.agg [.lst SA .no,.lst VD .no,.int .i64 ((ixF n ns4 (fun y=>ff y && rnF (aX (aj o D2) (aj o jc.t)) fh y):Nat):Int)],.int .i64 0])
    rw[e]
   ·rw[<- HG.out]
    refine HR4.out.finG fun z hz=>?_
    by_cases e6:z=b6
    ·subst e6;exact .inr ⟨⟨_,q6⟩,fun e=>absurd G0.out.2 e⟩
    by_cases e8:z=b8
    ·subst e8;exact .inr ⟨⟨_,q8⟩,HFS8.out⟩
    left
    rw[j_ _ _ e6,j_ _ _ e8]
end Go.Proofs.YtohnaepcgnbaiaaGreatDoor
namespace Go.Proofs.YtohnaepcgnbaiaaGreatDoor
open Go.RowKit
attribute [-go_sem] bJ cX bH bG aT cU cT
section
variable {s u : St} {K : OB} {x m q c : Nat} {ns : Td} {i N N' : Nat} {A A2 : TV} {D D2 : TW}
theorem RLaw.join (L:RLaw s u K x m q c ns i N){S S2 S':TW->Prop}{f g:Tf}{k k2:Nat}(hT:Tells (oR i) D S f)(hk:Nod ns f k)(o1 o2:Own)(hn:bi A)(hl:A.length=D.length)(hd:D.Nodup)(h4:∀d,d∈D->d<4)(hne:A≠[])
  (hT2:Tells (oR i) D2 S2 g) (hk2:Nod ns g k2) (o3 o4:Own) (hn2:bi A2) (hl2:A2.length=D2.length) (hd2:D2.Nodup) (h42:∀d,d∈D2->d<4) (hne2:A2≠[])
  {jq:JS} (hj:lS dsR A D (A2.zip D2) ⟨D++D2,[],D,A⟩=some jq) (hnq:bi jq.A) (hlq:jq.A.length=jq.D.length) (hdq:jq.D.Nodup) (h4q:∀d,d∈jq.D->d<4) (h4t:∀d,d∈jq.t->d<4) (htn:jq.t.Nodup) (htl:jq.t.length=D2.length) (hs1:∀k,k∈D->k∈jq.D) (hs2:∀k,k∈jq.t->k∈jq.D)
  (hS:∀G,Tells (oR i) jq.t S2 G->Tells (oR i) jq.D S' (fun y=>f y && G y))
  (hN:N+(2 * D2.length+2) * 2 ^ (2 * D2.length)+2 ^ (2 * jq.D.length)<=N') (hB:N'<=65536) :
  SCalls Tryz.prog 13 [.ptr x 0,.agg [.lst (az A) o1,.lst (ak D) o2,.int .i64 (k:Nat)],.agg [.lst (az A2) o3,.lst (ak D2) o4,.int .i64 (k2:Nat)]] u fun w u'=>∃a:tU,w=.ret (.tup [.agg (dM jq.A jq.D a.1.2.2.2.2),.int .i64 0])/\u'=a.1.1/\ResT s u ns x q c i N' jq.D S' a:=by
 have hvl:=dE L.i3 h42
 have hvq:=dE L.i3 h4q
 have h:=Fp (by omega) L.M L.D (by decide) A o1 D o2 (L.r4 hn hl hd h4) hne hT.dep hk.mem A2 o3 D2 o4 (L.r4 hn2 hl2 hd2 h42) hne2 hT2.dep hk2.mem hj (L.r4 hnq hlq hdq h4q) (xB L.i3 h4t) htn htl hs1 hs2 L.n (by rw[hvl,hvq];omega)
 rw[hk.ix,hk2.ix,hvl,hvq]at h
 refine SCalls.mono (h:=h) ?_
 rintro w u' ⟨a,rfl,rfl,h⟩
 exact⟨_,rfl,rfl,L.res h hN (hS _ (hT2.turn L.D htl (fun k hk=>⟨by have:=h42 k hk;show k<7;omega,L.w2 (by have:=h42 k hk;omega)⟩) (fun k hk=>L.w2 (by have:=h4t k hk;omega)) hd2))⟩
end
end Go.Proofs.YtohnaepcgnbaiaaGreatDoor
namespace Go.Proofs.YtohnaepcgnbaiaaGreatDoor
open Go.RowKit
attribute [-go_sem] bJ cX bH bG aT cU cT
theorem fc:((0:Nat):Int)=0:=rfl
theorem fb:((1:Nat):Int)=1:=rfl
theorem eZ:((2:Nat):Int)=2:=rfl
theorem eY:((3:Nat):Int)=3:=rfl
theorem kZ:bi [[120],[121],[122]]:=⟨by decide,by decide,by decide⟩
def aw2:TU:=[[2,3],[2,0],[1,1]]
def awJ:TU:=[[1,2,0],[1,2,3]]
theorem vK:br awJ=[[1,2,0],[1,2,3]]:=by rfl
theorem E9 {o:TU}{f G:Tf}(hf:Tells o [0,1] (·∈[[1,2]]) f)(hG:Tells o [1,2] (·∈aw2) G):Tells o [0,1,2] (·∈awJ) (fun y=>f y && G y):=fun x=>by
 rw[Bool.and_eq_true,hf x,hG x]
 simp only[List.map_cons,List.map_nil]
 generalize vN o x 0=p
 generalize vN o x 1=q
 generalize vN o x 2=r
 simp only[aw2,awJ,AT,List.cons.injEq,List.not_mem_nil,or_false,and_true]
 omega
abbrev rv2 (a b:TT)(d e:Int)(k:Nat):Tb:=[.lst [[.str a],[.str b]] .no,.lst [[.int .i64 d],[.int .i64 e]] .no,.int .i64 (k:Int)]
abbrev rv3 (a b c:TT)(d e f:Int)(k:Nat):Tb:=[.lst [[.str a],[.str b],[.str c]] .no,.lst [[.int .i64 d],[.int .i64 e],[.int .i64 f]] .no,.int .i64 (k:Int)]
theorem BT:eX aw2 .full=[[.lst [[.int .i64 2],[.int .i64 3]] .full],[.lst [[.int .i64 2],[.int .i64 0]] .full],[.lst [[.int .i64 1],[.int .i64 1]] .full]]:=rfl
theorem gg (s:St):SRet Tryz.prog 7 [] s (.bool true) s:=by
 obtain⟨i,hi3,wb⟩:=pj s 0
 refine am Tryz.func7 rfl Tryz.ntmps7 rfl fun Q hQ hQe=>?_
 (repeat'(first|refine Ctl ?_|((with_reducible refine k_ hK ?_);clear hK hE K E)|(((with_reducible refine ab fun K E hK hE=>?_))<;>(try simp(disch:=omega) only[go_sem,seval, *]))))
 refine ao Sd wb (fun a h=>?_)
 obtain⟨u1,KK,q,c,x⟩:=a
 have L:=RLaw.of h hi3
 dsimp only at L ⊢
 clear h wb
 have w:=L.make .full .full ee rfl (by decide) (by decide) [[1,2]] (eX [[1,2]] .full) .full (D:=[0,1]) (N':=22) (by decide) (fun i t h=>⟨_,mz h⟩) sP (by decide) (by decide) (by decide)
 simp only[az,ak,eX,List.map_cons,List.map_nil,fc,fb,eZ,eY]at w
 have HL:=o_ L
 clear L
 simp only[go_sem,seval]
 (repeat'(first|refine Ctl ?_|((with_reducible refine k_ hK ?_);clear hK hE K E)|((with_reducible refine bZ (fun h=>?_) (fun h=>?_))<;>(try(exfalso;assumption)))|(((with_reducible refine ab fun K E hK hE=>?_))<;>(try simp(disch:=omega) only[go_sem,seval, *]))))
 refine ao xK w (fun a h=>?_)
 obtain⟨⟨u2,K2,m2,ns2,kp⟩,f1⟩:=a
 have L2:=h.L
 have T1:=h.T
 have n1:=h.nd
 dsimp only at L2 T1 n1 ⊢
 clear h w HL
 simp only[go_sem,seval]
 (repeat'(first|refine Ctl ?_|((with_reducible refine k_ hK ?_);clear hK hE K E)|((first|(with_reducible refine ab fun K E hK hE=>?_)|((with_reducible refine au (fun b hb=>?_))))<;>(try simp(disch:=omega) only[go_sem,seval, *]))))
 obtain⟨b3,hb3⟩:∃z,z=b:=⟨_,rfl⟩
 subst hb3
 have fb3:u2 b3=.free:=hb
 obtain⟨v2,huv2⟩:∃z,z=u2.set b3 (.obj 30 (rv2 [120] [121] 0 1 kp)):=⟨_,rfl⟩
 rw[<- huv2]
 have gv2:∀z,u2 z≠.free->v2 z=u2 z:=fun z hz=>by rw[huv2,j_ _ _ (nef fb3 hz).1]
 have kb3:v2 b3=.obj 30 (rv2 [120] [121] 0 1 kp):=by rw[huv2,q_]
 try simp only[rv2]at kb3
 try simp only[rv3]at kb3
 clear huv2 hb fb3
 have w:=(L2.more gv2).make .full .full qn rfl (by decide) (by decide) aw2 (eX aw2 .full) .full (D:=[0,2]) (N':=82) (by decide) (fun i t h=>⟨_,mz h⟩) sP (by decide) (by decide) (by decide)
 rw[BT]at w
 simp only[az,ak,dM,List.map_cons,List.map_nil,fc,fb,eZ,eY]at w
 have HT1:=o_ (And.intro T1 n1)
 clear L2 gv2 T1 n1
 refine ao xK w (fun a h=>?_)
 obtain⟨⟨u3,K3,m3,ns3,kq⟩,f2⟩:=a
 have L3:=h.L
 have T2:=h.T
 have n2:=h.nd
 have n1:=HT1.out.2.app h.pre
 have k3:=h.own b3 _ kb3
 dsimp only at L3 T2 n2 n1 k3 ⊢
 have h3:u3 b3≠.free:=by rw[k3];simp
 clear h w kb3
 simp only[go_sem,seval]
 (repeat'(first|refine Ctl ?_|((with_reducible refine k_ hK ?_);clear hK hE K E)|((first|(with_reducible refine ab fun K E hK hE=>?_)|((with_reducible refine au (fun b hb=>?_));(try(obtain⟨_,_⟩:=nef hb h3))))<;>(try simp(disch:=omega) only[go_sem,seval, *]))))
 obtain⟨b5,hb5⟩:∃z,z=b:=⟨_,rfl⟩
 subst hb5
 have fb5:u3 b5=.free:=hb
 obtain⟨v3,huv3⟩:∃z,z=u3.set b5 (.obj 30 (rv2 [121] [122] 0 2 kq)):=⟨_,rfl⟩
 rw[<- huv3]
 have gv3:∀z,u3 z≠.free->v3 z=u3 z:=fun z hz=>by rw[huv3,j_ _ _ (nef fb5 hz).1]
 have kb5:v3 b5=.obj 30 (rv2 [121] [122] 0 2 kq):=by rw[huv3,q_]
 try simp only[rv2]at kb5
 try simp only[rv3]at kb5
 clear huv3 hb fb5
 have k3:=(gv3 b3 h3).trans k3
 have w:=(L3.more gv3).join HT1.out.1 n1 .no .no ee rfl (by decide) (by decide) (by decide) T2 n2 .no .no qn rfl (by decide) (by decide) (by decide) (jq:=⟨[0,1,0,2],[1,2],[0,1,2],[[120],[121],[122]]⟩) (S':=(·∈awJ)) (N':=242) rfl kZ rfl (by decide) (by decide) (by decide) (by decide) rfl (by decide) (by decide) (fun G hG=>E9 HT1.out.1 hG) (by decide) (by decide)
 simp only[az,ak,dM,List.map_cons,List.map_nil,fc,fb,eZ,eY]at w
 clear L3 gv3 T2 n1 n2 HT1
 refine ao xM w (fun a h=>?_)
 obtain⟨⟨u4,K4,m4,ns4,kj⟩,f3⟩:=a
 have L4:=h.L
 have T4:=h.T
 have n4:=h.nd
 dsimp only at L4 T4 n4 ⊢
 have k3:=h.own b3 _ k3
 have k5:=h.own b5 _ kb5
 dsimp only at k3 k5
 have h3:u4 b3≠.free:=by rw[k3];simp
 have h5:u4 b5≠.free:=by rw[k5];simp
 clear h w kb5
 simp only[go_sem,seval]
 (repeat'(first|refine Ctl ?_|((with_reducible refine k_ hK ?_);clear hK hE K E)|((first|(with_reducible refine ab fun K E hK hE=>?_)|((with_reducible refine au (fun b hb=>?_));(try(obtain⟨_,_⟩:=nef hb h3;obtain⟨_,_⟩:=nef hb h5))))<;>(try simp(disch:=omega) only[go_sem,seval, *]))))
 obtain⟨b7,hb7⟩:∃z,z=b:=⟨_,rfl⟩
 subst hb7
 have fb7:u4 b7=.free:=hb
 obtain⟨v4,huv4⟩:∃z,z=u4.set b7 (.obj 30 (rv3 [120] [121] [122] 0 1 2 kj)):=⟨_,rfl⟩
 rw[<- huv4]
 have gv4:∀z,u4 z≠.free->v4 z=u4 z:=fun z hz=>by rw[huv4,j_ _ _ (nef fb7 hz).1]
 have kb7:v4 b7=.obj 30 (rv3 [120] [121] [122] 0 1 2 kj):=by rw[huv4,q_]
 try simp only[rv2]at kb7
 try simp only[rv3]at kb7
 clear huv4 hb fb7
 have w:=(L4.more gv4).tuples T4 n4 .no .no kZ rfl (by decide) (by decide) (by decide) (most:=9) (N':=494) (by decide) (by rw[vK];decide) (by decide) (by decide)
 simp only[az,ak,List.map_cons,List.map_nil,fc,fb,eZ,eY]at w
 have hs:=fun(u:St)=>tT (br awJ) [[1,2,0],[1,2,3]] .no .full .full (by rw[vK];exact⟨by decide,by decide⟩) ⟨by decide,by decide⟩ u
 rw[decide_eq_true vK]at hs
 have HS:=o_ hs
 clear L4 gv4 T4 n4 k3 k5 h3 h5 hs
 generalize cu (br awJ)=RJ at *
 refine ao lW w (fun a h=>?_)
 obtain⟨u5,K5,m5,ns5⟩:=a
 have HFG:=o_ h.1.fg
 dsimp only at HFG ⊢
 have hs:=HS.out u5
 simp only[zH,aI,List.map_cons,List.map_nil]at hs
 clear h w HS
 simp only[go_sem,seval]
 (repeat'(first|refine Ctl ?_|((with_reducible refine k_ hK ?_);clear hK hE K E)|(((with_reducible first|refine ab fun K E hK hE=>?_|refine ae oZ (hs) ?_))<;>(try simp(disch:=omega) only[go_sem,seval, *]))))
 all_goals(refine aq ND hQ ?_)
 all_goals exact⟨_,_,Wk.refl _,HFG.out,rfl,rfl⟩
end Go.Proofs.YtohnaepcgnbaiaaGreatDoor
namespace Go.Proofs.YtohnaepcgnbaiaaGreatDoor
open Go.RowKit
def ixP (p:Tg):TW->Int
 |[]=>-1
 |x::l=>if p x then 0 else(if ixP p l<0 then -1 else ixP p l+1)
theorem ti {p:Tg}:∀{l:TW},(∀x,x∈l->p x=false)->ixP p l=-1
 |[],_=>rfl
 |x::l,h=>by
  simp only[ixP]
  rw[if_neg (by rw[h x (by simp)];simp),ti fun y hy=>h y (by simp[hy])]
  rfl
theorem A7 {p:Tg}:∀{l:TW} {i x:Nat},(∀y,y∈l.take i->p y=false)->l[i]?=some x->p x=true->ixP p l=i
 |[],i,_,_,h,_=>by simp at h
 |y::l,0,x,_,h,hp=>by simp at h;subst h;simp[ixP,hp]
 |y::l,i+1,x,ha,h,hp=>by
  have h1:p y=false:=ha y (by simp)
  have h2:=A7 (l:=l) (i:=i) (x:=x) (fun z hz=>ha z (by simp[hz])) (by simpa using h) hp
  simp only[ixP]
  rw[if_neg (by rw[h1];simp),h2,if_neg (by omega)]
  omega
theorem EK {l:TW}{i k:Nat}(h:l[i]?=some k):(dv l)[i]?=some (.int .i64 (k:Int)):=by simp[dv,h]
theorem oz {l:TW}:(dv l).length=l.length:=by simp[dv]
theorem QD (s:St)(gb:Nat)(l:TW)(hg:s gb=.row 3 1 (dv l))(hn:l.length<=1000000000){g:FuncId}{caps:Tb}(canG:an Tryz.prog g)(p:Tg)(hp:∀d:Nat,SRet Tryz.prog g (.int .i64 (d:Int)::caps) s (.bool (p d)) s) :
  SRet Tryz.prog 74 [.mrw gb l.length,.fn g caps] s (.int .i64 (ixP p l)) s:=by
 have hil:=oz (l:=l)
 refine am Tryz.func74 rfl Tryz.ntmps74 rfl fun Q hQ hQe=>?_
 (repeat'(first|refine Ctl ?_|((with_reducible refine k_ hK ?_);clear hK hE K E)|(((with_reducible refine ab fun K E hK hE=>?_))<;>(try simp(disch:=omega) only[go_sem,seval,hil, *]))))
 refine aY (fun m env s'=>∃(i:Nat),i<=l.length/\m+i=l.length/\(∀x,x∈l.take i->p x=false)/\s'=s/\env 0=.mrw gb l.length/\env 1=.fn g caps/\env 7=.int .i64 l.length/\env 8=.int .i64 i) l.length
  ⟨0,by omega,by omega,by simp,rfl,ac,ac,ac,ac⟩ ?_
 rintro m env s' ⟨i,hi,hm,hall,rfl,e0,e1,e7,e8⟩
 by_cases hlt:i<l.length
 ·obtain⟨x,hx⟩:∃x,l[i]?=some x:=⟨_,m_ hlt⟩
  have hix:(dv l)[i * 1]?=some (.int .i64 (x:Int)):=by rw[Nat.mul_one];exact EK hx
  have htake:l.take (i+1)=l.take i++[x]:=by rw[List.take_add_one,hx];rfl
  have w:=hp x
  cases hpx:p x with
  |true=>
   have hres:=A7 hall hx hpx
   rw[hpx]at w
   clear hall htake hx hp
   (repeat'(first|refine Ctl ?_|((with_reducible refine k_ hK ?_);clear hK hE K E)|((with_reducible refine bZ (fun h=>?_) (fun h=>?_))<;>(try(exfalso;assumption)))|(((with_reducible first|refine ab fun K E hK hE=>?_|refine ae canG (w) ?_|refine d6 ?_))<;>(try simp(disch:=omega) only[go_sem,seval,hil,hix, *]))))
   all_goals(refine aq sF hQ ?_)
   all_goals exact⟨_,_,Wk.refl _,Fg.refl _,by rw[hres],rfl⟩
  |false=>
   have hall2:∀y,y∈l.take (i+1)->p y=false:=fun y hy=>by
    rw[htake]at hy
    rcases f_.1 hy with hy|hy
    ·exact hall y hy
    ·rw[a_]at hy;rw[hy];exact hpx
   rw[hpx]at w
   clear hall htake hx hp
   (repeat'(first|refine Ctl ?_|((with_reducible refine k_ hK ?_);clear hK hE K E)|((with_reducible refine bZ (fun h=>?_) (fun h=>?_))<;>(try(exfalso;assumption)))|(((with_reducible first|refine ab fun K E hK hE=>?_|refine ae canG (w) ?_|refine d6 ?_))<;>(try simp(disch:=omega) only[go_sem,seval,hil,hix, *]))))
   all_goals exact⟨m - 1,by omega,i+1,by omega,by omega,hall2,rfl,ac,ac,ac,ac⟩
 ·have hres:ixP p l=-1:=ti (by
   have:l.take i=l:=s_ (by omega)
   rw[this]at hall
   exact hall)
  clear hall hp
  (repeat'(first|refine Ctl ?_|((with_reducible refine k_ hK ?_);clear hK hE K E)|((with_reducible refine bZ (fun h=>?_) (fun h=>?_))<;>(try(exfalso;assumption)))|(((with_reducible refine ab fun K E hK hE=>?_))<;>(try simp(disch:=omega) only[go_sem,seval,hil, *]))))
  all_goals(refine aq sF hQ ?_)
  all_goals exact⟨_,_,Wk.refl _,Fg.refl _,by rw[hres],rfl⟩
theorem zh (p:Tg)(l:TW):(ixP p l=-1/\∀x,x∈l->p x=false)\/∃(k x:Nat),ixP p l=(k:Int)/\l[k]?=some x/\p x=true/\∀y,y∈l.take k->p y=false:=by
 induction l with
 |nil=>exact .inl ⟨rfl,by simp⟩
 |cons a l ih=>
  cases ha:p a with
  |true=>exact .inr ⟨0,a,by simp[ixP,ha],rfl,ha,by simp⟩
  |false=>
   simp only[ixP]
   rw[if_neg (by rw[ha];simp)]
   rcases ih with ⟨h,hn⟩|⟨k,x,h,hk,hp,hn⟩
   ·exact .inl ⟨by rw[h];rfl,by simpa [ha]using hn⟩
   ·exact .inr ⟨k+1,x,by rw[h,if_neg (by omega)];omega,by simpa using hk,hp,by simpa [ha]using hn⟩
def c7 (p:Tg)(l:TW):TW:=l.filter fun x=>!p x
theorem oo {p:Tg}{l:TW}(h:∀x,x∈l->p x=false):c7 p l=l:=List.filter_eq_self.2 fun x hx=>by rw[h x hx];rfl
theorem lj {p:Tg}{l:TW}{j x:Nat}(h:l[j]?=some x):c7 p (l.take (j+1))=c7 p (l.take j)++(if p x then [] else [x]):=by
 rw[c7,List.take_add_one,h,List.filter_append]
 show _++List.filter (fun x=>!p x) [x]=_
 cases hp:p x<;>simp[c7,hp]
theorem qs {p:Tg}{l:TW}:(c7 p l).length<=l.length:=List.length_filter_le _ _
structure DelI (p:Tg) (l:TW) (j i:Nat) (R:Tb):Prop where
 len:R.length=l.length
 hi:i=(c7 p (l.take j)).length
 hd:R.take i=dv (c7 p (l.take j))
 tl:R.drop j=dv (l.drop j)
 lt:i<j
theorem DelI.at {p:Tg}{l:TW}{j i:Nat}{R:Tb}(h:DelI p l j i R){x:Nat}(hx:l[j]?=some x):R[j]?=some (.int .i64 (x:Int)):=by
 have h1:=congrArg (fun z=>z[0]?) h.tl
 simp only[List.getElem?_drop,Nat.add_zero]at h1
 rw[h1]
 simp[dv,List.getElem?_drop,hx]
theorem DelI.skip {p:Tg}{l:TW}{j i:Nat}{R:Tb}(h:DelI p l j i R){x:Nat}(hx:l[j]?=some x)(hp:p x=true):DelI p l (j+1) i R:=by
 have e:=lj (p:=p) hx
 rw[hp,if_pos rfl,List.append_nil]at e
 refine⟨h.len,by rw[e];exact h.hi,by rw[e];exact h.hd,?_,by have:=h.lt;omega⟩
 rw[<- List.drop_drop,h.tl]
 simp[dv,List.map_drop]
theorem DelI.store {p:Tg}{l:TW}{j i:Nat}{R:Tb}(h:DelI p l j i R){x:Nat}(hx:l[j]?=some x)(hp:p x=false):DelI p l (j+1) (i+1) (List.take (i * 1) R++[.int .i64 (x:Int)]++List.drop (i * 1+1) R):=by
 have e:=lj (p:=p) hx
 rw[hp,if_neg (by simp)]at e
 have hj:j<l.length:=(x_.1 hx).1
 have hl:=h.len
 have hlt:=h.lt
 have hti:(List.take i R).length=i:=by rw[r_];omega
 rw[Nat.mul_one]
 refine⟨by simp;omega,by rw[e,p_,<- h.hi];rfl,?_,?_,by omega⟩
 ·rw[e,List.append_assoc,List.take_append,hti,show i+1 - i=1 by omega,s_ (by omega:(List.take i R).length<=i+1),h.hd]
  simp[dv]
 ·have h1:(List.take i R++[VV.int .i64 (x:Int)]).length=i+1:=by simp;omega
  rw[List.drop_append,h1,List.drop_of_length_le (by rw[h1];omega),List.nil_append,List.drop_drop,show i+1+(j+1 - (i+1))=j+1 by omega,<- List.drop_drop,h.tl]
  simp[dv,List.map_drop]
section
open Go.Lib Go.Deep
variable {w0 w : World} {G : Gh} {s : St} {b : Nat} {T : TypeId} {xs ys : Tb}
theorem Sim.row_junk (h:Sim w0 G w s)(hb:s b=.row T 1 ys)(o:Nat)(v:Value)(ho:ys.length<=o):Sim w0 G (w.setCell ⟨b,o,none⟩ v) s:=by
 have hob:=h.ok b
 rw[hb]at hob
 obtain⟨hB,hK,c,cap,hc,hq,hcs,hle,hm,hx⟩:=hob
 have:=h.set_row (ys:=ys) hb (w.setCell ⟨b,o,none⟩ v) c (c.setIfInBounds o v) hc ⟨rfl,rfl,rfl,by rw[nblk_setCell];exact Nat.le_refl _,fun k' hk=>blk_setCell_other w _ _ k' (by show k'≠b;omega)⟩ (nblk_setCell _ _ _) (by simp[World.setCell,Array.getElem?_modify,hc]) (fun k' hk=>blk_setCell_other w _ _ k' hk) (by simp) (by rw[hcs];exact hle) fun i x hi=>by
  obtain⟨h1,u,hu,hr⟩:=hx i x hi
  have hil:i<ys.length:=(x_.1 hi).1
  exact⟨h1,u,by rw[Array.getElem?_setIfInBounds_ne (by omega)];exact hu,hr⟩
 rwa [v_ _ _ _ hb]at this
theorem Sim.rows_junk (hb:s b=.row T 1 ys):∀(vs:List Value) (o:Nat) (w:World),Sim w0 G w s->ys.length<=o->Sim w0 G (w.setCells b o vs) s
 |[],_,_,h,_=>h
 |v::vs,o,w,h,ho=>Sim.rows_junk hb vs (o+1) _ (h.row_junk hb o v ho) (by omega)
theorem Sim.row_take (h:Sim w0 G w s)(hb:s b=.row T 1 xs)(i:Nat):Sim w0 G w (s.set b (.row T 1 (xs.take i))):=by
 have hob:=h.ok b
 rw[hb]at hob
 obtain⟨hB,hK,c,cap,hc,hq,hcs,hle,hm,hx⟩:=hob
 refine h.set_row (ys:=xs.take i) hb w c c hc (Below.refl _ _) rfl hc (fun _ _=>rfl) rfl (by rw[r_,hcs];omega) fun j x hj=>?_
 by_cases hji:j<i
 ·rw[List.getElem?_take_of_lt hji]at hj;exact hx j x hj
 ·rw[t_ (by rw[r_];omega)]at hj;cases hj
end
section
open Go.Lib
variable {w0 w : World} {G : Gh} {s : St} {b n i : Nat} {xs : Tb}
theorem CS (h:Sim w0 G w s)(hb:s b=.row 3 1 xs)(hl:xs.length=n)(hi:i<n){v:Value}(hv:R G v (.mrw b n)) :
  ∃cap,(Instr.sliceAt 28 v (some (.int .i64 (i:Int))) none none).run Tryz.prog w=.ok (.slice (some ⟨b,i,none⟩) (n - i) (cap - i)) w /\
   ∀ty,(Builtin.clear_ #[28] ty #[.slice (some ⟨b,i,none⟩) (n - i) (cap - i)]).run Tryz.prog w=.ok (.tuple #[]) (w.setCells b i (List.replicate (n - i) (.int .i64 0))):=by
 cases hv with
 |mrw _ _ cap sz hq hn=>
  have hob:=h.ok b
  rw[hb]at hob
  obtain⟨hB,hK,c,cap',hc,hq',hcs,hle,hm,hx⟩:=hob
  rw[hq]at hq'
  injection hq' with hq'
  injection hq' with hq1 hq2
  subst hq1 hq2
  refine⟨cap,?_,fun ty=>?_⟩
  ·have hbs:=eN (P:=Tryz.prog) (w:=w) (G:=G) (isS:=true) (cap:=cap) (len:=n) (a:=i) (b:=n) (lo:=some (.int .i64 (i:Int))) (hi:=none) (ulo:=some (.int .i64 (i:Int))) (uhi:=none) (.int _ _) trivial (by simp[ce]) rfl (by omega) hn
   unfold Instr.sliceAt
   simp only[Sem.run_bind,run_underlying Tryz.underlying28,Result.andThen_ok]
   unfold Instr.slice
   simp only[Sem.run_bind,run_underlying Tryz.underlying28,Result.andThen_ok,hbs,Tryz.sizeOf3,Sem.run_pure]
   rw[if_neg (by omega)]
   simp[cI]
  ·refine run_clear_slice w 28 3 ty (.int .i64 0) Tryz.underlying28 Tryz.zeroValue3 rfl rfl b i (n - i) (cap - i) (by omega) (fun j hj=>?_) fun j hj=>?_
   ·have hjc:i+j<c.size:=by rw[hcs];omega
    simp only[World.cell?,hc]
    rw[Array.getElem?_eq_getElem hjc]
    rfl
   ·simp[World.frozen?,hc]
end
theorem my {P:Program}{ops:Array Oper}{Q:Exit->Act->World->Prop}{rest:List Oper}{o:Oper}{a:Act}{w w':World}{v:Value}(hg:o.guard=none)(hrun:(execOp a.eval o).run P w=.ok (.value v) w')(h:wpList P ops Q rest (a.put o.dst v) w'):wpList P ops Q (o::rest) a w:=by
 unfold wpList
 rw[if_pos (by simp[Region.wanted,hg])]
 refine .inl ?_
 unfold Oper.wp
 rw[hrun]
 exact h
theorem MW {D:List Deferred}{k:List Itm}{Q:Pst}{N:Nat}{env:Env}{s:St}{gb n i:Nat}{xs:Tb}{t1 t2 t3 t4:TypeId}{p1 p2 p3 p4:String}{a1 a2 a3 a4:Array Edge}(h0:env 0=.mrw gb n)(h5:env 5=.int .i64 (i:Int))(hg:s gb=.row 3 1 xs)(hl:xs.length=n)(hi:i<n)(hN:38<N)
  (h:∀v,Kp Tryz.prog N D k Q .norm (put N (put N (put N env (some 36) (.mrw gb n)) (some 37) (.int .i64 (i:Int))) (some 38) (.raw v)) (s.set gb (.row 3 1 (xs.take i)))) :
  Kp Tryz.prog N D (.code (.region 11 #[{ dst:=some 36,op:=.move (.tmp 0),type:=t1,pos:=p1,after:=a1,guard:=none },{ dst:=some 37,op:=.move (.tmp 5),type:=t2,pos:=p2,after:=a2,guard:=none },{ dst:=some 38,op:=.slice 28 (.tmp 36) (some (.tmp 37)) none none,type:=t3,pos:=p3,after:=a3,guard:=none },{ dst:=none,op:=.call { callee:=.builtin .clear,args:=#[.tmp 38],argTypes:=#[28] },type:=t4,pos:=p4,after:=a4,guard:=none }] false)::k) Q .norm env s:=by
 intro w0 G w a hf hD hS
 refine wp_region_list ?_
 have hv0:=hf.rel 0
 rw[h0]at hv0
 have f1:=hf.put (some 36) hv0
 refine my rfl (v:=a.tmps.getD 0 undef) rfl ?_
 dsimp only
 have hd1:(a.put (some 36) (a.tmps.getD 0 undef)).defers=D:=(dc _ _ _).trans hD
 generalize a.put (some 36) (a.tmps.getD 0 undef)=a1 at *
 have e5:put N env (some 36) (.mrw gb n) 5=.int .i64 (i:Int):=by
  simp only[put]
  rw[if_pos (show 36<N by omega)]
  exact h5
 have g5:=f1.rel 5
 rw[e5]at g5
 have f2:=f1.put (some 37) g5
 refine my rfl (v:=a1.tmps.getD 5 undef) rfl ?_
 dsimp only
 have hd2:(a1.put (some 37) (a1.tmps.getD 5 undef)).defers=D:=(dc _ _ _).trans hd1
 generalize a1.put (some 37) (a1.tmps.getD 5 undef)=a2 at *
 have g36:=f2.rel 36
 have g37:=f2.rel 37
 have e36:put N (put N env (some 36) (.mrw gb n)) (some 37) (.int .i64 (i:Int)) 36=.mrw gb n:=by
  simp only[put]
  rw[if_pos (show 37<N by omega),if_pos (show 36<N by omega)]
  rfl
 have e37:put N (put N env (some 36) (.mrw gb n)) (some 37) (.int .i64 (i:Int)) 37=.int .i64 (i:Int):=by
  simp only[put]
  rw[if_pos (show 37<N by omega)]
  rfl
 rw[e36]at g36
 rw[e37]at g37
 have h37:a2.tmps.getD 37 undef=.int .i64 (i:Int):=by generalize a2.tmps.getD 37 undef=v at g37;cases g37;rfl
 obtain⟨cap,r1,r2⟩:=CS hS hg hl hi g36
 rw[<- h37]at r1
 refine my rfl (v:=.slice (some ⟨gb,i,none⟩) (n - i) (cap - i)) (w':=w) ?_ ?_
 ·show (execOp a2.eval _).run _ _=_
  unfold execOp
  simp only[Option.map_some,Option.map_none,Sem.run_bind]
  rw[show (Instr.sliceAt 28 (a2.eval (.tmp 36)) (some (a2.eval (.tmp 37))) none none).run Tryz.prog w=_ from r1]
  rfl
 have f3:=f2.put (some 38) (R.raw (G:=G) (.slice (some ⟨gb,i,none⟩) (n - i) (cap - i)))
 have hd3:(a2.put (some 38) (.slice (some ⟨gb,i,none⟩) (n - i) (cap - i))).defers=D:=(dc _ _ _).trans hd2
 dsimp only
 generalize a2.put (some 38) (.slice (some ⟨gb,i,none⟩) (n - i) (cap - i))=a3 at *
 have g38:=f3.rel 38
 have e38:put N (put N (put N env (some 36) (.mrw gb n)) (some 37) (.int .i64 (i:Int))) (some 38) (.raw (.slice (some ⟨gb,i,none⟩) (n - i) (cap - i))) 38=.raw (.slice (some ⟨gb,i,none⟩) (n - i) (cap - i)):=by
  simp only[put]
  rw[if_pos (show 38<N by omega)]
  rfl
 rw[e38]at g38
 have h38:a3.tmps.getD 38 undef=.slice (some ⟨gb,i,none⟩) (n - i) (cap - i):=by generalize a3.tmps.getD 38 undef=v at g38;cases g38;rfl
 have hS1:=Sim.rows_junk (q_ _ _ _) (List.replicate (n - i) (.int .i64 0)) i _ (hS.row_take hg i) (by rw[r_];omega)
 have hev:a3.eval (.tmp 38)=.slice (some ⟨gb,i,none⟩) (n - i) (cap - i):=h38
 refine my rfl (v:=.tuple #[]) (w':=w.setCells gb i (List.replicate (n - i) (.int .i64 0))) ?_ ?_
 ·unfold execOp
  simp[resolve,invoke,builtin,hev,r2]
 ·exact⟨G,.norm,_,_,Gh.le.refl G,trivial,f3.put none (R.tup (G:=G) #[] [] rfl (fun j v y hv=>by simp at hv)),hd3,hS1,h _⟩
theorem M9 (s:St)(gb:Nat)(l:TW)(hg:s gb=.row 3 1 (dv l))(hn:l.length<=1000000000){g:FuncId}{caps:Tb}(canG:an Tryz.prog g)(p:Tg)(hp:∀(R:Tb) (d:Nat),R.length=l.length->SRet Tryz.prog g (.int .i64 (d:Int)::caps) (s.set gb (.row 3 1 R)) (.bool (p d)) (s.set gb (.row 3 1 R))) :
  SRet Tryz.prog 42 [.mrw gb l.length,.fn g caps] s (.mrw gb (c7 p l).length) (s.set gb (.row 3 1 (dv (c7 p l)))):=by
 have hil:=oz (l:=l)
 have wix:=QD s gb l hg hn canG p (fun d=>by have:=hp (dv l) d hil;rwa [v_ _ _ _ hg]at this)
 rcases zh p l with ⟨hx,hall⟩|⟨k,x,hx,hk,hpk,hall⟩
 ·rw[hx]at wix
  rw[oo hall,v_ _ _ _ hg]
  clear hp hall
  refine am Tryz.func42 rfl Tryz.ntmps42 rfl fun Q hQ hQe=>?_
  (repeat'(first|refine Ctl ?_|((with_reducible refine k_ hK ?_);clear hK hE K E)|((with_reducible refine bZ (fun h=>?_) (fun h=>?_))<;>(try(exfalso;assumption)))|(((with_reducible first|refine ab fun K E hK hE=>?_|refine ae BD (wix) ?_))<;>(try simp(disch:=omega) only[go_sem,seval, *]))))
  all_goals(refine aq z6 hQ ?_)
  all_goals exact⟨_,_,Wk.refl _,Fg.refl _,rfl,rfl⟩
 ·rw[hx]at wix
  have hkl:k<l.length:=(x_.1 hk).1
  have hI:DelI p l (k+1) k (dv l):=by
   have e1:=oo hall
   have e2:=lj (p:=p) hk
   rw[hpk,if_pos rfl,List.append_nil,e1]at e2
   refine⟨hil,by rw[e2,r_];omega,by rw[e2];simp[dv,List.map_take],by simp[dv,List.map_drop],by omega⟩
  have HI:=o_ hI
  have HSG:=o_ (v_ s gb _ hg).symm
  have hne1:¬ (k:Int)=-1:=by omega
  clear hx hk hpk hall hI
  refine am Tryz.func42 rfl Tryz.ntmps42 rfl fun Q hQ hQe=>?_
  (repeat'(first|refine Ctl ?_|((with_reducible refine k_ hK ?_);clear hK hE K E)|((with_reducible refine bZ (fun h=>?_) (fun h=>?_))<;>(try(exfalso;assumption)))|(((with_reducible first|refine ab fun K E hK hE=>?_|refine ae BD (wix) ?_))<;>(try simp(disch:=omega) only[go_sem,seval,hne1, *]))))
  refine aY (fun m env s'=>∃(j i:Nat) (R:Tb),j<=l.length/\m+j=l.length/\i<=1000000000/\Hid (DelI p l j i R)/\s'=s.set gb (.row 3 1 R)/\env 0=.mrw gb l.length/\env 1=.fn g caps/\env 5=.int .i64 (i:Int)/\env 6=.int .i64 (j:Int)) (l.length - (k+1))
   ⟨k+1,k,dv l,by omega,by omega,by omega,HI,HSG.out,ac,ac,ac,ac⟩ ?_
  clear HI HSG wix hne1 hkl
  rintro m env s' ⟨j,i,R,hj,hm,hi9,HI,rfl,e0,e1,e5,e6⟩
  by_cases hlt:j<l.length
  ·obtain⟨x,hx⟩:∃x,l[j]?=some x:=⟨_,m_ hlt⟩
   have hix:R[j * 1]?=some (.int .i64 (x:Int)):=by rw[Nat.mul_one];exact HI.out.at hx
   have hRl:=HI.out.len
   have hij:=HI.out.lt
   have w:=hp R x hRl
   cases hpx:p x with
   |true=>
    have HN:=o_ (HI.out.skip hx hpx)
    rw[hpx]at w
    clear hx hp
    (repeat'(first|refine Ctl ?_|((with_reducible refine k_ hK ?_);clear hK hE K E)|((with_reducible refine bZ (fun h=>?_) (fun h=>?_))<;>(try(exfalso;assumption)))|(((with_reducible first|refine ab fun K E hK hE=>?_|refine ae canG (w) ?_|refine d6 ?_))<;>(try simp(disch:=omega) only[go_sem,seval,hRl,hix, *]))))
    all_goals exact⟨m - 1,by omega,j+1,i,R,by omega,by omega,by omega,HN,rfl,ac,ac,ac,ac⟩
   |false=>
    have HN:=o_ (HI.out.store hx hpx)
    rw[hpx]at w
    clear hx hp
    (repeat'(first|refine Ctl ?_|((with_reducible refine k_ hK ?_);clear hK hE K E)|((with_reducible refine bZ (fun h=>?_) (fun h=>?_))<;>(try(exfalso;assumption)))|(((with_reducible first|refine ab fun K E hK hE=>?_|refine ae canG (w) ?_|refine d6 ?_|refine dP ?_))<;>(try simp(disch:=omega) only[go_sem,seval,hRl,hix, *]))))
    all_goals exact⟨m - 1,by omega,j+1,i+1,_,by omega,by omega,by omega,HN,rfl,ac,ac,ac,ac⟩
  ·have hjl:j=l.length:=by omega
   have h1:=HI.out
   rw[hjl]at h1
   have hij:=h1.lt
   have hnl:¬ (j:Int)<(l.length:Int):=by omega
   have hRl:=h1.len
   have hd:=h1.hd
   have hi:=h1.hi
   rw[b_]at hd hi
   have HRET:=o_ (And.intro hd hi)
   have hRt:(List.take i R).length=i:=by rw[r_];omega
   clear hp hlt h1 hd hi HI
   (repeat'(first|(with_reducible refine aR 11 ?_)|refine Ctl ?_|((with_reducible refine k_ hK ?_);clear hK hE K E)|((with_reducible refine bZ (fun h=>?_) (fun h=>?_))<;>(try(exfalso;omega)))|(((with_reducible refine ab fun K E hK hE=>?_))<;>(try simp(disch:=omega) only[go_sem,seval,hnl, *]))))
   unfold bC
   refine MW (ac) (ac) (q_ _ _ _) hRl hij (by decide) (fun v=>?_)
   rw[St.set_set]
   simp only[go_sem,seval]
   (repeat'(first|refine Ctl ?_|((with_reducible refine k_ hK ?_);clear hK hE K E)|(((with_reducible first|refine ab fun K E hK hE=>?_|refine d6 ?_))<;>(try simp(disch:=omega) only[go_sem,seval,hRt, *]))))
   all_goals(refine aq z6 hQ ?_)
   all_goals refine⟨_,_,Wk.refl _,Fg.refl _,?_,?_⟩
   ·rw[HRET.out.2]
   ·rw[HRET.out.1]
end Go.Proofs.YtohnaepcgnbaiaaGreatDoor
namespace Go.Proofs.YtohnaepcgnbaiaaGreatDoor
open Go.RowKit
abbrev PK:=Int×Int
def pkV (k:PK):VV:=.agg [.int .i64 k.1,.int .i64 k.2]
def mpP (l:List (PK×Int)):Tc:=l.map fun p=>(pkV p.1,.int .i64 p.2)
def lkP (k:PK):List (PK×Int)->Option Int
 |[]=>none
 |(a,v)::r=>if k=a then some v else lkP k r
def ptP (k:PK)(v:Int):List (PK×Int)->List (PK×Int)
 |[]=>[(k,v)]
 |(a,w)::r=>if k=a then(k,v)::r else(a,w)::ptP k v r
theorem QN {k k':PK}{v:Int}:∀{l:List (PK×Int)},lkP k (ptP k' v l)=if k=k' then some v else lkP k l
 |[]=>by simp[ptP,lkP]
 |(a,w)::r=>by
  have ih:=QN (k:=k) (k':=k') (v:=v) (l:=r)
  simp only[ptP]
  by_cases h:k'=a
  ·subst h
   simp only[if_true,lkP]
   by_cases e:k=k'<;>simp[e]
  ·rw[if_neg h]
   simp only[lkP]
   by_cases e:k=a
   ·subst e;rw[if_pos rfl,if_pos rfl,if_neg fun e=>h e.symm]
   ·rw[if_neg e,if_neg e,ih]
section
variable {w0 w : World} {G : Gh} {s : St}
theorem Ry {v:Value}{k:PK}(h:R G v (pkV k)):v=.agg #[.int .i64 k.1,.int .i64 k.2]:=by
 unfold pkV at h
 generalize hq:VV.agg [.int .i64 k.1,.int .i64 k.2]=q at h
 cases h with
 |agg vs xs hs h1 hR=>
  injection hq with hq
  subst hq
  have h0:=fun v hv=>hR 0 v (.int .i64 k.1) hv rfl
  have h2:=fun v hv=>hR 1 v (.int .i64 k.2) hv rfl
  have hsz:vs.size=2:=hs
  obtain⟨l⟩:=vs
  match l,hsz with
  |[a,b],_=>
   have ha:=h0 a rfl
   have hb:=h2 b rfl
   cases ha
   cases hb
   rfl
 |_=>cases hq
theorem Ro (k:PK):R G (.agg #[.int .i64 k.1,.int .i64 k.2]) (pkV k):=
 .agg _ _ rfl (fun y hy=>by simp at hy;rcases hy with rfl|rfl<;>rfl) fun j v y hv hy=>by
  match j with
  |0=>simp at hv hy;subst hv;subst hy;exact .int _ _
  |1=>simp at hv hy;subst hv;subst hy;exact .int _ _
  |j+2=>simp at hv
theorem Q6 (k k':PK):(Op.equal 43 (.agg #[.int .i64 k.1,.int .i64 k.2]) (.agg #[.int .i64 k'.1,.int .i64 k'.2])).run Tryz.prog w=.ok (decide (k=k')) w:=by
 have hk:(qi Tryz.prog 3).k=.int .i64:=by kernel_rfl
 have hc:E6 (qi Tryz.prog 3).k=true:=by rw[hk];rfl
 obtain⟨i,hi⟩:=info_of_underlying Tryz.underlying3
 have hcs:Tryz.prog.cellsOf 3=1:=by kernel_rfl
 have hx:∀(k:PK) (j:Nat) (y:VV),[VV.int .i64 k.1,.int .i64 k.2][j]?=some y->∃v,(#[Value.int .i64 k.1,.int .i64 k.2])[0+j]?=some v/\R (⟨fun _ _=>none,fun _=>none⟩:Gh) v y:=fun k j y h=>by
  match j with
  |0=>simp at h;subst h;exact⟨_,rfl,.int _ _⟩
  |1=>simp at h;subst h;exact⟨_,rfl,.int _ _⟩
  |j+2=>simp at h
 have he:eqF (List.replicate 2 (qi Tryz.prog 3).k) [.int .i64 k.1,.int .i64 k.2] [.int .i64 k'.1,.int .i64 k'.2]=some (decide (k=k')):=by
  rw[hk]
  obtain⟨a,b⟩:=k
  obtain⟨a',b'⟩:=k'
  simp[eqF,eq1,List.replicate,Prod.ext_iff]
 have hE:=wK (P:=Tryz.prog) (w:=w) (vs:=#[.int .i64 k.1,.int .i64 k.2]) (us:=#[.int .i64 k'.1,.int .i64 k'.2]) (T:=3) 9998 hc 2 0 _ _ _ (hx k) (hx k') he
 show (Op.equalIn 10000 _ _ _).run _ _=_
 rw[run_equalIn_array w 9999 _ _ Tryz.underlying43 hi,hcs,List.range_eq_range']
 exact hE
theorem lR (em:Bool)(k:PK):(Instr.checkKey em 10000 43 (.agg #[.int .i64 k.1,.int .i64 k.2])).run Tryz.prog w=.ok () w:=by
 have hp:Tryz.prog.plainKey 3=true:=by kernel_rfl
 have hci:∀(x:Int),(Instr.checkKey em (9998+1) 3 (.int .i64 x)).run Tryz.prog w=.ok () w:=fun x=>by
  unfold Instr.checkKey
  simp only[Sem.run_bind,run_underlying Tryz.underlying3,Result.andThen_ok]
  rfl
 have p0:=run_part_plain (P:=Tryz.prog) w hp (xs:=#[.int .i64 k.1,.int .i64 k.2]) (off:=0) (v:=.int .i64 k.1) rfl
 have p1:=run_part_plain (P:=Tryz.prog) w hp (xs:=#[.int .i64 k.1,.int .i64 k.2]) (off:=1) (v:=.int .i64 k.2) rfl
 rw[show (10000:Nat)=(9998+1)+1 from rfl,Instr.checkKey]
 simp only[Sem.run_bind,run_underlying Tryz.underlying43,Result.andThen_ok]
 simp only[Std.Legacy.Range.forIn_eq_forIn_range',Std.Legacy.Range.size,Nat.sub_zero,Nat.add_one_sub_one,Nat.div_one]
 rw[show List.range' 0 2 1=[0,1] from rfl]
 simp only[List.forIn_cons,List.forIn_nil,Sem.run_bind,Tryz.sizeOf3,Result.andThen_ok,Nat.zero_mul,Nat.one_mul,p0,p1,hci,Sem.run_pure]
theorem oq (k:PK):∀(xs:List (PK×Int)) (es:List MapEntry) (n:Nat),RM G es (mpP xs) ->
  (∀x,lkP k xs=some x->∃i,(Instr.findAsking 43 (.agg #[.int .i64 k.1,.int .i64 k.2]) es n).run Tryz.prog w=.ok (some (n+i,.int .i64 x)) w/\(∃e,es[i]?=some e/\e.key=.agg #[.int .i64 k.1,.int .i64 k.2])/\∀v born,RM G (es.set i ⟨.agg #[.int .i64 k.1,.int .i64 k.2],.int .i64 v,born⟩) (mpP (ptP k v xs))) /\
  (lkP k xs=none->(Instr.findAsking 43 (.agg #[.int .i64 k.1,.int .i64 k.2]) es n).run Tryz.prog w=.ok none w/\(∀e,e∈es->e.key≠.agg #[.int .i64 k.1,.int .i64 k.2])/\∀v born,RM G (es++[⟨.agg #[.int .i64 k.1,.int .i64 k.2],.int .i64 v,born⟩]) (mpP (ptP k v xs)))
 |[],[],n,_=>⟨fun x h=>(by cases h),fun _=>⟨by simp[Instr.findAsking],fun e he=>(by cases he),fun v born=>⟨rfl,fun i a b hi=>by
   match i with
   |0=>simp[mpP,ptP]at hi;obtain⟨rfl,rfl⟩:=hi;exact⟨_,rfl,Ro k,.int _ _⟩
   |i+1=>simp[mpP,ptP]at hi⟩⟩⟩
 |[],e::es,n,hm=>by have:=hm.1;simp[mpP]at this
 |y::xs,[],n,hm=>by have:=hm.1;simp[mpP]at this
 |(k',y)::xs,e::es,n,hm=>by
  obtain⟨h1,h2⟩:=hm.head
  have hk':=Ry h1
  have htl:=hm.tail
  obtain⟨ih1,ih2⟩:=oq k xs es (n+1) htl
  have hfa:(Instr.findAsking 43 (.agg #[.int .i64 k.1,.int .i64 k.2]) (e::es) n).run Tryz.prog w=if k=k' then .ok (some (n,e.val)) w else(Instr.findAsking 43 (.agg #[.int .i64 k.1,.int .i64 k.2]) es (n+1)).run Tryz.prog w:=by
   simp only[Instr.findAsking,Sem.run_bind,hk',Q6,Result.andThen_ok]
   by_cases hq:k=k'
   ·simp[hq]
   ·simp[hq]
  have cons:∀es' ys,RM G es' (mpP ys)->RM G (e::es') (mpP ((k',y)::ys)):=fun es' ys he=>⟨by simpa [mpP]using he.1,fun i a b hi=>by
   cases i with
   |zero=>simp[mpP]at hi;obtain⟨rfl,rfl⟩:=hi;exact⟨e,rfl,h1,h2⟩
   |succ i=>simpa using he.2 i a b (by simpa [mpP]using hi)⟩
  rw[hfa]
  simp only[lkP,ptP]
  by_cases hq:k=k'
  ·subst hq
   refine⟨fun x hx=>?_,fun hx=>by simp at hx⟩
   rw[if_pos rfl]at hx
   injection hx with hx
   subst hx
   have hv:e.val=.int .i64 y:=by
    generalize e.val=v at h2
    cases h2;rfl
   refine⟨0,by rw[if_pos rfl,hv];rfl,⟨e,rfl,hk'⟩,fun v born=>⟨by simpa [mpP]using htl.1,fun i a b hi=>?_⟩⟩
   rw[if_pos rfl]at hi
   cases i with
   |zero=>simp[mpP]at hi;obtain⟨rfl,rfl⟩:=hi;exact⟨_,rfl,Ro k,.int _ _⟩
   |succ i=>simpa using htl.2 i a b (by simpa [mpP]using hi)
  ·simp only[if_neg hq]
   refine⟨fun x hx=>?_,fun hx=>?_⟩
   ·obtain⟨i,r1,⟨e',he',hke⟩,r2⟩:=ih1 x hx
    exact⟨i+1,by rw[r1];congr 3;omega,⟨e',by simpa using he',hke⟩,fun v born=>by simpa using cons _ _ (r2 v born)⟩
   ·obtain⟨r1,r2,r3⟩:=ih2 hx
    refine⟨r1,fun e2 he2=>?_,fun v born=>by simpa using cons _ _ (r3 v born)⟩
    rcases AT.1 he2 with rfl|he2
    ·rw[hk']
     intro e3
     apply hq
     injection e3 with e3
     have h3:=congrArg Array.toList e3
     simp at h3
     exact Prod.ext h3.1.symm h3.2.symm
    ·exact r2 e2 he2
theorem qx (x:Value)(es:List MapEntry):(Instr.findKey 43 x es).run Tryz.prog w=(Instr.findAsking 43 x es).run Tryz.prog w:=
 run_findKey_eq w (k:=43) (by rw[Tryz.underlying43]) x es
theorem Q5 (hS:Sim w0 G w s){b:Nat}{l:List (PK×Int)}(hb:s b=.map (mpP l))(k:PK) :
  (Instr.lookup 187 (.map (some b)) (.agg #[.int .i64 k.1,.int .i64 k.2]) true).run Tryz.prog w=.ok (.tuple #[.int .i64 ((lkP k l).getD 0),.bool (lkP k l).isSome]) w:=by
 have ho:=hS.ok b
 rw[hb]at ho
 obtain⟨_,c,clock,hh,hsz,hrel⟩:=ho
 have hRM:RM G c.toList (mpP l):=⟨by simpa using hsz.1,fun i k x hi=>by simpa using hrel i k x hi⟩
 have hget:(getObj b).run Tryz.prog w=.ok (.map c clock) w:=by simp[getObj,Sem.run,hh]
 obtain⟨h1,h2⟩:=oq (w:=w) k l c.toList 0 hRM
 unfold Instr.lookup
 simp only[Sem.run_bind,run_underlying Tryz.underlying187,Result.andThen_ok,hget,Sem.run_pure,lR,qx]
 cases hl:lkP k l with
 |some x=>
  obtain⟨i,r1,_⟩:=h1 x hl
  rw[r1]
  rfl
 |none=>
  obtain⟨r1,_⟩:=h2 hl
  rw[r1]
  simp only[Result.andThen_ok,Sem.run_bind,Tryz.zeroValue3,Sem.run_pure]
  rfl
theorem QZ (hS:Sim w0 G w s){b:Nat}{l:List (PK×Int)}(hb:s b=.map (mpP l))(k:PK)(v:Int) :
  ∃w',(Instr.mapUpdate 187 (.map (some b)) (.agg #[.int .i64 k.1,.int .i64 k.2]) (.int .i64 v)).run Tryz.prog w=.ok () w'/\Sim w0 G w' (s.set b (.map (mpP (ptP k v l)))):=by
 have ho:=hS.ok b
 rw[hb]at ho
 obtain⟨_,c,clock,hh,hsz,hrel⟩:=ho
 have hRM:RM G c.toList (mpP l):=⟨by simpa using hsz.1,fun i k x hi=>by simpa using hrel i k x hi⟩
 have hget:(getObj b).run Tryz.prog w=.ok (.map c clock) w:=by simp[getObj,Sem.run,hh]
 have hset:∀o,(setObj b o).run Tryz.prog w=.ok () { w with heap:=w.heap.setIfInBounds b o }:=fun o=>by simp[setObj,Sem.run,hh]
 obtain⟨h1,h2⟩:=oq (w:=w) k l c.toList 0 hRM
 cases hl:lkP k l with
 |some x=>
  obtain⟨i,r1,⟨e,he,hke⟩,hall⟩:=h1 x hl
  rw[Nat.zero_add]at r1
  have he':c[i]?=some e:=by simpa using he
  have hce:(c.modify i fun e=>{ e with key:=.agg #[.int .i64 k.1,.int .i64 k.2],val:=.int .i64 v })=(c.toList.set i ⟨.agg #[.int .i64 k.1,.int .i64 k.2],.int .i64 v,e.born⟩).toArray:=by
   apply Array.ext_getElem?
   intro j
   have hta:((c.toList.set i ⟨.agg #[.int .i64 k.1,.int .i64 k.2],.int .i64 v,e.born⟩).toArray)[j]?=(c.toList.set i ⟨.agg #[.int .i64 k.1,.int .i64 k.2],.int .i64 v,e.born⟩)[j]?:=by simp
   rw[Array.getElem?_modify,hta,List.getElem?_set]
   by_cases hj:i=j
   ·subst hj
    have:i<c.size:=(Array.getElem?_eq_some_iff.1 he').1
    simp only[this,Array.length_toList,if_true]
    rw[he']
    rfl
   ·simp[hj]
  have hks:(Instr.keyThatStays e.key (.agg #[.int .i64 k.1,.int .i64 k.2])).run Tryz.prog w=.ok (.agg #[.int .i64 k.1,.int .i64 k.2]) w:=by
   rw[hke]
   have:Instr.sameBits 10000 (.agg #[.int .i64 k.1,.int .i64 k.2]) (.agg #[.int .i64 k.1,.int .i64 k.2])=true:=by
    rw[show (10000:Nat)=9999+1 from rfl,Instr.sameBits]
    simp[Instr.sameBits]
   simp[Instr.keyThatStays,this]
  refine⟨_,?_,hS.set_map hb (c.modify i fun e=>{ e with key:=.agg #[.int .i64 k.1,.int .i64 k.2],val:=.int .i64 v }) clock (by rw[hce];exact hall v e.born) (MapKept.stamped_modify hsz.2 i _ (fun _ _=>rfl) (fun e2 _ he2=>by rw[he']at he2;injection he2 with he2;subst he2;exact hke.symm))⟩
  unfold Instr.mapUpdate
  simp only[Sem.run_bind,run_underlying Tryz.underlying187,Result.andThen_ok,hget,Sem.run_pure,lR,qx,r1,he',Option.map_some,Option.getD_some,hks,hset]
 |none=>
  obtain⟨r1,hno,hall⟩:=h2 hl
  refine⟨_,?_,hS.set_map hb (c.push ⟨.agg #[.int .i64 k.1,.int .i64 k.2],.int .i64 v,clock⟩) (clock+1) (by simpa using hall v clock) (MapKept.stamped_push hsz.2 hno)⟩
  unfold Instr.mapUpdate
  simp only[Sem.run_bind,run_underlying Tryz.underlying187,Result.andThen_ok,hget,Sem.run_pure,lR,qx,r1,hset]
end
def eh (v:Nat):Tr->Tr
 |.lf b=>.lf b
 |.nd w l h=>if w=v then l else .nd w l h
def dt (v:Nat):Tr->Tr
 |.lf b=>.lf b
 |.nd w l h=>if w=v then h else .nd w l h
def szT:Tr->Nat
 |.lf _=>0
 |.nd _ l h=>szT l+szT h+1
theorem Fn {n j v:Nat}:∀{t:Tr},OkT n j t->v<=aW n t->v<n->OkT n (v+1) (eh v t)/\OkT n (v+1) (dt v t)
 |.lf b,_,_,_=>⟨trivial,trivial⟩
 |.nd w l h,⟨h1,h2,h3,h4,h5⟩,hv,hn=>by
  simp only[aW]at hv
  simp only[eh,dt]
  by_cases e:w=v
  ·subst e
   rw[if_pos rfl,if_pos rfl]
   exact⟨h4,h5⟩
  ·rw[if_neg e,if_neg e]
   have:OkT n (v+1) (.nd w l h):=⟨by omega,h2,h3,h4,h5⟩
   exact⟨this,this⟩
theorem sJ {S:TW}{v:Nat}:∀{t:Tr},InV S t->InV S (eh v t)/\InV S (dt v t)
 |.lf b,_=>⟨trivial,trivial⟩
 |.nd w l h,⟨i1,i2,i3⟩=>by
  simp only[eh,dt]
  by_cases e:w=v
  ·rw[if_pos e,if_pos e];exact⟨i2,i3⟩
  ·rw[if_neg e,if_neg e];exact⟨⟨i1,i2,i3⟩,⟨i1,i2,i3⟩⟩
theorem i6 {v:Nat}{x:Tg}:∀{t:Tr},evT t x=if x v=true then evT (dt v t) x else evT (eh v t) x
 |.lf b=>by simp[eh,dt,evT]
 |.nd w l h=>by
  simp only[eh,dt]
  by_cases e:w=v
  ·subst e
   rw[if_pos rfl,if_pos rfl]
   rfl
  ·rw[if_neg e,if_neg e]
   simp
theorem sk {ns:Td}(hch:∀v l h,Tr.nd v l h∈ns->l∈ns/\h∈ns){v:Nat}:∀{t:Tr},t∈ns->eh v t∈ns/\dt v t∈ns
 |.lf b,h=>⟨h,h⟩
 |.nd w l r,h=>by
  simp only[eh,dt]
  by_cases e:w=v
  ·rw[if_pos e,if_pos e];exact hch _ _ _ h
  ·rw[if_neg e,if_neg e];exact⟨h,h⟩
theorem EL {v:Nat}:∀{t:Tr},szT (eh v t)<=szT t/\szT (dt v t)<=szT t
 |.lf b=>⟨Nat.le_refl _,Nat.le_refl _⟩
 |.nd w l h=>by
  simp only[eh,dt]
  by_cases e:w=v
  ·rw[if_pos e,if_pos e];simp only[szT];omega
  ·rw[if_neg e,if_neg e];exact⟨Nat.le_refl _,Nat.le_refl _⟩
theorem Ft {n v:Nat}(hv:v<n):∀{t:Tr},aW n t=v->szT (eh v t)<szT t/\szT (dt v t)<szT t
 |.lf b,h=>by simp only[aW]at h;omega
 |.nd w l h,e=>by
  simp only[aW]at e
  simp only[eh,dt]
  rw[if_pos e,if_pos e]
  simp only[szT];omega
theorem Or {n:Nat}{S:TW}:∀{t:Tr},InV S t->aW n t<n->aW n t∈S
 |.lf b,_,h=>by simp only[aW]at h;omega
 |.nd w l h,⟨i1,_,_⟩,_=>i1
theorem Pr {n j:Nat}:∀{t:Tr},OkT n j t->aW n t<n->j<=aW n t
 |.lf b,_,h=>by simp only[aW]at h;omega
 |.nd w l h,⟨h1,_⟩,_=>h1
noncomputable def prF (gone:Tg)(a b:Tr):Tf:=exF gone fun x=>evT a x && evT b x
noncomputable def prT (n:Nat)(gone:Tg)(a b:Tr):Tr:=treeT n (prF gone a b)
variable {n : Nat} {gone : Nat -> Bool} {a b : Tr}
theorem s7:prT n gone a b=prT n gone b a:=by
 unfold prT prF
 congr 1
 congr 1
 funext x
 exact Bool.and_comm _ _
theorem Rb (ha:OkT n 0 a)(hb:OkT n 0 b){S:TW}(ia:InV S a)(ib:InV S b):DepF S (prF gone a b):=
 (ER (S:=S) (f:=fun x=>evT a x && evT b x) fun x y e=>by simp only[mL ia x y e,mL ib x y e]).mono fun v hv=>(List.mem_filter.1 hv).1
theorem vf {m:Nat}(ha:OkT n m a)(hb:OkT n m b):∀x y,(∀i,m<=i->i<n->x i=y i)->prF gone a b x=prF gone a b y:=by
 have key:∀x y:Tg,(∀i,m<=i->i<n->x i=y i)->prF gone a b x=true->prF gone a b y=true:=fun x y e h=>by
  unfold prF at h ⊢
  rw[mM]at h ⊢
  obtain⟨z,hz,h⟩:=h
  refine⟨fun v=>if gone v=true then z v else y v,fun v hv=>by simp[hv],?_⟩
  have e2:∀i,m<=i->i<n->(fun v=>if gone v=true then z v else y v) i=z i:=fun i h1 h2=>by
   by_cases hg:gone i=true
   ·simp[hg]
   ·have hgf:gone i=false:=by simpa using hg
    simp only[if_neg hg]
    rw[<- e i h1 h2]
    exact(hz i hgf).symm
  simp only[iL ha _ _ e2,iL hb _ _ e2]
  exact h
 intro x y e
 rw[Bool.eq_iff_iff]
 exact⟨key x y e,key y x fun i h1 h2=>(e i h1 h2).symm⟩
theorem pa {m:Nat}(ha:OkT n m a)(hb:OkT n m b):OkT n m (prT n gone a b):=x6 (vf ha hb)
theorem tg (ha:OkT n 0 a)(hb:OkT n 0 b):ep n (prF gone a b):=fun x y e=>vf ha hb x y fun i _ h=>e i h
theorem Qs (ha:OkT n 0 a)(hb:OkT n 0 b)(x:Tg):evT (prT n gone a b) x=true↔∃y,(∀v,gone v=false->y v=x v)/\evT a y=true/\evT b y=true:=by
 unfold prT
 rw[bU (tg ha hb)]
 unfold prF
 rw[mM]
 simp only[Bool.and_eq_true]
theorem Ra (ha:OkT n 0 a)(hb:OkT n 0 b){S:TW}(ia:InV S a)(ib:InV S b):InV S (prT n gone a b):=by
 refine oD (m:=0) cQ ?_
 have e:evT (prT n gone a b)=prF gone a b:=funext fun x=>bU (tg ha hb) x
 rw[e]
 exact Rb ha hb ia ib
theorem Qe:prT n gone (.lf false) b=.lf false:=by
 unfold prT
 have e:prF gone (.lf false) b=fun _=>false:=funext fun x=>by
  rw[Bool.eq_false_iff]
  intro h
  unfold prF at h
  rw[mM]at h
  obtain⟨y,_,h⟩:=h
  simp[evT]at h
 rw[e]
 exact bY (m:=0) (t:=.lf false) trivial fun x=>rfl
theorem Rt:prT n gone a (.lf false)=.lf false:=by rw[s7,Qe]
theorem Q9:prT n gone (.lf true) (.lf true)=.lf true:=by
 unfold prT
 refine bY (m:=0) (t:=.lf true) trivial fun x=>?_
 have:prF gone (.lf true) (.lf true) x=true:=by
  unfold prF
  rw[mM]
  exact⟨x,fun _ _=>rfl,by simp[evT]⟩
 rw[this]
 rfl
theorem Qr {j k v:Nat}(ha:OkT n j a)(hb:OkT n k b)(hva:v<=aW n a)(hvb:v<=aW n b)(hv:v<n) :
  prT n gone a b=exP n gone v (prT n gone (eh v a) (eh v b)) (prT n gone (dt v a) (dt v b)):=by
 obtain⟨al,ah⟩:=Fn ha hva hv
 obtain⟨bl,bh⟩:=Fn hb hvb hv
 have ol:=pa (gone:=gone) al bl
 have oh:=pa (gone:=gone) ah bh
 have z:∀{m:Nat} {t:Tr},OkT n m t->OkT n 0 t:=fun h=>h.mono (Nat.zero_le _)
 have oe:OkT n 0 (exP n gone v (prT n gone (eh v a) (eh v b)) (prT n gone (dt v a) (dt v b))):=by
  unfold exP
  split
  ·exact(Ba (b:=.lf true) ol (by exact trivial) oh).mono (by omega)
  ·exact ld (Nat.zero_le _) hv ol oh
 have upd:∀{t:Tr} {y:Tg} {b:Bool},OkT n (v+1) t->evT t (da y v b)=evT t y:=fun {t y b} ht=>iL ht _ _ fun i hi _=>cN (by omega)
 refine bY oe fun x=>?_
 have il:=Qs (gone:=gone) (z al) (z bl) x
 have ih:=Qs (gone:=gone) (z ah) (z bh) x
 have it:prF gone a b x=true↔∃y,(∀v,gone v=false->y v=x v)/\evT a y=true/\evT b y=true:=by
  unfold prF
  rw[mM]
  simp only[Bool.and_eq_true]
 rw[Bool.eq_iff_iff,it]
 unfold exP
 by_cases hg:gone v=true
 ·rw[if_pos hg,mJ (b:=.lf true) (z ol) (by exact trivial) (z oh)]
  have hor:(if evT (prT n gone (eh v a) (eh v b)) x=true then evT (.lf true) x else evT (prT n gone (dt v a) (dt v b)) x)=true↔evT (prT n gone (eh v a) (eh v b)) x=true\/evT (prT n gone (dt v a) (dt v b)) x=true:=by
   by_cases e:evT (prT n gone (eh v a) (eh v b)) x=true
   ·rw[if_pos e];exact⟨fun _=>.inl e,fun _=>rfl⟩
   ·rw[if_neg e];exact⟨fun h=>.inr h,fun h=>h.resolve_left e⟩
  rw[hor,il,ih]
  constructor
  ·rintro(⟨y,hy,h1,h2⟩|⟨y,hy,h1,h2⟩)
   ·refine⟨da y v false,fun u hu=>?_,?_,?_⟩
    ·rw[cN (by rintro rfl;rw[hg]at hu;cases hu)];exact hy u hu
    ·rw[i6 (v:=v),bL,if_neg (by simp),upd al];exact h1
    ·rw[i6 (v:=v),bL,if_neg (by simp),upd bl];exact h2
   ·refine⟨da y v true,fun u hu=>?_,?_,?_⟩
    ·rw[cN (by rintro rfl;rw[hg]at hu;cases hu)];exact hy u hu
    ·rw[i6 (v:=v),bL,if_pos rfl,upd ah];exact h1
    ·rw[i6 (v:=v),bL,if_pos rfl,upd bh];exact h2
  ·rintro⟨y,hy,h1,h2⟩
   rw[i6 (v:=v)]at h1 h2
   by_cases e:y v=true
   ·rw[if_pos e]at h1 h2;exact .inr ⟨y,hy,h1,h2⟩
   ·rw[if_neg e]at h1 h2;exact .inl ⟨y,hy,h1,h2⟩
 ·have hgf:gone v=false:=by simpa using hg
  rw[if_neg hg,lh]
  by_cases e:x v=true
  ·rw[if_pos e,ih]
   constructor<;>rintro⟨y,hy,h1,h2⟩<;>refine⟨y,hy,?_,?_⟩
   ·have:=hy v hgf;rw[i6 (v:=v),if_pos (this.trans e)];exact h1
   ·have:=hy v hgf;rw[i6 (v:=v),if_pos (this.trans e)];exact h2
   ·have:=hy v hgf;rw[i6 (v:=v),if_pos (this.trans e)]at h1;exact h1
   ·have:=hy v hgf;rw[i6 (v:=v),if_pos (this.trans e)]at h2;exact h2
  ·rw[if_neg e,il]
   constructor<;>rintro⟨y,hy,h1,h2⟩<;>refine⟨y,hy,?_,?_⟩
   ·have:=hy v hgf;rw[i6 (v:=v),if_neg (by rw[this];exact e)];exact h1
   ·have:=hy v hgf;rw[i6 (v:=v),if_neg (by rw[this];exact e)];exact h2
   ·have:=hy v hgf;rw[i6 (v:=v),if_neg (by rw[this];exact e)]at h1;exact h1
   ·have:=hy v hgf;rw[i6 (v:=v),if_neg (by rw[this];exact e)]at h2;exact h2
theorem QQ {v:Nat}{h:Tr}(hg:gone v=true):exP n gone v (.lf true) h=.lf true:=by
 unfold exP
 rw[if_pos hg]
 unfold iteT
 refine bY (m:=0) (t:=.lf true) trivial fun x=>?_
 simp[evT]
def prC (S:TW)(j:Nat):Nat:=(kkS S j+2) * 2 ^ kkS S j
theorem Qx {S:TW}{j v:Nat}(hj:j<=v)(hv:v∈S):prC S (v+1)+prC S (v+1)+2 ^ kkS S v<=prC S j:=by
 have h6:=AW hv
 have h7:=AY (S:=S) hj
 unfold prC
 generalize kkS S (v+1)=i at *
 generalize kkS S v=k at *
 generalize kkS S j=l at *
 have p1:(i+2) * 2 ^ i * 2<=(k+1) * 2 ^ k:=by
  have e:(i+2) * 2 ^ i * 2=(i+2) * 2 ^ (i+1):=by rw[Nat.pow_succ,Nat.mul_assoc]
  rw[e]
  exact Nat.mul_le_mul (by omega) (Nat.pow_le_pow_right (by omega) (by omega))
 have p2:(k+2) * 2 ^ k<=(l+2) * 2 ^ l:=Nat.mul_le_mul (by omega) (Nat.pow_le_pow_right (by omega) h7)
 have p3:(k+2) * 2 ^ k=(k+1) * 2 ^ k+2 ^ k:=by
  rw[show k+2=(k+1)+1 by omega,Nat.add_mul,Nat.one_mul]
 generalize (i+2) * 2 ^ i=x at *
 generalize (k+1) * 2 ^ k=y at *
 omega
theorem QJ {S:TW}:prC S 0<=(S.length+2) * 2 ^ S.length:=Nat.mul_le_mul (Nat.add_le_add_right AZ 2) (Nat.pow_le_pow_right (by omega) AZ)
end Go.Proofs.YtohnaepcgnbaiaaGreatDoor
namespace Go.Proofs.YtohnaepcgnbaiaaGreatDoor
open Go.RowKit
theorem Sh {n v:Nat}{ns:Td}:∀{t:Tr},v<n->ixN ns (eh v t)=(if aW n t=v then lowN ns t else ixN ns t)/\ixN ns (dt v t)=(if aW n t=v then highN ns t else ixN ns t)
 |.lf b,h=>by
  have e:¬ n=v:=by omega
  simp[aW,eh,dt,e]
 |.nd w l r,h=>by
  by_cases e:w=v
  ·simp[aW,eh,dt,lowN,highN,e]
  ·simp[aW,eh,dt,lowN,highN,e]
theorem wY {s:St}{K:OB}{n B q v:Nat}{ns:Td}{t:Tr}(hO:OMem s K n B ns)(hq:s q=.obj 126 [.ptr K.o 0,.ptr K.s.p 0])(ht:t∈ns)(hv:v<n) :
  SRet Tryz.prog 157 [.ptr q 0,.int .i64 (v:Int),.int .i64 (ixN ns t:Nat)] s (.tup [.int .i64 (ixN ns (eh v t):Nat),.int .i64 (ixN ns (dt v t):Nat)]) s:=by
 obtain⟨mk,hnm⟩:=hO.st.mem
 have w1:=c8 s K.s.p K.s.g K.s.q n B (ixN ns t) ns t mk 0 hnm (bS ht)
 obtain⟨e1,e2⟩:=Sh (n:=n) (v:=v) (ns:=ns) (t:=t) hv
 rw[e1,e2]
 generalize ixN ns t=kt at *
 generalize lowN ns t=kl at *
 generalize highN ns t=kh at *
 generalize aW n t=vt at *
 clear hnm ht hO e1 e2
 by_cases e:vt=v
 ·have h1:(vt:Int)=(v:Int):=by omega
  rw[if_pos e,if_pos e]
  clear e
  refine am Tryz.func157 rfl Tryz.ntmps157 rfl fun Q hQ hQe=>?_
  (repeat'(first|refine Ctl ?_|((with_reducible refine k_ hK ?_);clear hK hE K E)|((with_reducible refine bZ (fun h=>?_) (fun h=>?_))<;>(try(exfalso;assumption)))|(((with_reducible first|refine ab fun K E hK hE=>?_|refine ae ey (w1) ?_))<;>(try simp(disch:=omega) only[go_sem,seval,h1, *]))))
  all_goals(refine aq I6 hQ ?_)
  all_goals exact⟨_,_,Wk.refl _,Fg.refl _,rfl,rfl⟩
 ·have h1:¬ (vt:Int)=(v:Int):=by omega
  rw[if_neg e,if_neg e]
  clear e
  refine am Tryz.func157 rfl Tryz.ntmps157 rfl fun Q hQ hQe=>?_
  (repeat'(first|refine Ctl ?_|((with_reducible refine k_ hK ?_);clear hK hE K E)|((with_reducible refine bZ (fun h=>?_) (fun h=>?_))<;>(try(exfalso;assumption)))|(((with_reducible first|refine ab fun K E hK hE=>?_|refine ae ey (w1) ?_))<;>(try simp(disch:=omega) only[go_sem,seval,h1, *]))))
  all_goals(refine aq I6 hQ ?_)
  all_goals exact⟨_,_,Wk.refl _,Fg.refl _,rfl,rfl⟩
attribute [-go_sem] bJ cX bH bG aT cU cT
theorem SCalls.frz0 {P:Program}{s:St}{f:FuncId}{xs:Tb}{Q:SEnd->St->Prop}
  (h:SCalls P f xs s fun e t=>∃(g n:Nat) (T:TypeId) (ys:Tb),e=.ret (.mrw g n)/\t g=.row T 1 ys/\ys.length=n/\Q (.ret (.lst (ys.map fun y=>[y]) .no)) (t.set g .free)):SCalls P f xs s Q:=by
 intro w0 G w vs hS hR
 refine(h w0 G w vs hS hR).mono ?_
 rintro e w' ⟨G',s',x,hG,hS',hE,g,n,T,ys,rfl,hg,hn,hq⟩
 obtain⟨G2,hle,hS2,hK,_⟩:=hS'.frzR hg
 refine⟨G2,_,_,hG.trans hle,hS2,?_,hq⟩
 cases e with
 |returned v=>exact R.frz hn hK (R.mono hle hE)
 |_=>exact hE
theorem tm (l:TW):(dv l).map (fun y=>[y])=ak l:=by simp[dv,ak,Function.comp_def]
theorem Fy (s:St)(b:Nat)(X:VV)(l:TW)(o:Own)(r:VV)(hb:s b=.obj 30 [X,.lst (ak l) o,r])(hl:l.length<=1000000000)(d:Nat):SRet Tryz.prog 43 [.int .i64 (d:Int),.ptr b 0] s (.bool (decide (d∈l))) s:=by
 have w:=rR l o d hl s
 generalize ak l=V at *
 refine am Tryz.func43 rfl Tryz.ntmps43 rfl fun Q hQ hQe=>?_
 (repeat'(first|refine Ctl ?_|((with_reducible refine k_ hK ?_);clear hK hE K E)|(((with_reducible first|refine ab fun K E hK hE=>?_|refine ae tL (w) ?_))<;>(try simp(disch:=omega) only[go_sem,seval, *]))))
 all_goals(refine aq Gd hQ ?_)
 all_goals exact⟨_,_,Wk.refl _,Fg.refl _,rfl,rfl⟩
theorem zf (s:St)(gb b:Nat)(D:TW)(X r:VV)(l:TW)(hg:s gb=.row 3 1 (dv D))(hb:s b=.obj 30 [X,.lst (ak l) .no,r])(hl:l.length<=1000000000)(hD:D.length<=1000000000) :
  SRet Tryz.prog 42 [.mrw gb D.length,.fn 43 [.ptr b 0]] s (.lst (ak (c7 (fun d=>decide (d∈l)) D)) .no) (s.set gb .free):=by
 have hne:b≠gb:=fun e=>by rw[e,hg]at hb;cases hb
 refine SCalls.frz0 (SCalls.mono (h:=M9 s gb D hg hD Qh (fun d=>decide (d∈l)) fun R d hR=>Fy _ b X l .no r ((j_ _ _ hne).trans hb) hl d) ?_)
 rintro w u ⟨rfl,rfl⟩
 exact⟨gb,_,3,_,rfl,q_ _ _ _,oz,by rw[tm],by rw[St.set_set]⟩
def aK (A:TV)(D:TW)(A2:TV):TW:=A2.map fun a=>D.getD (ixA a A).toNat 0
theorem qr {A:TV}{D:TW}{A2:TV}{i k d:Nat}{a:TT}(h:A2[i]?=some a)(hk:ixA a A=(k:Int))(hd:D[k]?=some d):aK A D (A2.take (i+1))=aK A D (A2.take i)++[d]:=by
 rw[aK,List.take_add_one,h,List.map_append]
 simp[aK,hk,List.getD_eq_getElem?_getD,hd]
theorem dp {A:TV}{D:TW}{A2:TV}:(aK A D A2).length=A2.length:=by simp[aK]
structure KI (u1 S:St) (b8 bm:Nat) (SA:VV) (e:TV) (l:TW):Prop where
 fr:∀z,u1 z≠.free->S z=u1 z
 o8:(l=[]/\S b8=.obj 30 [SA,.raw (.slice none 0 0),.int .i64 0])\/∃g,S b8=.obj 30 [SA,.mrw g l.length,.int .i64 0]/\S g=.row 3 1 (dv l)/\u1 g=.free
 mt:S bm=.map (mpV bP (g9 e))
 f:u1 b8=.free/\u1 bm=.free
section
variable {u1 S : St} {b8 bm bM g : Nat} {SA : VV} {e e' : TV} {l : TW}
theorem KI.ne (h:KI u1 S b8 bm SA e l):¬ b8=bm/\¬ bm=b8:=by
 have key:¬ b8=bm:=fun e=>by
  have:=h.mt
  rw[<- e]at this
  rcases h.o8 with ⟨_,h1⟩|⟨g,h1,_⟩<;>rw[h1]at this<;>cases this
 exact⟨key,fun e=>key e.symm⟩
theorem KI.put (h:KI u1 S b8 bm SA e l):KI u1 (S.set bm (.map (mpV bP (g9 e')))) b8 bm SA e' l:=by
 refine⟨fun z hz=>(j_ _ _ fun e=>hz (by rw[e];exact h.f.2)).trans (h.fr z hz),?_,q_ _ _ _,h.f⟩
 rcases h.o8 with ⟨h1,h2⟩|⟨g,h1,h2,h3⟩
 ·exact .inl ⟨h1,(j_ _ _ h.ne.1).trans h2⟩
 ·exact .inr ⟨g,(j_ _ _ h.ne.1).trans h1,(j_ _ _ fun e=>by have:=h.mt;rw[<- e,h2]at this;cases this).trans h2,h3⟩
theorem KI.app0 (h:KI u1 S b8 bm SA e [])(hM:S bM=.free)(d:Nat):KI u1 ((S.set bM (.row 3 1 [.int .i64 (d:Int)])).set b8 (.obj 30 [SA,.mrw bM 1,.int .i64 0])) b8 bm SA e [d]:=by
 have h8:S b8≠.free:=by rcases h.o8 with ⟨_,h1⟩|⟨g,h1,_⟩<;>rw[h1]<;>simp
 have n1:=nef hM h8
 have n2:=nef hM (a:=bm) (by rw[h.mt];simp)
 refine⟨fun z hz=>?_,.inr ⟨bM,q_ _ _ _,(j_ _ _ n1.2).trans (q_ _ _ _),frB h.fr hM⟩,(j_ _ _ h.ne.2).trans ((j_ _ _ n2.1).trans h.mt),h.f⟩
 rw[j_ _ _ (fun e=>hz (by rw[e];exact h.f.1)),j_ _ _ (nef hM (by rw[h.fr z hz];exact hz)).1,h.fr z hz]
theorem KI.app (h:KI u1 S b8 bm SA e l)(hg8:S b8=.obj 30 [SA,.mrw g l.length,.int .i64 0])(hg:S g=.row 3 1 (dv l))(hgf:u1 g=.free)(hM:(S.set g .free) bM=.free)(d:Nat):KI u1 (((S.set g .free).set bM (.row 3 1 (dv l++[.int .i64 (d:Int)]))).set b8 (.obj 30 [SA,.mrw bM (l.length+1),.int .i64 0])) b8 bm SA e (l++[d]):=by
 have hbM:∀z,S z≠.free->¬ z=g->¬ z=bM:=fun z hz hn e=>by subst e;rw[j_ _ _ hn]at hM;exact hz hM
 have n8:¬ b8=g:=fun e=>by rw[e,hg]at hg8;cases hg8
 have nm:¬ bm=g:=fun e=>by have:=h.mt;rw[e,hg]at this;cases this
 have h8:=hbM b8 (by rw[hg8];simp) n8
 have hm:=hbM bm (by rw[h.mt];simp) nm
 refine⟨fun z hz=>?_,.inr ⟨bM,by rw[q_];simp,by rw[j_ _ _ (fun e=>h8 e.symm),q_];simp,?_⟩,(j_ _ _ h.ne.2).trans ((j_ _ _ hm).trans ((j_ _ _ nm).trans h.mt)),h.f⟩
 ·have zg:¬ z=g:=fun e=>hz (by rw[e];exact hgf)
  rw[j_ _ _ (fun e=>hz (by rw[e];exact h.f.1)),j_ _ _ (hbM z (by rw[h.fr z hz];exact hz) zg),j_ _ _ zg,h.fr z hz]
 ·by_cases e:u1 bM=.free
  ·exact e
  ·have h1:=h.fr bM e
   exact absurd rfl (hbM bM (by rw[h1];exact e) fun e2=>e (by rw[e2];exact hgf))
end
end Go.Proofs.YtohnaepcgnbaiaaGreatDoor
