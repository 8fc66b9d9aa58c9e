/- Walks of functions that the claim reaches, and plain facts of them. Conditions: those in the statements. -/
import Derived.Test.YtohnaepcgnbaiaaGreatDoorJkImj
set_option linter.unusedSimpArgs false
set_option linter.unusedVariables false
set_option maxRecDepth 100000
namespace Go.Proofs.YtohnaepcgnbaiaaGreatDoor
open Go.RowKit
set_option maxHeartbeats 4000000 in
theorem qK {s:St}{K:OB}{n B:Nat}{ns:List Tr}(hO:OMem1 s K n B ns){ta tb tc:Tr}(ha:ta∈ns)(hb:tb∈ns)(hc:tc∈ns)(h1:¬ tb=tc)(h:ta=.lf false):lE s K n B ns ta tb tc:=by
 have hN:=hO.st.ok
 have hT:iteT n ta tb tc=tc:=by rw[h];exact yD (hN.ok _ hb) (hN.ok _ hc)
 unfold lE
 rw[hT]
 have hR:OpR s K n B ns tc (s,K,ns):=⟨hO,.refl hc,.refl _ _,rfl⟩
 have h2:ixN ns ta=0:=((hN.one ha).2).2 h
 have h3:¬ ((ixN ns tb:Nat):Int)=((ixN ns tc:Nat):Int):=fun e=>h1 (cw hb hc (by omega))
 have HR:=o_ hR
 clear hR h hO hT h1
 rw[h2]
 suffices hs:SRet Tryz.prog 108 [.ptr K.o 0,.int .i64 ((0:Nat):Int),.int .i64 (ixN ns tb:Nat),.int .i64 (ixN ns tc:Nat)] s (.tup [.int .i64 (ixN ns tc:Nat),.int .i64 0]) s by
  refine SCalls.mono (h:=hs) ?_
  rintro w u ⟨rfl,rfl⟩
  exact⟨(u,K,ns),rfl,rfl,HR.out⟩
 generalize ixN ns tb=kb at *
 generalize ixN ns tc=kc at *
 refine am Tryz.func108 rfl Tryz.ntmps108 rfl fun Q hQ hQe=>?_
 (repeat'(first|refine Ctl ?_|((with_reducible refine k_ hK ?_);clear hK hE K E)|((with_reducible refine ah (fun h=>?_) (fun h=>?_))<;>(try(exfalso;assumption)))|(((with_reducible refine ab fun K E hK hE=>?_))<;>(try simp(disch:=assumption) only[go_sem,seval,Int.natCast_zero,Int.ofNat_zero, *]))))
 all_goals(refine aq jj hQ ?_)
 all_goals(refine⟨_,_,Wk.of_eq ?_,?_,rfl,rfl⟩)
 all_goals first|rfl|(exact bK)
set_option maxHeartbeats 4000000 in
theorem y9 {s:St}{K:OB}{n B:Nat}{ns:List Tr}(hO:OMem1 s K n B ns){ta tb tc:Tr}(ha:ta∈ns)(hb:tb∈ns)(hc:tc∈ns)(h1:¬ ta=.lf true)(h2:¬ ta=.lf false)(h3:tb=.lf true)(h4:tc=.lf false):lE s K n B ns ta tb tc:=by
 have hN:=hO.st.ok
 have hT:iteT n ta tb tc=ta:=by rw[h3,h4];exact yF (hN.ok _ ha)
 unfold lE
 rw[hT]
 have hR:OpR s K n B ns ta (s,K,ns):=⟨hO,.refl ha,.refl _ _,rfl⟩
 have e1:¬ ((ixN ns ta:Nat):Int)=1:=fun e=>h1 (((hN.one ha).1).1 (by omega))
 have e2:¬ ((ixN ns ta:Nat):Int)=0:=fun e=>h2 (((hN.one ha).2).1 (by omega))
 have e3:ixN ns tb=1:=((hN.one hb).1).2 h3
 have e4:ixN ns tc=0:=((hN.one hc).2).2 h4
 have HR:=o_ hR
 clear hR hO hT h1 h2 h3 h4
 rw[e3,e4]
 suffices hs:SRet Tryz.prog 108 [.ptr K.o 0,.int .i64 (ixN ns ta:Nat),.int .i64 ((1:Nat):Int),.int .i64 ((0:Nat):Int)] s (.tup [.int .i64 (ixN ns ta:Nat),.int .i64 0]) s by
  refine SCalls.mono (h:=hs) ?_
  rintro w u ⟨rfl,rfl⟩
  exact⟨(u,K,ns),rfl,rfl,HR.out⟩
 clear e3 e4
 generalize ixN ns ta=ka at *
 refine am Tryz.func108 rfl Tryz.ntmps108 rfl fun Q hQ hQe=>?_
 (repeat'(first|refine Ctl ?_|((with_reducible refine k_ hK ?_);clear hK hE K E)|((with_reducible refine ah (fun h=>?_) (fun h=>?_))<;>(try(exfalso;assumption)))|(((with_reducible refine ab fun K E hK hE=>?_))<;>(try simp(disch:=assumption) only[go_sem,seval,Int.natCast_zero,Int.ofNat_zero,Int.natCast_one, *]))))
 all_goals(refine aq jj hQ ?_)
 all_goals(refine⟨_,_,Wk.of_eq ?_,?_,rfl,rfl⟩)
 all_goals first|rfl|(exact bK)
theorem EH {s S u1 u2 u3:St}{KB K1 K2:OB}{K3:SB}{n B v i b ka kb kc kr:Nat}{ns ns1 ns2 ns3:List Tr}{ta tb tc L H:Tr}{ys:List CE}{Y' Y:List VV}
  (hO:OMem1 s KB n B ns) (ha:ta∈ns) (hb:tb∈ns) (hc:tc∈ns) (hT:iteT n ta tb tc=mkT v L H) (hKS:OKeep s S KB KB)
  (M1:OMem1 u1 K1 n B ns1/\ExtN ns ns1 L/\OKeep S u1 KB K1) (M2:OMem1 u2 K2 n B ns2/\ExtN ns1 ns2 H/\OKeep u1 u2 K1 K2/\K2.c=K1.c/\¬ K1.has b)
  (c1:K1.c=KB.c) (k1o:K1.o=KB.o) (k1p:K1.s.p=KB.s.p) (k2p:K2.s.p=KB.s.p) (k2o:K2.o=KB.o)
  (M3:SMem u3 K3 n B ns3/\ExtN ns2 ns3 (mkT v L H)/\SKeep u2 u3 K2.s K3/\¬ K2.s.has KB.c/\¬ K2.s.has KB.o/\¬ K2.has b/\u2 KB.c≠.free/\u2 KB.o≠.free)
  (hye:∀e,e∈ys->e.is=true->∃ta tb tc,ta∈ns2/\tb∈ns2/\tc∈ns2/\e.a=((ixN ns2 ta:Nat):Int)/\e.b=((ixN ns2 tb:Nat):Int)/\e.c=((ixN ns2 tc:Nat):Int)/\iteT n ta tb tc∈ns2/\e.k=((ixN ns2 (iteT n ta tb tc):Nat):Int))
  (hyl:ys.length=4096) (hka:ixN ns ta=ka) (hkb:ixN ns tb=kb) (hkc:ixN ns tc=kc) (hkr:ixN ns3 (mkT v L H)=kr) (hY':cP (ys.set i ⟨true,ka,kb,kc,kr⟩)=Y') (hyr:u2 KB.c=.row vw 5 Y)
  (u2o:u2 KB.o=.obj mn (c9 KB.s.p 1 0 (.mrw KB.c 4096))) :
  ∃y s',Wk (.tup [.int .i64 kr,.int .i64 0]) y/\Fg (u3.set KB.c (.row vw 5 Y')) s'/\∃a:gJ,SEnd.ret y=.ret (.tup [.int .i64 (ixN a.2.2 (iteT n ta tb tc):Nat),.int .i64 0])/\s'=a.1/\OpR s KB n B ns (iteT n ta tb tc) a:=by
 obtain⟨m1,x1,k1⟩:=M1
 obtain⟨m2,x2,k2,c2,bN1⟩:=M2
 obtain⟨m3,x3,k3,sc,so,bN2,hcf2,hof2⟩:=M3
 have sub1:∀t,t∈ns->t∈ns3/\ixN ns3 t=ixN ns t:=fun t ht=>by
  obtain⟨a1,a2⟩:=x1.sub ht
  obtain⟨b1,b2⟩:=x2.sub a1
  obtain⟨d1,d2⟩:=x3.sub b1
  exact⟨d1,by rw[d2,b2,a2]⟩
 have hE:ExtN ns ns3 (mkT v L H):=by
  obtain⟨p1,e1⟩:=x1.pre
  obtain⟨p2,e2⟩:=x2.pre
  obtain⟨p3,e3⟩:=x3.pre
  refine⟨⟨p1++p2++p3,by rw[e3,e2,e1];simp⟩,fun t ht=>?_,x3.mem⟩
  rcases x3.new t ht with e|e
  ·rcases x2.new t e with e|e
   ·rcases x1.new t e with e|e
    ·exact .inl e
    ·exact .inr (gv (.inl e))
   ·exact .inr (gv (.inr e))
  ·exact .inr e
 have nK3:¬ K3.has KB.c:=fun e=>by
  rcases k3.nw _ e with e|e
  ·exact sc e
  ·exact hcf2 e
 have noc:¬ KB.o=KB.c:=fun e=>by rw[e,hyr]at u2o;cases u2o
 refine⟨_,_,Wk.refl _,Fg.refl _,(u3.set KB.c (.row vw 5 Y'),⟨K3,KB.o,KB.c⟩,ns3),by rw[hT,hkr],rfl,?_⟩
 rw[hT]
 refine⟨⟨m3.keep fun z hz=>j_ _ _ fun e=>nK3 (e ▸ hz),?_,⟨ys.set i ⟨true,ka,kb,kc,kr⟩,?_,?_⟩⟩,hE,?_,rfl⟩
 ·refine(j_ _ _ noc).trans ((k3.out _ hof2 so).trans (u2o.trans ?_))
  rw[k3.p,k2p]
 ·exact(q_ _ _ _).trans (by rw[hY'])
 ·refine⟨by rw[List.length_set];exact hyl,fun e he hi=>?_⟩
  rcases List.mem_or_eq_of_mem_set he with he|he
  ·exact(CacheOk.ext ⟨hyl,hye⟩ x3).2 e he hi
  ·subst he
   obtain⟨a1,a2⟩:=sub1 _ ha
   obtain⟨b1,b2⟩:=sub1 _ hb
   obtain⟨d1,d2⟩:=sub1 _ hc
   exact⟨ta,tb,tc,a1,b1,d1,by rw[a2,hka],by rw[b2,hkb],by rw[d2,hkc],by rw[hT];exact x3.mem,by rw[hT,hkr]⟩
 ·have k4:OKeep u3 (u3.set KB.c (.row vw 5 Y')) ⟨K3,K2.o,K2.c⟩ ⟨K3,KB.o,KB.c⟩:=by
   refine⟨rfl,rfl,k2o.symm,fun z hz=>.inl ?_,fun z hz hn=>j_ _ _ fun e=>hn (.inr (.inr ?_))⟩
   ·rcases hz with e|e|e
    ·exact .inl e
    ·exact .inr (.inl (e.trans k2o.symm))
    ·exact .inr (.inr (e.trans (c2.trans c1).symm))
   ·exact e.trans (c2.trans c1).symm
  exact((hKS.trans k1).trans k2).trans (k3.toO.trans k4)
set_option maxHeartbeats 4000000 in
theorem za {s:St}{KB:OB}{n B:Nat}{ns:List Tr}(hO:OMem1 s KB n B ns){ta tb tc:Tr}(ha:ta∈ns)(hb:tb∈ns)(hc:tc∈ns)(h1:¬ ta=.lf true)(h2:¬ ta=.lf false)(h3:¬ tb=tc)(h4:¬ (tb=.lf true/\tc=.lf false))(hF:FitN ns (iteT n ta tb tc) B)
  (ih:∀(s:St) (K0:OB) (ns:List Tr) (va vb vc:Tr),OMem1 s K0 n B ns->va∈ns->vb∈ns->vc∈ns->OkT n (min (min (min n (aW n ta)) (aW n tb)) (aW n tc)+1) va->OkT n (min (min (min n (aW n ta)) (aW n tb)) (aW n tc)+1) vb->OkT n (min (min (min n (aW n ta)) (aW n tb)) (aW n tc)+1) vc->FitN ns (iteT n va vb vc) B->lE s K0 n B ns va vb vc) :
  lE s KB n B ns ta tb tc:=by
 have hN:=hO.st.ok
 have hbd:=hO.st.bd
 obtain⟨xs,hcr,hcl,hce⟩:=hO.ca
 have hob:=hO.ob
 have e1:¬ ((ixN ns ta:Nat):Int)=1:=fun e=>h1 (((hN.one ha).1).1 (by omega))
 have e2:¬ ((ixN ns ta:Nat):Int)=0:=fun e=>h2 (((hN.one ha).2).1 (by omega))
 have e3:¬ ((ixN ns tb:Nat):Int)=((ixN ns tc:Nat):Int):=fun e=>h3 (cw hb hc (by omega))
 have e4:¬ (((ixN ns tb:Nat):Int)=1/\((ixN ns tc:Nat):Int)=0):=fun e=>h4 ⟨((hN.one hb).1).1 (by omega),((hN.one hc).2).1 (by omega)⟩
 have la:=gD ha
 have lb:=gD hb
 have lc:=gD hc
 have ba:((ixN ns ta:Nat):Int)<=1048576:=by omega
 have bb:((ixN ns tb:Nat):Int)<=1048576:=by omega
 have bc:((ixN ns tc:Nat):Int)<=1048576:=by omega
 obtain⟨f,hf,hf2⟩:=yX
 have hnode:min (min (min n (aW n ta)) (aW n tb)) (aW n tc)<n:=by
  cases ta with
  |lf b=>cases b<;>simp_all
  |nd w l r=>
   have:=(hN.ok _ ha).2.1
   simp only[aW]
   omega
 have hva:∀t,t∈ns->py n t=aW n t:=fun t _=>by cases t<;>rfl
 have v1:min (min (min n (aW n ta)) (aW n tb)) (aW n tc)<=py n ta:=by rw[hva _ ha];omega
 have v2:min (min (min n (aW n ta)) (aW n tb)) (aW n tc)<=py n tb:=by rw[hva _ hb];omega
 have v3:min (min (min n (aW n ta)) (aW n tb)) (aW n tc)<=py n tc:=by rw[hva _ hc];omega
 have HVN:=o_ hnode
 have HSTEP:=o_ (yE (hN.ok _ ha) (hN.ok _ hb) (hN.ok _ hc) v1 v2 v3 hnode)
 have HTOP:=o_ (And.intro ((hN.ok _ ha).at_top v1 hnode).2 (And.intro ((hN.ok _ hb).at_top v2 hnode).2 ((hN.ok _ hc).at_top v3 hnode).2))
 clear v1 v2 v3 hva hnode
 have hof:s KB.o≠.free:=by rw[hob];simp
 have hcf:s KB.c≠.free:=by rw[hcr];simp
 have noc:¬ KB.o=KB.c:=fun e=>by rw[e,hcr]at hob;cases hob
 unfold lE
 have HA:=o_ ha
 have HB:=o_ hb
 have HC:=o_ hc
 have HN:=o_ hN
 have HO:=o_ hO
 have HE:=o_ hce
 have HF:=o_ hF
 have IH:=o_ ih
 clear ha hb hc hN hO h1 h2 h3 h4 la lb lc hbd hce hF ih
 unfold c9 mn vw at *
 generalize hka:ixN ns ta=ka at *
 generalize hkb:ixN ns tb=kb at *
 generalize hkc:ixN ns tc=kc at *
 have HKA:=o_ hka
 have HKB:=o_ hkb
 have HKC:=o_ hkc
 clear hka hkb hkc
 have ka0:(0:Int)<=ka:=Int.natCast_nonneg _
 have kb0:(0:Int)<=kb:=Int.natCast_nonneg _
 have kc0:(0:Int)<=kc:=Int.natCast_nonneg _
 have hf':=hf ((ka:Int) * 7+(kb:Int) * 31+(kc:Int) * 127)
 have hi:=hf2 ((ka:Int) * 7+(kb:Int) * 31+(kc:Int) * 127)
 generalize f ((ka:Int) * 7+(kb:Int) * 31+(kc:Int) * 127)=i at hf' hi
 clear hf hf2
 obtain⟨e,hxe⟩:∃e,xs[i]?=some e:=⟨_,m_ (by omega)⟩
 have x0:(cP xs)[i * 5]?=some (.bool e.is):=qG (j:=0) hxe (by omega)
 have x1:=BA hxe
 have x4:(cP xs)[i * 5+4]?=some (.int .i64 e.k):=qG (j:=4) hxe (by omega)
 have xl:=oU xs
 rw[hcl]at xl
 have hem:=y_ hxe
 obtain⟨is,ea,eb,ec,ek⟩:=e
 dsimp only at x0 x1 x4
 by_cases hit:is=true/\ea=ka/\eb=kb/\ec=kc
 ·obtain⟨rfl,rfl,rfl,rfl⟩:=hit
  obtain⟨ta',tb',tc',m1,m2,m3,q1,q2,q3,q4,q5⟩:=HE.out _ hem rfl
  dsimp only at q1 q2 q3 q5
  have j1:ta'=ta:=cw m1 HA.out (by rw[HKA.out];omega)
  have j2:tb'=tb:=cw m2 HB.out (by rw[HKB.out];omega)
  have j3:tc'=tc:=cw m3 HC.out (by rw[HKC.out];omega)
  subst j1 j2 j3
  subst q5
  have HR:Hid (OpR s KB n B ns (iteT n ta' tb' tc') (s,KB,ns)):=o_ ⟨HO.out,.refl q4,.refl _ _,rfl⟩
  generalize hW:ixN ns (iteT n ta' tb' tc')=kw at *
  have HW:=o_ hW
  generalize hX:cP xs=X at *
  clear hW q1 q2 q3 q4 m1 m2 m3 hem hxe hX IH HE
  refine am Tryz.func108 rfl Tryz.ntmps108 rfl fun Q hQ hQe=>?_
  (repeat'(first|refine Ctl ?_|(with_reducible first|(refine k_ hK ?_;clear hK hE K E)|(refine k_ hKh ?_;clear hKh Kh)|refine ax 9 [] [0,1,2,3,4,5,6,7,8,9,10,11] hQe fun K E hK hE=>?_)|((with_reducible refine ah (fun h=>?_) (fun h=>?_))<;>(try(exfalso;assumption)))|((first|(with_reducible first|refine ab fun K E hK hE=>?_|refine d6 ?_|refine aG fun Kh hKh=>?_)|((with_reducible refine au (fun b hb=>?_));(try(obtain⟨_,_⟩:=nef hb hof;obtain⟨_,_⟩:=nef hb hcf)))|((with_reducible refine pH (fun h=>?_) (fun h=>?_))))<;>(try simp(disch:=omega) only[go_sem,seval,hf',x0,x1,x4, *]))))
  ·exact absurd ⟨of_eq_true (by assumption),of_eq_true (by assumption)⟩ e4
  all_goals(refine aq jj hQ ?_)
  all_goals exact⟨_,_,Wk.refl _,Fg.setA (Fg.refl _) hb,(s,KB,ns),by rw[<- HW.out],rfl,HR.out⟩
 ·have hd:is=true->(decide (ea=(ka:Int)) && (decide (eb=(kb:Int)) && decide (ec=(kc:Int))))=false:=fun h=>by
   rw[Bool.eq_false_iff]
   intro h2
   simp only[Bool.and_eq_true,decide_eq_true_eq]at h2
   exact hit ⟨h,h2.1,h2.2.1,h2.2.2⟩
  have HX:=o_ (show s KB.c=.row 209 5 (cP xs) from hcr)
  have HB':=o_ hi
  have HCL:=o_ hcl
  clear hit hem hxe
  generalize hX:cP xs=X at *
  have HXX:=o_ hX
  clear hX
  cases is
  all_goals
   try replace hd:=hd rfl
   refine am Tryz.func108 rfl Tryz.ntmps108 rfl fun Q hQ hQe=>?_
   (repeat'(first|(with_reducible refine aR 11 ?_)|refine Ctl ?_|(with_reducible first|(refine k_ hK ?_;clear hK hE K E)|(refine k_ hKh ?_;clear hKh Kh)|refine ax 9 [] [0,1,2,3,4,5,6,7,8,9,10,11] hQe fun K E hK hE=>?_)|((with_reducible refine ah (fun h=>?_) (fun h=>?_))<;>(try(exfalso;assumption)))|((first|(with_reducible first|refine ab fun K E hK hE=>?_|refine d6 ?_|refine aG fun Kh hKh=>?_)|((with_reducible refine au (fun b hb=>?_));(try(obtain⟨_,_⟩:=nef hb hof;obtain⟨_,_⟩:=nef hb hcf)))|((with_reducible refine pH (fun h=>?_) (fun h=>?_))))<;>(try simp(disch:=omega) only[go_sem,seval,hf',x0,x1,x4, *]))))
   ·exact absurd ⟨of_eq_true (by assumption),of_eq_true (by assumption)⟩ e4
   all_goals
    unfold bC
    refine bE fun S hS=>?_
    have hSz:∀z,s z≠.free->S z=s z:=fun z hz=>by rw[hS];exact j_ _ _ (nef hb hz).1
    have hSb:S b=.obj 47 [.int .i64 ka,.int .i64 kb,.int .i64 kc]:=by rw[hS];exact q_ _ _ _
    have hSo:=(hSz _ hof).trans hob
    clear hS
    have bN:¬ KB.has b:=fun e=>HO.out.live' e hb
    have hKS:OKeep s S KB KB:=⟨rfl,rfl,rfl,fun z hz=>.inl hz,fun z hz _=>hSz z hz⟩
    have hSO:OMem1 S KB n B ns:=HO.out.keep fun z hz=>hSz z (HO.out.live' hz)
    have hbf:S b≠.free:=by rw[hSb];simp
    have ga:=bS HA.out
    have gb:=bS HB.out
    have gc:=bS HC.out
    rw[HKA.out]at ga
    rw[HKB.out]at gb
    rw[HKC.out]at gc
    have w0:=MC S KB n B ns (.inr hSO) ka kb kc ta tb tc ga gb gc .full
    have hvn:min (min (min n (aW n ta)) (aW n tb)) (aW n tc)<n:=HVN.out
    have ih:=IH.out
    have HV:=HTOP.out
    obtain⟨o1,o2,hT⟩:=HSTEP.out
    generalize min (min (min n (aW n ta)) (aW n tb)) (aW n tc)=v at *
    have HVV:=o_ hvn
    have w1:=pn (.inr hSO) hvn HA.out
    have w2:=pn (.inr hSO) hvn HB.out
    have w3:=pn (.inr hSO) hvn HC.out
    rw[HKA.out]at w1
    rw[HKB.out]at w2
    rw[HKC.out]at w3
    obtain⟨la,ra⟩:=HN.out.lo HA.out v
    obtain⟨lb,rb⟩:=HN.out.lo HB.out v
    obtain⟨lc,rc⟩:=HN.out.lo HC.out v
    obtain⟨oa1,oa2⟩:=HV.1
    obtain⟨ob1,ob2⟩:=HV.2.1
    obtain⟨oc1,oc2⟩:=HV.2.2
    have fL:FitN ns (iteT n (loT v ta) (loT v tb) (loT v tc)) B:=fun X hX hs=>HF.out X hX fun t ht=>(hs t ht).imp id fun e=>by rw[hT];exact gv (.inl e)
    have wl:=ih S KB ns _ _ _ hSO la lb lc oa1 ob1 oc1 fL
    unfold lE at wl
    have H1:=o_ (And.intro oa2 (And.intro ob2 oc2))
    have H2:=o_ (And.intro ra (And.intro rb rc))
    have HT:=o_ hT
    have HKSh:=o_ hKS
    have IH2:=o_ ih
    have HSO2:=o_ hSO
    have HOO:=o_ (And.intro o1 o2)
    clear ih HV oa1 ob1 oc1 oa2 ob2 oc2 la lb lc ra rb rc fL hT hKS o1 o2 ga gb gc hSz hSO IH HSTEP HTOP HVN hvn
    generalize hla:ixN ns (loT v ta)=na at *
    generalize hlb:ixN ns (loT v tb)=nb at *
    generalize hlc:ixN ns (loT v tc)=nc at *
    generalize hra:ixN ns (hiT v ta)=qa at *
    generalize hrb:ixN ns (hiT v tb)=qb at *
    generalize hrc:ixN ns (hiT v tc)=qc at *
    have HQ:=o_ (And.intro hra (And.intro hrb hrc))
    clear hla hlb hlc hra hrb hrc
    (repeat'(first|refine Ctl ?_|((with_reducible refine k_ hK ?_);clear hK hE K E)|(((with_reducible first|refine ab fun K E hK hE=>?_|refine ae Mh (w0) ?_|refine ae vC (w1) ?_|refine ae vC (w2) ?_|refine ae vC (w3) ?_))<;>(try simp(disch:=assumption) only[go_sem,seval, *]))))
    refine ao vJ wl (fun a h=>?_)
    obtain⟨u1,K1,ns1⟩:=a
    obtain⟨m1,x1',k1,c1⟩:=h
    dsimp only at m1 x1' k1 c1 ⊢
    have k1p:=k1.p
    have k1o:=k1.o
    have u1o:=m1.ob
    unfold c9 mn at u1o
    rw[k1o,k1p,c1]at u1o
    have u1b:=(k1.out b hbf bN).trans hSb
    have hv2:=HVV.out
    obtain⟨oa2,ob2,oc2⟩:=H1.out
    obtain⟨ra,rb,rc⟩:=H2.out
    obtain⟨ra1,ra2⟩:=x1'.sub ra
    obtain⟨rb1,rb2⟩:=x1'.sub rb
    obtain⟨rc1,rc2⟩:=x1'.sub rc
    obtain⟨qa1,qb1,qc1⟩:=HQ.out
    have fH:FitN ns1 (iteT n (hiT v ta) (hiT v tb) (hiT v tc)) B:=HF.out.ext x1' (fun t ht=>by rw[HT.out];exact gv (.inl ht)) (fun t ht=>by rw[HT.out];exact gv (.inr ht))
    have wh:=IH2.out u1 K1 ns1 _ _ _ m1 ra1 rb1 rc1 oa2 ob2 oc2 fH
    unfold lE at wh
    rw[ra2,rb2,rc2,qa1,qb1,qc1,k1o]at wh
    have M1:=o_ (And.intro m1 (And.intro x1' k1))
    clear oa2 ob2 oc2 ra rb rc ra1 rb1 rc1 ra2 rb2 rc2 qa1 qb1 qc1 fH m1 x1' k1 w0 w1 w2 w3 wl IH2
    have hb1:u1 b≠.free:=by rw[u1b];simp
    generalize hkl:ixN ns1 (iteT n (loT v ta) (loT v tb) (loT v tc))=kl at *
    have HKL:=o_ hkl
    clear hkl
    simp only[go_sem,seval]
    (repeat'(first|refine Ctl ?_|((with_reducible refine k_ hK ?_);clear hK hE K E)|((with_reducible refine ah (fun h=>?_) (fun h=>?_))<;>(try(exfalso;assumption)))|(((with_reducible refine ab fun K E hK hE=>?_))<;>(try simp(disch:=assumption) only[go_sem,seval, *]))))
    refine ao vJ wh (fun a h=>?_)
    obtain⟨u2,K2,ns2⟩:=a
    obtain⟨m2,x2',k2,c2⟩:=h
    dsimp only at m2 x2' k2 c2 ⊢
    obtain⟨m1,x1',k1⟩:=M1.out
    have bN1:¬ K1.has b:=fun e=>by
     rcases k1.nw b e with e|e
     ·exact bN e
     ·exact hbf e
    have k2p:=k2.p.trans k1p
    have k2o:=k2.o.trans k1o
    have u2o:=m2.ob
    unfold c9 mn at u2o
    rw[k2o,k2p,c2,c1]at u2o
    have u2b:=(k2.out b hb1 bN1).trans u1b
    obtain⟨l2,e2l⟩:=x2'.sub x1'.mem
    rw[HKL.out]at e2l
    obtain⟨o1,o2⟩:=HOO.out
    have fM:FitN ns2 (mkT v (iteT n (loT v ta) (loT v tb) (loT v tc)) (iteT n (hiT v ta) (hiT v tb) (hiT v tc))) B:=fun X hX hs=>HF.out X hX fun t ht=>by
     rcases hs t ht with e|e
     ·rcases x2'.new t e with e|e
      ·rcases x1'.new t e with e|e
       ·exact .inl e
       ·exact .inr (by rw[HT.out];exact gv (.inl e))
      ·exact .inr (by rw[HT.out];exact gv (.inr e))
     ·exact .inr (by rw[HT.out];exact e)
    have wm:=xU m2.st l2 x2'.mem o1 o2 hv2 fM
    rw[k2p,e2l]at wm
    have M2:=o_ (And.intro m2 (And.intro x2' (And.intro k2 (And.intro c2 bN1))))
    clear m1 x1' k1 bN1 m2 x2' k2 o1 o2 fM wh e2l l2
    have hb2:u2 b≠.free:=by rw[u2b];simp
    generalize hkh:ixN ns2 (iteT n (hiT v ta) (hiT v tb) (hiT v tc))=kh at *
    have HKH:=o_ hkh
    clear hkh
    simp only[go_sem,seval]
    (repeat'(first|refine Ctl ?_|((with_reducible refine k_ hK ?_);clear hK hE K E)|((with_reducible refine ah (fun h=>?_) (fun h=>?_))<;>(try(exfalso;assumption)))|(((with_reducible refine ab fun K E hK hE=>?_))<;>(try simp(disch:=assumption) only[go_sem,seval, *]))))
    refine ao oW wm (fun a h=>?_)
    obtain⟨u3,K3,ns3⟩:=a
    obtain⟨m3,x3',k3⟩:=h
    dsimp only at m3 x3' k3 ⊢
    obtain⟨m2,x2',k2,c2,bN1⟩:=M2.out
    have bN2:¬ K2.has b:=fun e=>by
     rcases k2.nw b e with e|e
     ·exact bN1 e
     ·exact hb1 e
    obtain⟨sc,so⟩:=m2.sep
    obtain⟨ys,hyr,hyl,hye⟩:=m2.ca
    rw[c2,c1]at hyr sc
    rw[k2o]at so
    have hcf2:u2 KB.c≠.free:=by rw[hyr];simp
    have hof2:u2 KB.o≠.free:=by rw[u2o];simp
    have u3c:=(k3.out _ hcf2 sc).trans hyr
    have u3b:=(k3.out _ hb2 (fun e=>bN2 (.inl e))).trans u2b
    unfold vw at u3c
    have HYE:=o_ hye
    have HYL:=o_ hyl
    have M3:=o_ (And.intro m3 (And.intro x3' (And.intro k3 (And.intro sc (And.intro so (And.intro bN2 (And.intro hcf2 hof2)))))))
    have yin:i * 5+5<=(cP ys).length:=E7 (by rw[hyl];exact HB'.out)
    have yset:=tJ (l:=ys) (k:=i) (e:=⟨true,ka,kb,kc,(ixN ns3 (mkT v (iteT n (loT v ta) (loT v tb) (loT v tc)) (iteT n (hiT v ta) (hiT v tb) (hiT v tc))):Nat)⟩) (by rw[hyl];exact HB'.out)
    dsimp only[ceC]at yset
    clear m2 x2' k2 c2 bN1 bN2 sc so hye hyl m3 x3' k3 wm
    have nbc:¬ b=KB.c:=by assumption
    generalize hkr:ixN ns3 (mkT v (iteT n (loT v ta) (loT v tb) (loT v tc)) (iteT n (hiT v ta) (hiT v tb) (hiT v tc)))=kr at *
    have HKR:=o_ hkr
    clear hkr
    generalize hY:cP ys=Y at *
    generalize hY':cP (ys.set i ⟨true,ka,kb,kc,kr⟩)=Y' at *
    have HY':=o_ hY'
    clear hY hY'
    simp only[go_sem,seval]
    (repeat'(first|refine Ctl ?_|((with_reducible refine k_ hK ?_);clear hK hE K E)|((with_reducible refine ah (fun h=>?_) (fun h=>?_))<;>(try(exfalso;assumption)))|(((with_reducible refine ab fun K E hK hE=>?_))<;>(try simp(disch:=assumption) only[go_sem,seval,yset, *]))))
    (refine aq jj hQ ?_)
    exact EH HO.out HA.out HB.out HC.out HT.out HKSh.out M1.out M2.out c1 k1o k1p k2p k2o M3.out HYE.out HYL.out HKA.out HKB.out HKC.out HKR.out HY'.out hyr u2o
theorem MH {n B:Nat}:∀(d m:Nat) (s:St) (K:OB) (ns:List Tr) (ta tb tc:Tr),n - m<=d->OMem1 s K n B ns->ta∈ns->tb∈ns->tc∈ns->OkT n m ta->OkT n m tb->OkT n m tc->FitN ns (iteT n ta tb tc) B->lE s K n B ns ta tb tc:=by
 intro d
 induction d with
 |zero=>
  intro m s K ns ta tb tc hd hO ha hb hc oa ob oc hF
  cases ta with
  |lf b=>
   cases b with
   |true=>exact kH hO ha hb hc (.inl rfl)
   |false=>
    by_cases h3:tb=tc
    ·exact kH hO ha hb hc (.inr h3)
    ·exact qK hO ha hb hc h3 rfl
  |nd w l r=>
   have:=oa.1
   have:=oa.2.1
   omega
 |succ d ih=>
  intro m s K ns ta tb tc hd hO ha hb hc oa ob oc hF
  by_cases h1:ta=.lf true
  ·exact kH hO ha hb hc (.inl h1)
  by_cases h3:tb=tc
  ·exact kH hO ha hb hc (.inr h3)
  by_cases h2:ta=.lf false
  ·exact qK hO ha hb hc h3 h2
  by_cases h4:tb=.lf true/\tc=.lf false
  ·exact y9 hO ha hb hc h1 h2 h4.1 h4.2
  have hge:∀t:Tr,OkT n m t->m<=n->m<=aW n t:=fun t ht hm=>by
   cases t with
   |lf b=>exact hm
   |nd w l r=>exact ht.1
  have hmn:m<n:=by
   cases ta with
   |lf b=>cases b<;>simp_all
   |nd w l r=>exact Nat.lt_of_le_of_lt oa.1 oa.2.1
  refine za hO ha hb hc h1 h2 h3 h4 hF fun s' K' ns' va vb vc a1 a2 a3 a4 a5 a6 a7 a8=>ih _ s' K' ns' va vb vc ?_ a1 a2 a3 a4 a5 a6 a7 a8
  have:=hge _ oa (by omega)
  have:=hge _ ob (by omega)
  have:=hge _ oc (by omega)
  omega
end Go.Proofs.YtohnaepcgnbaiaaGreatDoor
