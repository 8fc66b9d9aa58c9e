/- Walks. Conditions: in the statements. -/
import Derived.Test.YtohnaepcgnbaiaaGreatDoorJlIcj
set_option maxHeartbeats 32000000
set_option linter.unusedSimpArgs false
set_option linter.unusedVariables false
set_option maxRecDepth 100000
namespace Go.Proofs.YtohnaepcgnbaiaaGreatDoor
open Go.RowKit
theorem qK {s:St}{K:OB}{n B:Nat}{ns:Td}(hO:OMem1 s K n B ns){ta tb tc:Tr}(ha:ta∈ns)(hb:tb∈ns)(hc:tc∈ns)(h1:¬ tb=tc)(h:ta=.lf false):lE s K n B ns ta tb tc:=by
 have hN:=hO.st.ok
 have hT:iteT n ta tb tc=tc:=by rw[h];exact yD (hN.ok _ hb) (hN.ok _ hc)
 unfold lE
 rw[hT]
 have hR:OpR s K n B ns tc (s,K,ns):=⟨hO,.refl hc,.refl _ _,rfl⟩
 have h2:ixN ns ta=0:=((hN.one ha).2).2 h
 have h3:¬ ((ixN ns tb:Nat):Int)=((ixN ns tc:Nat):Int):=fun e=>h1 (cw hb hc (by omega))
 have HR:=o_ hR
 clear hR h hO hT h1
 rw[h2]
 suffices hs:SRet Tryz.prog 108 [.ptr K.o 0,.int .i64 ((0:Nat):Int),.int .i64 (ixN ns tb:Nat),.int .i64 (ixN ns tc:Nat)] s (.tup [.int .i64 (ixN ns tc:Nat),.int .i64 0]) s by
  refine SCalls.mono (h:=hs) ?_
  rintro w u ⟨rfl,rfl⟩
  exact⟨(u,K,ns),rfl,rfl,HR.out⟩
 generalize ixN ns tb=kb at *
 generalize ixN ns tc=kc at *
 refine am Tryz.func108 rfl Tryz.ntmps108 rfl fun Q hQ hQe=>?_
 (repeat'(first|refine Ctl ?_|((with_reducible refine k_ hK ?_);clear hK hE K E)|((with_reducible refine bZ (fun h=>?_) (fun h=>?_))<;>(try(exfalso;assumption)))|(((with_reducible refine ab fun K E hK hE=>?_))<;>(try simp(disch:=assumption) only[go_sem,seval,Int.natCast_zero,Int.ofNat_zero, *]))))
 all_goals(refine aq jj hQ ?_)
 all_goals(refine⟨_,_,Wk.of_eq ?_,?_,rfl,rfl⟩)
 all_goals first|rfl|(exact bK)
theorem y9 {s:St}{K:OB}{n B:Nat}{ns:Td}(hO:OMem1 s K n B ns){ta tb tc:Tr}(ha:ta∈ns)(hb:tb∈ns)(hc:tc∈ns)(h1:¬ ta=.lf true)(h2:¬ ta=.lf false)(h3:tb=.lf true)(h4:tc=.lf false):lE s K n B ns ta tb tc:=by
 have hN:=hO.st.ok
 have hT:iteT n ta tb tc=ta:=by rw[h3,h4];exact yF (hN.ok _ ha)
 unfold lE
 rw[hT]
 have hR:OpR s K n B ns ta (s,K,ns):=⟨hO,.refl ha,.refl _ _,rfl⟩
 have e1:¬ ((ixN ns ta:Nat):Int)=1:=fun e=>h1 (((hN.one ha).1).1 (by omega))
 have e2:¬ ((ixN ns ta:Nat):Int)=0:=fun e=>h2 (((hN.one ha).2).1 (by omega))
 have e3:ixN ns tb=1:=((hN.one hb).1).2 h3
 have e4:ixN ns tc=0:=((hN.one hc).2).2 h4
 have HR:=o_ hR
 clear hR hO hT h1 h2 h3 h4
 rw[e3,e4]
 suffices hs:SRet Tryz.prog 108 [.ptr K.o 0,.int .i64 (ixN ns ta:Nat),.int .i64 ((1:Nat):Int),.int .i64 ((0:Nat):Int)] s (.tup [.int .i64 (ixN ns ta:Nat),.int .i64 0]) s by
  refine SCalls.mono (h:=hs) ?_
  rintro w u ⟨rfl,rfl⟩
  exact⟨(u,K,ns),rfl,rfl,HR.out⟩
 clear e3 e4
 generalize ixN ns ta=ka at *
 refine am Tryz.func108 rfl Tryz.ntmps108 rfl fun Q hQ hQe=>?_
 (repeat'(first|refine Ctl ?_|((with_reducible refine k_ hK ?_);clear hK hE K E)|((with_reducible refine bZ (fun h=>?_) (fun h=>?_))<;>(try(exfalso;assumption)))|(((with_reducible refine ab fun K E hK hE=>?_))<;>(try simp(disch:=assumption) only[go_sem,seval,Int.natCast_zero,Int.ofNat_zero,Int.natCast_one, *]))))
 all_goals(refine aq jj hQ ?_)
 all_goals(refine⟨_,_,Wk.of_eq ?_,?_,rfl,rfl⟩)
 all_goals first|rfl|(exact bK)
theorem EH {s S u1 u2 u3:St}{KB K1 K2:OB}{K3:SB}{n B v i b ka kb kc kr:Nat}{ns ns1 ns2 ns3:Td}{ta tb tc L H:Tr}{ys:List CE}{Y' Y:Tb}
  (hO:OMem1 s KB n B ns) (ha:ta∈ns) (hb:tb∈ns) (hc:tc∈ns) (hT:iteT n ta tb tc=mkT v L H) (hKS:OKeep s S KB KB)
  (M1:OMem1 u1 K1 n B ns1/\ExtN ns ns1 L/\OKeep S u1 KB K1) (M2:OMem1 u2 K2 n B ns2/\ExtN ns1 ns2 H/\OKeep u1 u2 K1 K2/\K2.c=K1.c/\¬ K1.has b)
  (c1:K1.c=KB.c) (k1o:K1.o=KB.o) (k1p:K1.s.p=KB.s.p) (k2p:K2.s.p=KB.s.p) (k2o:K2.o=KB.o)
  (M3:SMem u3 K3 n B ns3/\ExtN ns2 ns3 (mkT v L H)/\SKeep u2 u3 K2.s K3/\¬ K2.s.has KB.c/\¬ K2.s.has KB.o/\¬ K2.has b/\u2 KB.c≠.free/\u2 KB.o≠.free)
  (hye:∀e,e∈ys->e.is=true->∃ta tb tc,ta∈ns2/\tb∈ns2/\tc∈ns2/\e.a=((ixN ns2 ta:Nat):Int)/\e.b=((ixN ns2 tb:Nat):Int)/\e.c=((ixN ns2 tc:Nat):Int)/\iteT n ta tb tc∈ns2/\e.k=((ixN ns2 (iteT n ta tb tc):Nat):Int))
  (hyl:ys.length=4096) (hka:ixN ns ta=ka) (hkb:ixN ns tb=kb) (hkc:ixN ns tc=kc) (hkr:ixN ns3 (mkT v L H)=kr) (hY':cP (ys.set i ⟨true,ka,kb,kc,kr⟩)=Y') (hyr:u2 KB.c=.row vw 5 Y)
  (u2o:u2 KB.o=.obj mn (c9 KB.s.p 1 0 (.mrw KB.c 4096))) :
  ∃y s',Wk (.tup [.int .i64 kr,.int .i64 0]) y/\Fg (u3.set KB.c (.row vw 5 Y')) s'/\∃a:gJ,SEnd.ret y=.ret (.tup [.int .i64 (ixN a.2.2 (iteT n ta tb tc):Nat),.int .i64 0])/\s'=a.1/\OpR s KB n B ns (iteT n ta tb tc) a:=by
 obtain⟨m1,x1,k1⟩:=M1
 obtain⟨m2,x2,k2,c2,bN1⟩:=M2
 obtain⟨m3,x3,k3,sc,so,bN2,hcf2,hof2⟩:=M3
 have sub1:∀t,t∈ns->t∈ns3/\ixN ns3 t=ixN ns t:=fun t ht=>by
  obtain⟨a1,a2⟩:=x1.sub ht
  obtain⟨b1,b2⟩:=x2.sub a1
  obtain⟨d1,d2⟩:=x3.sub b1
  exact⟨d1,by rw[d2,b2,a2]⟩
 have hE:ExtN ns ns3 (mkT v L H):=by
  obtain⟨p1,e1⟩:=x1.pre
  obtain⟨p2,e2⟩:=x2.pre
  obtain⟨p3,e3⟩:=x3.pre
  refine⟨⟨p1++p2++p3,by rw[e3,e2,e1];simp⟩,fun t ht=>?_,x3.mem⟩
  rcases x3.new t ht with e|e
  ·rcases x2.new t e with e|e
   ·rcases x1.new t e with e|e
    ·exact .inl e
    ·exact .inr (gv (.inl e))
   ·exact .inr (gv (.inr e))
  ·exact .inr e
 have nK3:¬ K3.has KB.c:=fun e=>by
  rcases k3.nw _ e with e|e
  ·exact sc e
  ·exact hcf2 e
 have noc:¬ KB.o=KB.c:=fun e=>by rw[e,hyr]at u2o;cases u2o
 refine⟨_,_,Wk.refl _,Fg.refl _,(u3.set KB.c (.row vw 5 Y'),⟨K3,KB.o,KB.c⟩,ns3),by rw[hT,hkr],rfl,?_⟩
 rw[hT]
 refine⟨⟨m3.keep fun z hz=>j_ _ _ fun e=>nK3 (e ▸ hz),?_,⟨ys.set i ⟨true,ka,kb,kc,kr⟩,?_,?_⟩⟩,hE,?_,rfl⟩
 ·refine(j_ _ _ noc).trans ((k3.out _ hof2 so).trans (u2o.trans ?_))
  rw[k3.p,k2p]
 ·exact(q_ _ _ _).trans (by rw[hY'])
 ·refine⟨by rw[List.length_set];exact hyl,fun e he hi=>?_⟩
  rcases List.mem_or_eq_of_mem_set he with he|he
  ·exact(CacheOk.ext ⟨hyl,hye⟩ x3).2 e he hi
  ·subst he
   obtain⟨a1,a2⟩:=sub1 _ ha
   obtain⟨b1,b2⟩:=sub1 _ hb
   obtain⟨d1,d2⟩:=sub1 _ hc
   exact⟨ta,tb,tc,a1,b1,d1,by rw[a2,hka],by rw[b2,hkb],by rw[d2,hkc],by rw[hT];exact x3.mem,by rw[hT,hkr]⟩
 ·have k4:OKeep u3 (u3.set KB.c (.row vw 5 Y')) ⟨K3,K2.o,K2.c⟩ ⟨K3,KB.o,KB.c⟩:=by
   refine⟨rfl,rfl,k2o.symm,fun z hz=>.inl ?_,fun z hz hn=>j_ _ _ fun e=>hn (.inr (.inr ?_))⟩
   ·rcases hz with e|e|e
    ·exact .inl e
    ·exact .inr (.inl (e.trans k2o.symm))
    ·exact .inr (.inr (e.trans (c2.trans c1).symm))
   ·exact e.trans (c2.trans c1).symm
  exact((hKS.trans k1).trans k2).trans (k3.toO.trans k4)
theorem za {s:St}{KB:OB}{n B:Nat}{ns:Td}(hO:OMem1 s KB n B ns){ta tb tc:Tr}(ha:ta∈ns)(hb:tb∈ns)(hc:tc∈ns)(h1:¬ ta=.lf true)(h2:¬ ta=.lf false)(h3:¬ tb=tc)(h4:¬ (tb=.lf true/\tc=.lf false))(hF:FitN ns (iteT n ta tb tc) B)
  (ih:∀(s:St) (K0:OB) (ns:Td) (va vb vc:Tr),OMem1 s K0 n B ns->va∈ns->vb∈ns->vc∈ns->OkT n (min (min (min n (aW n ta)) (aW n tb)) (aW n tc)+1) va->OkT n (min (min (min n (aW n ta)) (aW n tb)) (aW n tc)+1) vb->OkT n (min (min (min n (aW n ta)) (aW n tb)) (aW n tc)+1) vc->FitN ns (iteT n va vb vc) B->lE s K0 n B ns va vb vc) :
  lE s KB n B ns ta tb tc:=by
 have hN:=hO.st.ok
 have hbd:=hO.st.bd
 obtain⟨xs,hcr,hcl,hce⟩:=hO.ca
 have hob:=hO.ob
 have e1:¬ ((ixN ns ta:Nat):Int)=1:=fun e=>h1 (((hN.one ha).1).1 (by omega))
 have e2:¬ ((ixN ns ta:Nat):Int)=0:=fun e=>h2 (((hN.one ha).2).1 (by omega))
 have e3:¬ ((ixN ns tb:Nat):Int)=((ixN ns tc:Nat):Int):=fun e=>h3 (cw hb hc (by omega))
 have e4:¬ (((ixN ns tb:Nat):Int)=1/\((ixN ns tc:Nat):Int)=0):=fun e=>h4 ⟨((hN.one hb).1).1 (by omega),((hN.one hc).2).1 (by omega)⟩
 have la:=gD ha
 have lb:=gD hb
 have lc:=gD hc
 have ba:((ixN ns ta:Nat):Int)<=1048576:=by omega
 have bb:((ixN ns tb:Nat):Int)<=1048576:=by omega
 have bc:((ixN ns tc:Nat):Int)<=1048576:=by omega
 obtain⟨f,hf,hf2⟩:=yX
 have hnode:min (min (min n (aW n ta)) (aW n tb)) (aW n tc)<n:=by
  cases ta with
  |lf b=>cases b<;>simp_all
  |nd w l r=>
   have:=(hN.ok _ ha).2.1
   simp only[aW]
   omega
 have hva:∀t,t∈ns->py n t=aW n t:=fun t _=>by cases t<;>rfl
 have v1:min (min (min n (aW n ta)) (aW n tb)) (aW n tc)<=py n ta:=by rw[hva _ ha];omega
 have v2:min (min (min n (aW n ta)) (aW n tb)) (aW n tc)<=py n tb:=by rw[hva _ hb];omega
 have v3:min (min (min n (aW n ta)) (aW n tb)) (aW n tc)<=py n tc:=by rw[hva _ hc];omega
 have HVN:=o_ hnode
 have HSTEP:=o_ (yE (hN.ok _ ha) (hN.ok _ hb) (hN.ok _ hc) v1 v2 v3 hnode)
 have HTOP:=o_ (And.intro ((hN.ok _ ha).at_top v1 hnode).2 (And.intro ((hN.ok _ hb).at_top v2 hnode).2 ((hN.ok _ hc).at_top v3 hnode).2))
 clear v1 v2 v3 hva hnode
 have hof:s KB.o≠.free:=by rw[hob];simp
 have hcf:s KB.c≠.free:=by rw[hcr];simp
 have noc:¬ KB.o=KB.c:=fun e=>by rw[e,hcr]at hob;cases hob
 unfold lE
 have HA:=o_ ha
 have HB:=o_ hb
 have HC:=o_ hc
 have HN:=o_ hN
 have HO:=o_ hO
 have HE:=o_ hce
 have HF:=o_ hF
 have IH:=o_ ih
 clear ha hb hc hN hO h1 h2 h3 h4 la lb lc hbd hce hF ih
 unfold c9 mn vw at *
 generalize hka:ixN ns ta=ka at *
 generalize hkb:ixN ns tb=kb at *
 generalize hkc:ixN ns tc=kc at *
 have HKA:=o_ hka
 have HKB:=o_ hkb
 have HKC:=o_ hkc
 clear hka hkb hkc
 have ka0:(0:Int)<=ka:=Int.natCast_nonneg _
 have kb0:(0:Int)<=kb:=Int.natCast_nonneg _
 have kc0:(0:Int)<=kc:=Int.natCast_nonneg _
 have hf':=hf ((ka:Int) * 7+(kb:Int) * 31+(kc:Int) * 127)
 have hi:=hf2 ((ka:Int) * 7+(kb:Int) * 31+(kc:Int) * 127)
 generalize f ((ka:Int) * 7+(kb:Int) * 31+(kc:Int) * 127)=i at hf' hi
 clear hf hf2
 obtain⟨e,hxe⟩:∃e,xs[i]?=some e:=⟨_,m_ (by omega)⟩
 have x0:(cP xs)[i * 5]?=some (.bool e.is):=qG (j:=0) hxe (by omega)
 have x1:=BA hxe
 have x4:(cP xs)[i * 5+4]?=some (.int .i64 e.k):=qG (j:=4) hxe (by omega)
 have xl:=oU xs
 rw[hcl]at xl
 have hem:=y_ hxe
 obtain⟨is,ea,eb,ec,ek⟩:=e
 dsimp only at x0 x1 x4
 by_cases hit:is=true/\ea=ka/\eb=kb/\ec=kc
 ·obtain⟨rfl,rfl,rfl,rfl⟩:=hit
  obtain⟨ta',tb',tc',m1,m2,m3,q1,q2,q3,q4,q5⟩:=HE.out _ hem rfl
  dsimp only at q1 q2 q3 q5
  have j1:ta'=ta:=cw m1 HA.out (by rw[HKA.out];omega)
  have j2:tb'=tb:=cw m2 HB.out (by rw[HKB.out];omega)
  have j3:tc'=tc:=cw m3 HC.out (by rw[HKC.out];omega)
  subst j1 j2 j3
  subst q5
  have HR:Hid (OpR s KB n B ns (iteT n ta' tb' tc') (s,KB,ns)):=o_ ⟨HO.out,.refl q4,.refl _ _,rfl⟩
  generalize hW:ixN ns (iteT n ta' tb' tc')=kw at *
  have HW:=o_ hW
  generalize hX:cP xs=X at *
  clear hW q1 q2 q3 q4 m1 m2 m3 hem hxe hX IH HE
  refine am Tryz.func108 rfl Tryz.ntmps108 rfl fun Q hQ hQe=>?_
  (repeat'(first|refine Ctl ?_|(with_reducible first|(refine k_ hK ?_;clear hK hE K E)|(refine k_ hKh ?_;clear hKh Kh)|refine ax 9 [] [0,1,2,3,4,5,6,7,8,9,10,11] hQe fun K E hK hE=>?_)|((with_reducible refine bZ (fun h=>?_) (fun h=>?_))<;>(try(exfalso;assumption)))|((first|(with_reducible first|refine ab fun K E hK hE=>?_|refine d6 ?_|refine aG fun Kh hKh=>?_)|((with_reducible refine au (fun b hb=>?_));(try(obtain⟨_,_⟩:=nef hb hof;obtain⟨_,_⟩:=nef hb hcf)))|((with_reducible refine pH (fun h=>?_) (fun h=>?_))))<;>(try simp(disch:=omega) only[go_sem,seval,hf',x0,x1,x4, *]))))
  ·exact absurd ⟨of_eq_true (‹_›),of_eq_true (‹_›)⟩ e4
  all_goals(refine aq jj hQ ?_)
  all_goals exact⟨_,_,Wk.refl _,Fg.setA (Fg.refl _) hb,(s,KB,ns),by rw[<- HW.out],rfl,HR.out⟩
 ·have hd:is=true->(decide (ea=(ka:Int)) && (decide (eb=(kb:Int)) && decide (ec=(kc:Int))))=false:=fun h=>by
   rw[Bool.eq_false_iff]
   intro h2
   simp only[Bool.and_eq_true,decide_eq_true_eq]at h2
   exact hit ⟨h,h2.1,h2.2.1,h2.2.2⟩
  have HX:=o_ (show s KB.c=.row 209 5 (cP xs) from hcr)
  have HB':=o_ hi
  have HCL:=o_ hcl
  clear hit hem hxe
  generalize hX:cP xs=X at *
  have HXX:=o_ hX
  clear hX
  cases is
  all_goals
   try replace hd:=hd rfl
   refine am Tryz.func108 rfl Tryz.ntmps108 rfl fun Q hQ hQe=>?_
   (repeat'(first|(with_reducible refine aR 11 ?_)|refine Ctl ?_|(with_reducible first|(refine k_ hK ?_;clear hK hE K E)|(refine k_ hKh ?_;clear hKh Kh)|refine ax 9 [] [0,1,2,3,4,5,6,7,8,9,10,11] hQe fun K E hK hE=>?_)|((with_reducible refine bZ (fun h=>?_) (fun h=>?_))<;>(try(exfalso;assumption)))|((first|(with_reducible first|refine ab fun K E hK hE=>?_|refine d6 ?_|refine aG fun Kh hKh=>?_)|((with_reducible refine au (fun b hb=>?_));(try(obtain⟨_,_⟩:=nef hb hof;obtain⟨_,_⟩:=nef hb hcf)))|((with_reducible refine pH (fun h=>?_) (fun h=>?_))))<;>(try simp(disch:=omega) only[go_sem,seval,hf',x0,x1,x4, *]))))
   ·exact absurd ⟨of_eq_true (‹_›),of_eq_true (‹_›)⟩ e4
   all_goals
    unfold bC
    refine bE fun S hS=>?_
    have hSz:∀z,s z≠.free->S z=s z:=fun z hz=>by rw[hS];exact j_ _ _ (nef hb hz).1
    have hSb:S b=.obj 47 [.int .i64 ka,.int .i64 kb,.int .i64 kc]:=by rw[hS];exact q_ _ _ _
    have hSo:=(hSz _ hof).trans hob
    clear hS
    have bN:¬ KB.has b:=fun e=>HO.out.live' e hb
    have hKS:OKeep s S KB KB:=⟨rfl,rfl,rfl,fun z hz=>.inl hz,fun z hz _=>hSz z hz⟩
    have hSO:OMem1 S KB n B ns:=HO.out.keep fun z hz=>hSz z (HO.out.live' hz)
    have hbf:S b≠.free:=by rw[hSb];simp
    have ga:=bS HA.out
    have gb:=bS HB.out
    have gc:=bS HC.out
    rw[HKA.out]at ga
    rw[HKB.out]at gb
    rw[HKC.out]at gc
    have w0:=MC S KB n B ns (.inr hSO) ka kb kc ta tb tc ga gb gc .full
    have hvn:min (min (min n (aW n ta)) (aW n tb)) (aW n tc)<n:=HVN.out
    have ih:=IH.out
    have HV:=HTOP.out
    obtain⟨o1,o2,hT⟩:=HSTEP.out
    generalize min (min (min n (aW n ta)) (aW n tb)) (aW n tc)=v at *
    have HVV:=o_ hvn
    have w1:=pn (.inr hSO) hvn HA.out
    have w2:=pn (.inr hSO) hvn HB.out
    have w3:=pn (.inr hSO) hvn HC.out
    rw[HKA.out]at w1
    rw[HKB.out]at w2
    rw[HKC.out]at w3
    obtain⟨la,ra⟩:=HN.out.lo HA.out v
    obtain⟨lb,rb⟩:=HN.out.lo HB.out v
    obtain⟨lc,rc⟩:=HN.out.lo HC.out v
    obtain⟨oa1,oa2⟩:=HV.1
    obtain⟨ob1,ob2⟩:=HV.2.1
    obtain⟨oc1,oc2⟩:=HV.2.2
    have fL:FitN ns (iteT n (loT v ta) (loT v tb) (loT v tc)) B:=fun X hX hs=>HF.out X hX fun t ht=>(hs t ht).imp id fun e=>by rw[hT];exact gv (.inl e)
    have wl:=ih S KB ns _ _ _ hSO la lb lc oa1 ob1 oc1 fL
    unfold lE at wl
    have H1:=o_ (And.intro oa2 (And.intro ob2 oc2))
    have H2:=o_ (And.intro ra (And.intro rb rc))
    have HT:=o_ hT
    have HKSh:=o_ hKS
    have IH2:=o_ ih
    have HSO2:=o_ hSO
    have HOO:=o_ (And.intro o1 o2)
    clear ih HV oa1 ob1 oc1 oa2 ob2 oc2 la lb lc ra rb rc fL hT hKS o1 o2 ga gb gc hSz hSO IH HSTEP HTOP HVN hvn
    generalize hla:ixN ns (loT v ta)=na at *
    generalize hlb:ixN ns (loT v tb)=nb at *
    generalize hlc:ixN ns (loT v tc)=nc at *
    generalize hra:ixN ns (hiT v ta)=qa at *
    generalize hrb:ixN ns (hiT v tb)=qb at *
    generalize hrc:ixN ns (hiT v tc)=qc at *
    have HQ:=o_ (And.intro hra (And.intro hrb hrc))
    clear hla hlb hlc hra hrb hrc
    (repeat'(first|refine Ctl ?_|((with_reducible refine k_ hK ?_);clear hK hE K E)|(((with_reducible first|refine ab fun K E hK hE=>?_|refine ae Mh (w0) ?_|refine ae vC (w1) ?_|refine ae vC (w2) ?_|refine ae vC (w3) ?_))<;>(try simp(disch:=assumption) only[go_sem,seval, *]))))
    refine ao vJ wl (fun a h=>?_)
    obtain⟨u1,K1,ns1⟩:=a
    obtain⟨m1,x1',k1,c1⟩:=h
    dsimp only at m1 x1' k1 c1 ⊢
    have k1p:=k1.p
    have k1o:=k1.o
    have u1o:=m1.ob
    unfold c9 mn at u1o
    rw[k1o,k1p,c1]at u1o
    have u1b:=(k1.out b hbf bN).trans hSb
    have hv2:=HVV.out
    obtain⟨oa2,ob2,oc2⟩:=H1.out
    obtain⟨ra,rb,rc⟩:=H2.out
    obtain⟨ra1,ra2⟩:=x1'.sub ra
    obtain⟨rb1,rb2⟩:=x1'.sub rb
    obtain⟨rc1,rc2⟩:=x1'.sub rc
    obtain⟨qa1,qb1,qc1⟩:=HQ.out
    have fH:FitN ns1 (iteT n (hiT v ta) (hiT v tb) (hiT v tc)) B:=HF.out.ext x1' (fun t ht=>by rw[HT.out];exact gv (.inl ht)) (fun t ht=>by rw[HT.out];exact gv (.inr ht))
    have wh:=IH2.out u1 K1 ns1 _ _ _ m1 ra1 rb1 rc1 oa2 ob2 oc2 fH
    unfold lE at wh
    rw[ra2,rb2,rc2,qa1,qb1,qc1,k1o]at wh
    have M1:=o_ (And.intro m1 (And.intro x1' k1))
    clear oa2 ob2 oc2 ra rb rc ra1 rb1 rc1 ra2 rb2 rc2 qa1 qb1 qc1 fH m1 x1' k1 w0 w1 w2 w3 wl IH2
    have hb1:u1 b≠.free:=by rw[u1b];simp
    generalize hkl:ixN ns1 (iteT n (loT v ta) (loT v tb) (loT v tc))=kl at *
    have HKL:=o_ hkl
    clear hkl
    simp only[go_sem,seval]
    (repeat'(first|refine Ctl ?_|((with_reducible refine k_ hK ?_);clear hK hE K E)|((with_reducible refine bZ (fun h=>?_) (fun h=>?_))<;>(try(exfalso;assumption)))|(((with_reducible refine ab fun K E hK hE=>?_))<;>(try simp(disch:=assumption) only[go_sem,seval, *]))))
    refine ao vJ wh (fun a h=>?_)
    obtain⟨u2,K2,ns2⟩:=a
    obtain⟨m2,x2',k2,c2⟩:=h
    dsimp only at m2 x2' k2 c2 ⊢
    obtain⟨m1,x1',k1⟩:=M1.out
    have bN1:¬ K1.has b:=fun e=>by
     rcases k1.nw b e with e|e
     ·exact bN e
     ·exact hbf e
    have k2p:=k2.p.trans k1p
    have k2o:=k2.o.trans k1o
    have u2o:=m2.ob
    unfold c9 mn at u2o
    rw[k2o,k2p,c2,c1]at u2o
    have u2b:=(k2.out b hb1 bN1).trans u1b
    obtain⟨l2,e2l⟩:=x2'.sub x1'.mem
    rw[HKL.out]at e2l
    obtain⟨o1,o2⟩:=HOO.out
    have fM:FitN ns2 (mkT v (iteT n (loT v ta) (loT v tb) (loT v tc)) (iteT n (hiT v ta) (hiT v tb) (hiT v tc))) B:=fun X hX hs=>HF.out X hX fun t ht=>by
     rcases hs t ht with e|e
     ·rcases x2'.new t e with e|e
      ·rcases x1'.new t e with e|e
       ·exact .inl e
       ·exact .inr (by rw[HT.out];exact gv (.inl e))
      ·exact .inr (by rw[HT.out];exact gv (.inr e))
     ·exact .inr (by rw[HT.out];exact e)
    have wm:=xU m2.st l2 x2'.mem o1 o2 hv2 fM
    rw[k2p,e2l]at wm
    have M2:=o_ (And.intro m2 (And.intro x2' (And.intro k2 (And.intro c2 bN1))))
    clear m1 x1' k1 bN1 m2 x2' k2 o1 o2 fM wh e2l l2
    have hb2:u2 b≠.free:=by rw[u2b];simp
    generalize hkh:ixN ns2 (iteT n (hiT v ta) (hiT v tb) (hiT v tc))=kh at *
    have HKH:=o_ hkh
    clear hkh
    simp only[go_sem,seval]
    (repeat'(first|refine Ctl ?_|((with_reducible refine k_ hK ?_);clear hK hE K E)|((with_reducible refine bZ (fun h=>?_) (fun h=>?_))<;>(try(exfalso;assumption)))|(((with_reducible refine ab fun K E hK hE=>?_))<;>(try simp(disch:=assumption) only[go_sem,seval, *]))))
    refine ao oW wm (fun a h=>?_)
    obtain⟨u3,K3,ns3⟩:=a
    obtain⟨m3,x3',k3⟩:=h
    dsimp only at m3 x3' k3 ⊢
    obtain⟨m2,x2',k2,c2,bN1⟩:=M2.out
    have bN2:¬ K2.has b:=fun e=>by
     rcases k2.nw b e with e|e
     ·exact bN1 e
     ·exact hb1 e
    obtain⟨sc,so⟩:=m2.sep
    obtain⟨ys,hyr,hyl,hye⟩:=m2.ca
    rw[c2,c1]at hyr sc
    rw[k2o]at so
    have hcf2:u2 KB.c≠.free:=by rw[hyr];simp
    have hof2:u2 KB.o≠.free:=by rw[u2o];simp
    have u3c:=(k3.out _ hcf2 sc).trans hyr
    have u3b:=(k3.out _ hb2 (fun e=>bN2 (.inl e))).trans u2b
    unfold vw at u3c
    have HYE:=o_ hye
    have HYL:=o_ hyl
    have M3:=o_ (And.intro m3 (And.intro x3' (And.intro k3 (And.intro sc (And.intro so (And.intro bN2 (And.intro hcf2 hof2)))))))
    have yin:i * 5+5<=(cP ys).length:=E7 (by rw[hyl];exact HB'.out)
    have yset:=tJ (l:=ys) (k:=i) (e:=⟨true,ka,kb,kc,(ixN ns3 (mkT v (iteT n (loT v ta) (loT v tb) (loT v tc)) (iteT n (hiT v ta) (hiT v tb) (hiT v tc))):Nat)⟩) (by rw[hyl];exact HB'.out)
    dsimp only[ceC]at yset
    clear m2 x2' k2 c2 bN1 bN2 sc so hye hyl m3 x3' k3 wm
    have nbc:¬ b=KB.c:=by assumption
    generalize hkr:ixN ns3 (mkT v (iteT n (loT v ta) (loT v tb) (loT v tc)) (iteT n (hiT v ta) (hiT v tb) (hiT v tc)))=kr at *
    have HKR:=o_ hkr
    clear hkr
    generalize hY:cP ys=Y at *
    generalize hY':cP (ys.set i ⟨true,ka,kb,kc,kr⟩)=Y' at *
    have HY':=o_ hY'
    clear hY hY'
    simp only[go_sem,seval]
    (repeat'(first|refine Ctl ?_|((with_reducible refine k_ hK ?_);clear hK hE K E)|((with_reducible refine bZ (fun h=>?_) (fun h=>?_))<;>(try(exfalso;assumption)))|(((with_reducible refine ab fun K E hK hE=>?_))<;>(try simp(disch:=assumption) only[go_sem,seval,yset, *]))))
    (refine aq jj hQ ?_)
    exact EH HO.out HA.out HB.out HC.out HT.out HKSh.out M1.out M2.out c1 k1o k1p k2p k2o M3.out HYE.out HYL.out HKA.out HKB.out HKC.out HKR.out HY'.out hyr u2o
theorem MH {n B:Nat}:∀(d m:Nat) (s:St) (K:OB) (ns:Td) (ta tb tc:Tr),n - m<=d->OMem1 s K n B ns->ta∈ns->tb∈ns->tc∈ns->OkT n m ta->OkT n m tb->OkT n m tc->FitN ns (iteT n ta tb tc) B->lE s K n B ns ta tb tc:=by
 intro d
 induction d with
 |zero=>
  intro m s K ns ta tb tc hd hO ha hb hc oa ob oc hF
  cases ta with
  |lf b=>
   cases b with
   |true=>exact kH hO ha hb hc (.inl rfl)
   |false=>
    by_cases h3:tb=tc
    ·exact kH hO ha hb hc (.inr h3)
    ·exact qK hO ha hb hc h3 rfl
  |nd w l r=>
   have:=oa.1
   have:=oa.2.1
   omega
 |succ d ih=>
  intro m s K ns ta tb tc hd hO ha hb hc oa ob oc hF
  by_cases h1:ta=.lf true
  ·exact kH hO ha hb hc (.inl h1)
  by_cases h3:tb=tc
  ·exact kH hO ha hb hc (.inr h3)
  by_cases h2:ta=.lf false
  ·exact qK hO ha hb hc h3 h2
  by_cases h4:tb=.lf true/\tc=.lf false
  ·exact y9 hO ha hb hc h1 h2 h4.1 h4.2
  have hge:∀t:Tr,OkT n m t->m<=n->m<=aW n t:=fun t ht hm=>by
   cases t with
   |lf b=>exact hm
   |nd w l r=>exact ht.1
  have hmn:m<n:=by
   cases ta with
   |lf b=>cases b<;>simp_all
   |nd w l r=>exact Nat.lt_of_le_of_lt oa.1 oa.2.1
  refine za hO ha hb hc h1 h2 h3 h4 hF fun s' K' ns' va vb vc a1 a2 a3 a4 a5 a6 a7 a8=>ih _ s' K' ns' va vb vc ?_ a1 a2 a3 a4 a5 a6 a7 a8
  have:=hge _ oa (by omega)
  have:=hge _ ob (by omega)
  have:=hge _ oc (by omega)
  omega
structure OpQ (s:St) (K:OB) (n B:Nat) (ns:Td) (T:Tr) (a:gJ):Prop where
 m:OMem a.1 a.2.1 n B a.2.2
 e:ExtN ns a.2.2 T
 k:OKeep s a.1 K a.2.1
def OpC (f:FuncId)(xs:Tb)(s:St)(K:OB)(n B:Nat)(ns:Td)(T:Tr):Prop:=
 SCalls Tryz.prog f xs s fun w u=>∃a:gJ,w=.ret (.tup [.int .i64 (ixN a.2.2 T:Nat),.int .i64 0])/\u=a.1/\OpQ s K n B ns T a
theorem pB {α β γ:Type}{w:SEnd}{F:α×β×γ->VV}{R:α×β×γ->Prop}{s:α}(b:β×γ)(hw:w=.ret (F (s,b)))(hR:R (s,b)):∃a:α×β×γ,w=.ret (F a)/\s=a.1/\R a:=⟨(s,b),hw,rfl,hR⟩
theorem rN {s:St}{KK:OB}{n B:Nat}{ns:Td}(hO:OMem s KK n B ns){ta tb tc:Tr}(ha:ta∈ns)(hb:tb∈ns)(hc:tc∈ns)(hF:FitN ns (iteT n ta tb tc) B) :
  OpC 72 [.ptr KK.o 0,.int .i64 (ixN ns ta:Nat),.int .i64 (ixN ns tb:Nat),.int .i64 (ixN ns tc:Nat)] s KK n B ns (iteT n ta tb tc):=by
 have hN:=hO.st.ok
 have w1:=MG s KK n B ns hO [ixN ns ta,ixN ns tb,ixN ns tc] (fun k hk=>by
  simp only[AT,List.not_mem_nil,or_false]at hk
  rcases hk with rfl|rfl|rfl
  ·exact gD ha
  ·exact gD hb
  ·exact gD hc) (by simp) .full
 simp only[ak,List.map_cons,List.map_nil]at w1
 have w2:=fun(u:St) (K1:OB) (h:OMem1 u K1 n B ns)=>MH n 0 u K1 ns ta tb tc (by omega) h ha hb hc (hN.ok _ ha) (hN.ok _ hb) (hN.ok _ hc) hF
 unfold lE at w2
 unfold OpC
 have W2:=o_ w2
 clear w2 hF hN ha hb hc hO
 generalize ixN ns ta=ka at *
 generalize ixN ns tb=kb at *
 generalize ixN ns tc=kc at *
 refine am Tryz.func72 rfl Tryz.ntmps72 rfl fun Q hQ hQe=>?_
 (repeat'(first|refine Ctl ?_|((with_reducible refine k_ hK ?_);clear hK hE K E)|(((with_reducible refine ab fun K E hK hE=>?_))<;>(try simp(disch:=assumption) only[go_sem,seval, *]))))
 refine ao Mp w1 (fun a h=>?_)
 obtain⟨u1,K1⟩:=a
 obtain⟨m1,k1,e1⟩:=h
 dsimp only at m1 k1 e1 ⊢
 have w2:=W2.out u1 K1 m1
 rw[k1.o]at w2
 have HK:=o_ k1
 clear w1 k1 m1
 simp only[go_sem,seval]
 (repeat'(first|refine Ctl ?_|((with_reducible refine k_ hK ?_);clear hK hE K E)|((with_reducible refine bZ (fun h=>?_) (fun h=>?_))<;>(try(exfalso;assumption)))|(((with_reducible refine ab fun K E hK hE=>?_))<;>(try simp(disch:=assumption) only[go_sem,seval, *]))))
 refine ao vJ w2 (fun a h=>?_)
 obtain⟨u2,K2,ns2⟩:=a
 obtain⟨m2,x2,k2,c2⟩:=h
 dsimp only at m2 x2 k2 ⊢
 have HR:Hid (OpQ s KK n B ns (iteT n ta tb tc) (u2,K2,ns2)):=o_ ⟨.inr m2,x2,HK.out.trans k2⟩
 clear m2 x2 k2 w2
 simp only[go_sem,seval]
 (repeat'(first|refine Ctl ?_|((with_reducible refine k_ hK ?_);clear hK hE K E)))
 (refine aq FU hQ ?_)
 exact⟨_,_,Wk.refl _,Fg.refl _,pB (K2,ns2) rfl HR.out⟩
theorem MK {s:St}{KK:OB}{n B:Nat}{ns:Td}(hO:OMem s KK n B ns){ta tb:Tr}(ha:ta∈ns)(hb:tb∈ns)(hF:FitN ns (iteT n ta tb (.lf false)) B) :
  OpC 40 [.ptr KK.o 0,.int .i64 (ixN ns ta:Nat),.int .i64 (ixN ns tb:Nat)] s KK n B ns (iteT n ta tb (.lf false)):=by
 have h0:=hO.st.ok.lf false
 have h1:=hO.st.ok.lf true
 have w1:=rN hO ha hb h0.1 hF
 simp only[h0.2,h1.2,Bool.false_eq_true,if_true,if_false]at w1
 unfold OpC at w1 ⊢
 clear hF hO h0 h1 ha hb
 generalize ixN ns ta=ka at *
 generalize ixN ns tb=kb at *
 refine am Tryz.func40 rfl Tryz.ntmps40 rfl fun Q hQ hQe=>?_
 (repeat'(first|refine Ctl ?_|((with_reducible refine k_ hK ?_);clear hK hE K E)|(((with_reducible refine ab fun K E hK hE=>?_))<;>(try simp(disch:=assumption) only[go_sem,seval,Int.natCast_zero,Int.natCast_one,Int.ofNat_zero, *]))))
 refine ao tK w1 (fun a h=>?_)
 obtain⟨u2,K2,ns2⟩:=a
 have HR:=o_ h
 clear h w1
 simp only[go_sem,seval]
 (repeat'(first|refine Ctl ?_|((with_reducible refine k_ hK ?_);clear hK hE K E)))
 (refine aq Ge hQ ?_)
 exact⟨_,_,Wk.refl _,Fg.refl _,pB (K2,ns2) rfl HR.out⟩
theorem GZ {s:St}{KK:OB}{n B:Nat}{ns:Td}(hO:OMem s KK n B ns){ta tb:Tr}(ha:ta∈ns)(hb:tb∈ns)(hF:FitN ns (iteT n ta (.lf true) tb) B) :
  OpC 49 [.ptr KK.o 0,.int .i64 (ixN ns ta:Nat),.int .i64 (ixN ns tb:Nat)] s KK n B ns (iteT n ta (.lf true) tb):=by
 have h0:=hO.st.ok.lf false
 have h1:=hO.st.ok.lf true
 have w1:=rN hO ha h1.1 hb hF
 simp only[h0.2,h1.2,Bool.false_eq_true,if_true,if_false]at w1
 unfold OpC at w1 ⊢
 clear hF hO h0 h1 ha hb
 generalize ixN ns ta=ka at *
 generalize ixN ns tb=kb at *
 refine am Tryz.func49 rfl Tryz.ntmps49 rfl fun Q hQ hQe=>?_
 (repeat'(first|refine Ctl ?_|((with_reducible refine k_ hK ?_);clear hK hE K E)|(((with_reducible refine ab fun K E hK hE=>?_))<;>(try simp(disch:=assumption) only[go_sem,seval,Int.natCast_zero,Int.natCast_one,Int.ofNat_zero, *]))))
 refine ao tK w1 (fun a h=>?_)
 obtain⟨u2,K2,ns2⟩:=a
 have HR:=o_ h
 clear h w1
 simp only[go_sem,seval]
 (repeat'(first|refine Ctl ?_|((with_reducible refine k_ hK ?_);clear hK hE K E)))
 (refine aq F8 hQ ?_)
 exact⟨_,_,Wk.refl _,Fg.refl _,pB (K2,ns2) rfl HR.out⟩
theorem Fs {s:St}{KK:OB}{n B:Nat}{ns:Td}(hO:OMem s KK n B ns){ta tb:Tr}(ha:ta∈ns)(hb:tb∈ns)(hF:FitN ns (iteT n tb (.lf false) ta) B) :
  OpC 51 [.ptr KK.o 0,.int .i64 (ixN ns ta:Nat),.int .i64 (ixN ns tb:Nat)] s KK n B ns (iteT n tb (.lf false) ta):=by
 have h0:=hO.st.ok.lf false
 have h1:=hO.st.ok.lf true
 have w1:=rN hO hb h0.1 ha hF
 simp only[h0.2,h1.2,Bool.false_eq_true,if_true,if_false]at w1
 unfold OpC at w1 ⊢
 clear hF hO h0 h1 ha hb
 generalize ixN ns ta=ka at *
 generalize ixN ns tb=kb at *
 refine am Tryz.func51 rfl Tryz.ntmps51 rfl fun Q hQ hQe=>?_
 (repeat'(first|refine Ctl ?_|((with_reducible refine k_ hK ?_);clear hK hE K E)|(((with_reducible refine ab fun K E hK hE=>?_))<;>(try simp(disch:=assumption) only[go_sem,seval,Int.natCast_zero,Int.natCast_one,Int.ofNat_zero, *]))))
 refine ao tK w1 (fun a h=>?_)
 obtain⟨u2,K2,ns2⟩:=a
 have HR:=o_ h
 clear h w1
 simp only[go_sem,seval]
 (repeat'(first|refine Ctl ?_|((with_reducible refine k_ hK ?_);clear hK hE K E)))
 (refine aq F6 hQ ?_)
 exact⟨_,_,Wk.refl _,Fg.refl _,pB (K2,ns2) rfl HR.out⟩
theorem FitN.of2 {ns ns1:Td}{R T:Tr}{N m1 m2 B:Nat}(h:CntN ns N)(h1:SubN R m1)(h2:SubN T m2)(he:ExtN ns ns1 R)(hB:N+m1+m2<=B):FitN ns1 T B:=.of (h.ext h1 he) h2 hB
theorem RC {s:St}{KK:OB}{n B:Nat}{ns:Td}(hO:OMem s KK n B ns){ta tb:Tr}(ha:ta∈ns)(hb:tb∈ns){N m1 m2:Nat}(hc:CntN ns N)(h1:SubN (iteT n tb (.lf false) (.lf true)) m1)
  (h2:SubN (iteT n ta (iteT n tb (.lf false) (.lf true)) tb) m2) (hB:N+m1+m2<=B) :
  SCalls Tryz.prog 90 [.ptr KK.o 0,.int .i64 (ixN ns ta:Nat),.int .i64 (ixN ns tb:Nat)] s fun w u=>∃a:gJ,w=.ret (.tup [.int .i64 (ixN a.2.2 (iteT n ta (iteT n tb (.lf false) (.lf true)) tb):Nat),.int .i64 0])/\u=a.1 /\
   OMem a.1 a.2.1 n B a.2.2/\(∃l,a.2.2=ns++l)/\iteT n ta (iteT n tb (.lf false) (.lf true)) tb∈a.2.2/\CntN a.2.2 (N+m1+m2)/\OKeep s a.1 KK a.2.1:=by
 have hN:=hO.st.ok
 have l0:=hN.lf false
 have l1:=hN.lf true
 have w1:=MG s KK n B ns hO [ixN ns ta,ixN ns tb] (fun k hk=>by
  simp only[AT,List.not_mem_nil,or_false]at hk
  rcases hk with rfl|rfl
  ·exact gD ha
  ·exact gD hb) (by simp) .full
 simp only[ak,List.map_cons,List.map_nil]at w1
 have w2:=fun(u:St) (K1:OB) (h:OMem1 u K1 n B ns)=>MH n 0 u K1 ns tb (.lf false) (.lf true) (by omega) h hb l0.1 l1.1 (hN.ok _ hb) trivial trivial (.of hc h1 (by omega))
 have w3:=fun(u:St) (K1:OB) (ns1:Td) (h:OMem1 u K1 n B ns1) (x:ExtN ns ns1 (iteT n tb (.lf false) (.lf true)))=>MH n 0 u K1 ns1 ta (iteT n tb (.lf false) (.lf true)) tb (by omega) h (x.sub ha).1 x.mem (x.sub hb).1 (hN.ok _ ha) EI (hN.ok _ hb) (.of2 hc h1 h2 x hB)
 unfold lE at w2 w3
 rw[l0.2,l1.2]at w2
 simp only[Bool.false_eq_true,if_true,if_false]at w2
 have W2:=o_ w2
 have W3:=o_ w3
 have HA:=o_ ha
 have HB:=o_ hb
 have HC:=o_ hc
 have H1:=o_ h1
 have H2:=o_ h2
 clear w2 w3 hN ha hb hO l0 l1 hc h1 h2 hB
 generalize hka:ixN ns ta=ka at *
 generalize hkb:ixN ns tb=kb at *
 have HKA:=o_ hka
 have HKB:=o_ hkb
 clear hka hkb
 refine am Tryz.func90 rfl Tryz.ntmps90 rfl fun Q hQ hQe=>?_
 (repeat'(first|refine Ctl ?_|((with_reducible refine k_ hK ?_);clear hK hE K E)|(((with_reducible refine ab fun K E hK hE=>?_))<;>(try simp(disch:=assumption) only[go_sem,seval, *]))))
 refine ao Mp w1 (fun a h=>?_)
 obtain⟨u1,K1⟩:=a
 obtain⟨m1,k1,e1⟩:=h
 dsimp only at m1 k1 e1 ⊢
 have w2:=W2.out u1 K1 m1
 have k1o:=k1.o
 rw[k1o]at w2
 have HK:=o_ k1
 clear w1 k1 m1
 simp only[go_sem,seval]
 (repeat'(first|refine Ctl ?_|((with_reducible refine k_ hK ?_);clear hK hE K E)|((with_reducible refine bZ (fun h=>?_) (fun h=>?_))<;>(try(exfalso;assumption)))|(((with_reducible refine ab fun K E hK hE=>?_))<;>(try simp(disch:=assumption) only[go_sem,seval,Int.natCast_zero,Int.natCast_one, *]))))
 refine ao vJ w2 (fun a h=>?_)
 obtain⟨u2,K2,ns2⟩:=a
 obtain⟨m2,x2,k2,c2⟩:=h
 dsimp only at m2 x2 k2 ⊢
 have w3:=W3.out u2 K2 ns2 m2 x2
 rw[(x2.sub HA.out).2,(x2.sub HB.out).2,HKA.out,HKB.out,k2.o,k1o]at w3
 have HX:=o_ (And.intro x2 k2)
 clear m2 x2 k2 w2 k1o
 generalize ixN ns2 (iteT n tb (.lf false) (.lf true))=kn at *
 simp only[go_sem,seval]
 (repeat'(first|refine Ctl ?_|((with_reducible refine k_ hK ?_);clear hK hE K E)|((with_reducible refine bZ (fun h=>?_) (fun h=>?_))<;>(try(exfalso;assumption)))|(((with_reducible refine ab fun K E hK hE=>?_))<;>(try simp(disch:=assumption) only[go_sem,seval, *]))))
 refine ao vJ w3 (fun a h=>?_)
 obtain⟨u3,K3,ns3⟩:=a
 obtain⟨m3,x3,k3,c3⟩:=h
 dsimp only at m3 x3 k3 ⊢
 obtain⟨x2,k2⟩:=HX.out
 have HR:=o_ (And.intro m3 (And.intro x3 (And.intro k3 (And.intro x2 k2))))
 clear m3 x3 k3 x2 k2 w3
 simp only[go_sem,seval]
 (repeat'(first|refine Ctl ?_|((with_reducible refine k_ hK ?_);clear hK hE K E)))
 (refine aq Nr hQ ?_)
 obtain⟨m3,x3,k3,x2,k2⟩:=HR.out
 refine⟨_,_,Wk.refl _,Fg.refl _,pB (K3,ns3) rfl ⟨.inr m3,?_,x3.mem,(HC.out.ext H1.out x2).ext H2.out x3,(HK.out.trans k2).trans k3⟩⟩
 obtain⟨p2,e2⟩:=x2.pre
 obtain⟨p3,e3⟩:=x3.pre
 exact⟨p2++p3,by rw[e3,e2,List.append_assoc]⟩
noncomputable def ixF (n:Nat)(ns:Td)(g:Tf):Nat:=ixN ns (treeT n g)
structure OpF (s:St) (K:OB) (n B:Nat) (ns:Td) (N':Nat) (g:Tf) (a:gJ):Prop where
 m:OMem a.1 a.2.1 n B a.2.2
 pre:∃l,a.2.2=ns++l
 mem:treeT n g∈a.2.2
 cnt:CntN a.2.2 N'
 k:OKeep s a.1 K a.2.1
def OpFC (f:FuncId)(xs:Tb)(s:St)(K:OB)(n B:Nat)(ns:Td)(N':Nat)(g:Tf):Prop:=
 SCalls Tryz.prog f xs s fun w u=>∃a:gJ,w=.ret (.tup [.int .i64 (ixF n a.2.2 g:Nat),.int .i64 0])/\u=a.1/\OpF s K n B ns N' g a
theorem OpC.toF {f:FuncId}{xs:Tb}{s:St}{K:OB}{n B N m:Nat}{ns:Td}{T:Tr}{g:Tf}(h:OpC f xs s K n B ns T)(hT:T=treeT n g)(hc:CntN ns N)(hm:SubN (treeT n g) m):OpFC f xs s K n B ns (N+m) g:=by
 subst hT
 refine SCalls.mono (h:=h) ?_
 rintro w u ⟨a,rfl,rfl,h1,h2,h3⟩
 exact⟨a,rfl,rfl,h1,h2.pre,h2.mem,hc.ext hm h2,h3⟩
theorem bn {ns ns':Td}(h:∃l,ns'=ns++l){t:Tr}(ht:t∈ns):t∈ns'/\ixN ns' t=ixN ns t:=by
 obtain⟨l,rfl⟩:=h
 exact⟨List.mem_append_left _ ht,cx ht⟩
section
variable {s : St} {K : OB} {n B N m : Nat} {ns : Td} {f g : (Nat -> Bool) -> Bool}
theorem vS (hO:OMem s K n B ns)(hf:ep n f)(hg:ep n g)(mf:treeT n f∈ns)(mg:treeT n g∈ns)(hc:CntN ns N)(hm:SubN (treeT n fun x=>f x && g x) m)(hB:N+m<=B) :
  OpFC 40 [.ptr K.o 0,.int .i64 (ixF n ns f:Nat),.int .i64 (ixF n ns g:Nat)] s K n B ns (N+m) (fun x=>f x && g x):=by
 have hT:iteT n (treeT n f) (treeT n g) (.lf false)=treeT n fun x=>f x && g x:=by
  rw[<- d9 (n:=n) false,ll hf hg (fun _ _ _=>rfl)]
  exact fT fun x=>by cases f x<;>rfl
 exact(MK hO mf mg (by rw[hT];exact .of hc hm hB)).toF hT hc hm
theorem Ca (hO:OMem s K n B ns)(hf:ep n f)(hg:ep n g)(mf:treeT n f∈ns)(mg:treeT n g∈ns)(hc:CntN ns N)(hm:SubN (treeT n fun x=>f x || g x) m)(hB:N+m<=B) :
  OpFC 49 [.ptr K.o 0,.int .i64 (ixF n ns f:Nat),.int .i64 (ixF n ns g:Nat)] s K n B ns (N+m) (fun x=>f x || g x):=by
 have hT:iteT n (treeT n f) (.lf true) (treeT n g)=treeT n fun x=>f x || g x:=by
  rw[<- d9 (n:=n) true,ll hf (fun _ _ _=>rfl) hg]
  exact fT fun x=>by cases f x<;>rfl
 exact(GZ hO mf mg (by rw[hT];exact .of hc hm hB)).toF hT hc hm
theorem xT (hO:OMem s K n B ns)(hf:ep n f)(hg:ep n g)(mf:treeT n f∈ns)(mg:treeT n g∈ns)(hc:CntN ns N)(hm:SubN (treeT n fun x=>f x && !g x) m)(hB:N+m<=B) :
  OpFC 51 [.ptr K.o 0,.int .i64 (ixF n ns f:Nat),.int .i64 (ixF n ns g:Nat)] s K n B ns (N+m) (fun x=>f x && !g x):=by
 have hT:iteT n (treeT n g) (.lf false) (treeT n f)=treeT n fun x=>f x && !g x:=by
  rw[<- d9 (n:=n) false,ll hg (fun _ _ _=>rfl) hf]
  exact fT fun x=>by cases g x<;>cases f x<;>rfl
 exact(Fs hO mf mg (by rw[hT];exact .of hc hm hB)).toF hT hc hm
theorem RD {m1 m2:Nat}(hO:OMem s K n B ns)(hf:ep n f)(hg:ep n g)(mf:treeT n f∈ns)(mg:treeT n g∈ns)(hc:CntN ns N)(h1:SubN (treeT n fun x=>!g x) m1)(h2:SubN (treeT n fun x=>f x ^^ g x) m2)(hB:N+m1+m2<=B) :
  OpFC 90 [.ptr K.o 0,.int .i64 (ixF n ns f:Nat),.int .i64 (ixF n ns g:Nat)] s K n B ns (N+m1+m2) (fun x=>f x ^^ g x):=by
 have hT1:iteT n (treeT n g) (.lf false) (.lf true)=treeT n fun x=>!g x:=by
  rw[<- d9 (n:=n) true,<- d9 (n:=n) false,ll hg (fun _ _ _=>rfl) (fun _ _ _=>rfl)]
  exact fT fun x=>by cases g x<;>rfl
 have hng:ep n fun x=>!g x:=fun x y e=>by simp only;rw[hg x y e]
 have hT2:iteT n (treeT n f) (iteT n (treeT n g) (.lf false) (.lf true)) (treeT n g)=treeT n fun x=>f x ^^ g x:=by
  rw[hT1,ll hf hng hg]
  exact fT fun x=>by cases f x<;>cases g x<;>rfl
 have w:=RC hO mf mg hc (by rw[hT1];exact h1) (by rw[hT2];exact h2) hB
 rw[hT2]at w
 refine SCalls.mono (h:=w) ?_
 rintro w u ⟨a,rfl,rfl,h1,h2,h3,h4,h5⟩
 exact⟨a,rfl,rfl,h1,h2,h3,h4,h5⟩
end
theorem OMem.mk {s u:St}{K:OB}{K':SB}{n B:Nat}{ns ns':Td}{T:Tr}(hO:OMem s K n B ns)(m3:SMem u K' n B ns')(x3:ExtN ns ns' T)(k3:SKeep s u K.s K'):OMem u ⟨K',K.o,K.c⟩ n B ns':=by
 have so:¬ K.s.has K.o:=by
  obtain⟨d,c,e⟩:=hO.op
  obtain⟨mk,hm⟩:=hO.st.mem
  obtain⟨ps,ht,_⟩:=hO.st.tab
  rintro(e1|e1|e1|e1)
  ·have:=hm.o;rw[<- e1,e]at this;cases this
  ·have:=hm.r;rw[<- e1,e]at this;cases this
  ·have:=ht.tab.o;rw[<- e1,e]at this;cases this
  ·have:=ht.tab.r;rw[<- e1,e]at this;cases this
 have fo:s K.o≠.free:=hO.live (.inr (.inl rfl))
 rcases hO with h|h
 ·exact .inl ⟨m3,(k3.out _ fo so).trans (h.ob.trans (by rw[k3.p])),h.c⟩
 ·obtain⟨xs,e,hx⟩:=h.ca
  exact .inr ⟨m3,(k3.out _ fo so).trans (h.ob.trans (by rw[k3.p])),⟨xs,(k3.out _ (by rw[e];simp) h.sep.1).trans e,hx.ext x3⟩⟩
theorem Qy {s:St}{K:OB}{n B N m v:Nat}{ns:Td}{f g:Tf}{S:TW}(hO:OMem s K n B ns)(hf:DepF S f)(hg:DepF S g)(hS:∀w,w∈S->v<w/\w<n)(hv:v<n)(mf:treeT n f∈ns)(mg:treeT n g∈ns)(hc:CntN ns N)
  (hm:SubN (treeT n fun x=>if x v=true then g x else f x) m) (hB:N+m<=B) :
  OpFC 79 [.ptr K.s.p 0,.int .i64 v,.int .i64 (ixF n ns f:Nat),.int .i64 (ixF n ns g:Nat)] s K n B ns (N+m) (fun x=>if x v=true then g x else f x):=by
 have ok:∀{h:Tf},DepF S h->OkT n (v+1) (treeT n h):=fun {h} hd=>by
  have hk:n - (n - (v+1))=v+1:=by omega
  have h1:OkT n (v+1) (treeF n (n - (v+1)) h):=by
   have:=eM (n:=n) (k:=n - (v+1)) (g:=h) (by omega)
   rwa [hk]at this
  have h2:treeT n h=treeF n (n - (v+1)) h:=bY h1 fun x=>fK x (by omega) fun x y e=>hd x y fun w hw=>e w (by have:=hS w hw;omega) (hS w hw).2
  rw[h2];exact h1
 have hT:mkT v (treeT n f) (treeT n g)=treeT n fun x=>if x v=true then g x else f x:=by
  refine(bY (ld (Nat.zero_le v) hv (ok hf) (ok hg)) fun x=>?_).symm
  rw[lh,bU (hf.hang fun w hw=>(hS w hw).2),bU (hg.hang fun w hw=>(hS w hw).2)]
 have w:=xU hO.st mf mg (ok hf) (ok hg) hv (by rw[hT];exact .of hc hm hB)
 rw[hT]at w
 refine SCalls.mono (h:=w) ?_
 rintro w u ⟨⟨u,K',ns'⟩,rfl,rfl,h1,h2,h3⟩
 exact⟨(u,⟨K',K.o,K.c⟩,ns'),rfl,rfl,hO.mk h1 h2 h3,h2.pre,h2.mem,hc.ext hm h2,h3.toO⟩
theorem OMem.c0 {s:St}{K:OB}{n B:Nat}{ns:Td}(hO:OMem s K n B ns):(treeT n (fun _=>false)∈ns/\ixF n ns (fun _=>false)=0)/\(treeT n (fun _=>true)∈ns/\ixF n ns (fun _=>true)=1):=by
 unfold ixF
 rw[d9,d9]
 exact⟨hO.st.ok.lf false,hO.st.ok.lf true⟩
theorem ME {s:St}{KS:SB}{n B:Nat}{ns:Td}(hS:SMem s KS n B ns) :
  SCalls Tryz.prog 23 [.ptr KS.p 0] s fun w u=>∃a:St×Nat,w=.ret (.tup [.ptr a.2 0,.int .i64 0])/\u=a.1/\OMem a.1 ⟨KS,a.2,a.2⟩ n B ns/\s a.2=.free/\∀z,s z≠.free->a.1 z=s z:=by
 obtain⟨mk,hm⟩:=hS.mem
 have hl:=hS.ok.len
 have w1:=vT s KS.p KS.g KS.q n B ns mk 0 hm
 have hl2:¬ ((ns.length:Nat):Int)=0:=by omega
 have HS:=o_ hS
 clear hm hl hS
 generalize hlen:ns.length=l at *
 have HL:=o_ hlen
 clear hlen
 refine am Tryz.func23 rfl Tryz.ntmps23 rfl fun Q hQ hQe=>?_
 (repeat'(first|refine Ctl ?_|((with_reducible refine k_ hK ?_);clear hK hE K E)|((with_reducible refine bZ (fun h=>?_) (fun h=>?_))<;>(try(exfalso;assumption)))|((first|(with_reducible first|refine ab fun K E hK hE=>?_|refine ae BG (w1) ?_)|((with_reducible refine au (fun b hb=>?_))))<;>(try simp(disch:=assumption) only[go_sem,seval, *]))))
 (refine aq Gq hQ ?_)
 have hk:∀z,s z≠.free->(s.set b (.obj 123 (c9 KS.p 0 0 (.lst [] .full)))) z=s z:=fun z hz=>j_ _ _ (nef hb hz).1
 exact⟨_,_,Wk.refl _,Fg.refl _,mkA b rfl ⟨.inl ⟨HS.out.keep fun z hz=>hk z (HS.out.live hz),q_ _ _ _,rfl⟩,hb,hk⟩⟩
theorem eU (s:St)(o p:Nat)(d:Int)(c:VV)(h:s o=.obj 123 (c9 p d 0 c)) :
  SRet Tryz.prog 57 [.ptr o 0] s (.ptr p 0) s:=by
 unfold c9 at h
 refine am Tryz.func57 rfl Tryz.ntmps57 rfl fun Q hQ hQe=>?_
 (repeat'(first|refine Ctl ?_|((with_reducible refine k_ hK ?_);clear hK hE K E)|((with_reducible refine bZ (fun h=>?_) (fun h=>?_))<;>(try(exfalso;assumption)))|(((with_reducible refine ab fun K E hK hE=>?_))<;>(try simp(disch:=assumption) only[go_sem,seval, *]))))
 all_goals(refine aq FZ hQ ?_)
 all_goals(refine⟨_,_,Wk.of_eq ?_,?_,rfl,rfl⟩)
 all_goals first|rfl|(exact bK)
theorem MB (s:St)(o p:Nat)(d:Int)(c:VV)(h:s o=.obj 123 (c9 p d 0 c)) :
  SCalls Tryz.prog 24 [.ptr o 0] s fun w u=>∃q,w=.ret (.tup [.ptr q 0,.int .i64 0])/\u=s.set q (.obj 126 [.ptr o 0,.ptr p 0])/\s q=.free:=by
 have w1:=eU s o p d c h
 refine am Tryz.func24 rfl Tryz.ntmps24 rfl fun Q hQ hQe=>?_
 (repeat'(first|refine Ctl ?_|((with_reducible refine k_ hK ?_);clear hK hE K E)|((with_reducible refine bZ (fun h=>?_) (fun h=>?_))<;>(try(exfalso;assumption)))|((first|(with_reducible first|refine ab fun K E hK hE=>?_|refine ae iv (w1) ?_)|((with_reducible refine au (fun b hb=>?_))))<;>(try simp(disch:=assumption) only[go_sem,seval, *]))))
 all_goals(refine aq Gp hQ ?_)
 exact⟨_,_,Wk.refl _,Fg.refl _,b,rfl,rfl,hb⟩
theorem dD (s:St)(q o p:Nat)(h:s q=.obj 126 [.ptr o 0,.ptr p 0]) :
  SRet Tryz.prog 39 [.ptr q 0] s (.ptr o 0) s:=by
 refine am Tryz.func39 rfl Tryz.ntmps39 rfl fun Q hQ hQe=>?_
 (repeat'(first|refine Ctl ?_|((with_reducible refine k_ hK ?_);clear hK hE K E)|((with_reducible refine bZ (fun h=>?_) (fun h=>?_))<;>(try(exfalso;assumption)))|(((with_reducible refine ab fun K E hK hE=>?_))<;>(try simp(disch:=assumption) only[go_sem,seval, *]))))
 all_goals(refine aq Gf hQ ?_)
 all_goals(refine⟨_,_,Wk.of_eq ?_,?_,rfl,rfl⟩)
 all_goals first|rfl|(exact bK)
def eo (n w i:Nat):Tb:=(List.range w).map fun k=>.bool (decide (k<i) && n.testBit k)
def gP (n w:Nat):Ta:=(List.range w).map fun k=>[.bool (n.testBit k)]
theorem ly {n w i:Nat}:(eo n w i).length=w:=by simp[eo]
theorem qI {n w:Nat}:(gP n w).length=w:=by simp[gP]
theorem tM {n w k:Nat}(h:k<w):(gP n w)[k]?=some [.bool (n.testBit k)]:=by simp[gP,h]
theorem yU {n w:Nat}:List.replicate w (VV.bool false)=eo n w 0:=by
 apply List.ext_getElem
 ·simp[eo]
 ·intro i h1 h2
  simp[eo]
theorem yT {n w i:Nat}(h:i<w):splice (eo n w i) i [.bool (n.testBit i)]=eo n w (i+1):=by
 have:splice (eo n w i) i [VV.bool (n.testBit i)]=(eo n w i).set i (.bool (n.testBit i)):=by
  rw[splice,List.set_eq_take_append_cons_drop,if_pos (by rw[ly];exact h)]
  simp
 rw[this]
 apply List.ext_getElem
 ·simp[eo]
 ·intro j h1 h2
  simp only[eo,List.getElem_set,List.getElem_map,List.getElem_range]
  by_cases e:i=j
  ·subst e;simp
  ·rw[if_neg e]
   congr 2
   simp only[decide_eq_decide]
   omega
theorem yV {n w:Nat}:(eo n w w).map (fun y=>[y])=gP n w:=by
 simp only[eo,gP,List.map_map]
 apply List.map_congr_left
 intro k hk
 simp only[List.mem_range]at hk
 simp[hk]
theorem zE {n w:Nat}(h:n<2 ^ w)(hw:w<=62):bF .shr .i64 (n:Int) (w:Int)=some (.int .i64 0):=by
 have hp:((2:Int) ^ w)=((2 ^ w:Nat):Int):=by simp
 have h0:(0:Int)<=(w:Int):=Int.natCast_nonneg _
 simp only[bF,if_pos h0]
 have h1:min ((w:Int).toNat) IntKind.i64.bits=w:=by simp[IntKind.bits];omega
 rw[h1,hp]
 have:((n:Int)).fdiv ((2 ^ w:Nat):Int)=0:=by
  rw[Int.fdiv_eq_ediv_of_nonneg _ (Int.natCast_nonneg _)]
  exact Int.ediv_eq_zero_of_lt (Int.natCast_nonneg _) (by omega)
 rw[this]
theorem jD {k:Nat}(hk:k<=62):bF .shl .i64 1 (k:Int)=some (.int .i64 ((2 ^ k:Nat):Int)):=by
 have h0:(0:Int)<=(k:Int):=Int.natCast_nonneg _
 simp only[bF,if_pos h0]
 have h1:min ((k:Int).toNat) IntKind.i64.bits=k:=by simp[IntKind.bits];omega
 have hp:((2:Int) ^ k)=((2 ^ k:Nat):Int):=by simp
 have hle:2 ^ k<=2 ^ 62:=Nat.pow_le_pow_right (by omega) hk
 rw[h1,Int.one_mul,hp]
 generalize 2 ^ k=p at *
 rw[bT (by omega) (by omega)]
theorem Fa {n k:Nat}:n &&& 2 ^ k=if n.testBit k=true then 2 ^ k else 0:=by
 apply Nat.eq_of_testBit_eq
 intro i
 rw[Nat.testBit_and,Nat.testBit_two_pow]
 by_cases e:k=i
 ·subst e
  cases h:n.testBit k<;>simp
 ·cases h:n.testBit k<;>simp[Nat.testBit_two_pow,e]
theorem Fb {n k:Nat}(hn:n<2 ^ 63)(hk:k<=62):∃r:Int,bF .and .i64 (n:Int) ((2 ^ k:Nat):Int)=some (.int .i64 r)/\decide (r=0)=!n.testBit k:=by
 have hle:2 ^ k<=2 ^ 62:=Nat.pow_le_pow_right (by omega) hk
 have hpos:0<2 ^ k:=Nat.two_pow_pos k
 refine⟨_,rfl,?_⟩
 have e:(BitVec.ofInt IntKind.i64.bits (n:Int) &&& BitVec.ofInt IntKind.i64.bits ((2 ^ k:Nat):Int)).toNat=n &&& 2 ^ k:=by
  rw[BitVec.toNat_and]
  simp only[IntKind.bits]
  rw[BitVec.ofInt_natCast,BitVec.ofInt_natCast,BitVec.toNat_ofNat,BitVec.toNat_ofNat,Nat.mod_eq_of_lt (by omega),Nat.mod_eq_of_lt (by omega)]
 unfold jv
 rw[e,Fa]
 generalize 2 ^ k=p at *
 cases n.testBit k
 ·simp;rfl
 ·simp only[if_true]
  rw[bT (by omega) (by omega)]
  simp
  omega
attribute [-go_sem] bJ bH bG
theorem Cz (s:St)(n w:Nat)(hw:w<=62)(hn:n<2 ^ w) :
  SRet Tryz.prog 81 [.int .i64 n,.int .i64 w] s (.tup [.lst (gP n w) .no,.int .i64 0]) s:=by
 have hle:2 ^ w<=2 ^ 62:=Nat.pow_le_pow_right (by omega) hw
 have h1:¬ (w:Int)<0:=by omega
 have h2:¬ (w:Int) > 62:=by omega
 have h3:¬ (n:Int)<0:=by omega
 have h4:=zE hn hw
 have hz:=yU (n:=n) (w:=w)
 have hE:=yV (n:=n) (w:=w)
 have hn63:n<2 ^ 63:=by omega
 have HN:=o_ hn63
 clear hn hle hn63
 refine am Tryz.func81 rfl Tryz.ntmps81 rfl fun Q hQ hQe=>?_
 (repeat'(first|refine Ctl ?_|((with_reducible refine k_ hK ?_);clear hK hE K E)|((with_reducible refine bZ (fun h=>?_) (fun h=>?_))<;>(try(exfalso;assumption)))|((first|(with_reducible first|refine ab fun K E hK hE=>?_|refine iY ?_)|((with_reducible refine au (fun b hb=>?_))))<;>(try simp(disch:=assumption) only[go_sem,seval,h4,hz, *]))))
 refine bV (fun m env s'=>∃(i:Nat),i<=w/\m+i=w/\s'=s.set b (.obj 4 (eo n w i))/\env 0=.int .i64 n/\env 6=.msl b w/\env 26=.int .i64 w/\env 27=.int .i64 i) w ?_ ?_
 ·exact⟨_,Fg.refl _,0,by omega,by omega,rfl,ac,ac,ac,ac⟩
 ·rintro m env s' ⟨i,hi,hm,rfl,e0,e6,e26,e27⟩
  by_cases h5:i<w
  ·have a1:=jD (k:=i) (by omega)
   obtain⟨r,a2,a3⟩:=Fb (k:=i) HN.out (by omega)
   have a4:=yT (n:=n) h5
   have a5:(eo n w i).length=w:=ly
   generalize ((2 ^ i:Nat):Int)=P at *
   generalize n.testBit i=tb at *
   generalize hX:eo n w i=X at *
   generalize hY:eo n w (i+1)=Y at *
   have HY:=o_ hY
   clear hX hY hE hz
   (repeat'(first|refine Ctl ?_|((with_reducible refine k_ hK ?_);clear hK hE K E)|((with_reducible refine bZ (fun h=>?_) (fun h=>?_))<;>(try(exfalso;assumption)))|(((with_reducible first|refine ab fun K E hK hE=>?_|refine dP ?_))<;>(try simp(disch:=omega) only[go_sem,seval,a1,a2,a3,a4,a5,Bool.not_not, *]))))
   all_goals exact⟨_,Fg.refl _,m - 1,by omega,i+1,by omega,by omega,by rw[HY.out],ac,ac,ac,ac⟩
  ·obtain rfl:i=w:=by omega
   (repeat'(first|(with_reducible refine aR 9 ?_)|refine Ctl ?_|((with_reducible refine k_ hK ?_);clear hK hE K E)|((with_reducible refine bZ (fun h=>?_) (fun h=>?_))<;>(try(exfalso;assumption)))|(((with_reducible refine ab fun K E hK hE=>?_))<;>(try simp(disch:=assumption) only[go_sem,seval,h4,hz, *]))))
   unfold bC
   refine Ck 6 b i (q_ _ _ _) (ac) ly ?_
   rw[hE,St.set_set,v_ _ _ _ hb]
   (repeat'(first|refine Ctl ?_|((with_reducible refine k_ hK ?_);clear hK hE K E)|(((with_reducible refine ab fun K E hK hE=>?_))<;>(try simp(disch:=assumption) only[go_sem,seval, *]))))
   (refine aq FO hQ ?_)
   (refine⟨_,_,Wk.of_eq ?_,?_,rfl,rfl⟩)
   all_goals first|rfl|(exact bK)
end Go.Proofs.YtohnaepcgnbaiaaGreatDoor
namespace Go.Proofs.YtohnaepcgnbaiaaGreatDoor
open Go.RowKit
def dx (ds:TN):Ta:=ds.map fun d=>[.str d.1,.int .i64 (d.2:Int)]
def atC (at_:TU):Ta:=at_.map fun l=>[.lst (ak l) .no]
theorem pc {at_:TU}{d:Nat}{l:TW}(h:at_[d]?=some l):(atC at_)[d]?=some [.lst (ak l) .no]:=by simp[atC,h]
theorem oO {ds:TN}{d:Nat}{x:TT×Nat}(h:ds[d]?=some x):(dx ds)[d]?=some [.str x.1,.int .i64 (x.2:Int)]:=by simp[dx,h]
theorem fZ {ds:TN}:(dx ds).length=ds.length:=by simp[dx]
structure CMem (s:St) (K:OB) (q c n B:Nat) (ns:Td) (ds:TN) (at_:TU):Prop where
 om:OMem s K n B ns
 qo:s q=.obj 126 [.ptr K.o 0,.ptr K.s.p 0]
 co:s c=.obj 132 [.ptr q 0,.lst (dx ds) .no,.lst (atC at_) .no]
theorem OMem.types {s:St}{K:OB}{n B:Nat}{ns:Td}(h:OMem s K n B ns){z:Nat}{T:TypeId}{xs:Tb}(hz:s z=.obj T xs)(h1:T≠107)(h2:T≠161)(h3:T≠123):¬ K.has z:=by
 obtain⟨mk,hm⟩:=h.st.mem
 obtain⟨ps,ht,_⟩:=h.st.tab
 obtain⟨d,c,ho⟩:=h.op
 rintro((e|e|e|e)|e|e)
 ·have:=hm.o;rw[<- e,hz]at this;injection this with a;exact h1 a
 ·have:=hm.r;rw[<- e,hz]at this;cases this
 ·have:=ht.tab.o;rw[<- e,hz]at this;injection this with a;exact h2 a
 ·have:=ht.tab.r;rw[<- e,hz]at this;cases this
 ·rw[<- e,hz]at ho;injection ho with a;exact h3 a
 ·rcases h with h|h
  ·rw[h.c]at e;have:=h.ob;rw[<- e,hz]at this;injection this with a;exact h3 a
  ·obtain⟨xs,he,_⟩:=h.ca;rw[<- e,hz]at he;cases he
theorem CMem.nq {s:St}{K:OB}{q c n B:Nat}{ns:Td}{ds:TN}{at_:TU}(h:CMem s K q c n B ns ds at_):¬ K.has q/\¬ K.has c/\s q≠.free/\s c≠.free:=
 ⟨h.om.types h.qo (by decide) (by decide) (by decide),h.om.types h.co (by decide) (by decide) (by decide),by rw[h.qo];simp,by rw[h.co];simp⟩
theorem CMem.keep {s u:St}{K K':OB}{q c n B:Nat}{ns ns':Td}{ds:TN}{at_:TU}(h:CMem s K q c n B ns ds at_)(hm:OMem u K' n B ns')(hk:OKeep s u K K'):CMem u K' q c n B ns' ds at_:=by
 obtain⟨a,b,d,e⟩:=h.nq
 exact⟨hm,by rw[hk.out _ d a,h.qo,hk.o,hk.p],by rw[hk.out _ e b,h.co]⟩
theorem Nc {s:St}{K:OB}{q c n B v:Nat}{ns:Td}{ds:TN}{at_:TU}(hC:CMem s K q c n B ns ds at_)(hv:v<n)(b:Bool){N:Nat}(hc:CntN ns N)(hB:N+1<=B) :
  OpFC 89 [.ptr c 0,.int .i64 v,.bool b] s K n B ns (N+1) (fun x=>x v == b):=by
 obtain⟨d,cc,ho⟩:=hC.om.op
 have w1:=dD s q K.o K.s.p hC.qo
 have w2:=eU s K.o K.s.p d cc ho
 have c0:=hC.om.c0
 have hs1:∀g:Tf,DepF [v] g->SubN (treeT n g) 1:=fun g hg=>di (k:=1) (by simpa using hv) hg (by simp)
 have hco:=hC.co
 have hX:OpFC 79 [.ptr K.s.p 0,.int .i64 v,.int .i64 (if b then 0 else 1),.int .i64 (if b then 1 else 0)] s K n B ns (N+1) (fun x=>x v == b):=by
  have w:=Qy (S:=[]) (v:=v) hC.om (f:=fun _=>!b) (g:=fun _=>b) (fun _ _ _=>rfl) (fun _ _ _=>rfl) (by simp) hv (by cases b;exact c0.2.1;exact c0.1.1) (by cases b;exact c0.1.1;exact c0.2.1) hc (hs1 _ fun x y e=>by simp only[e v (by simp)]) hB
  have e1:(fun x:Tg=>if x v=true then b else !b)=fun x=>x v == b:=by
   funext x
   cases x v<;>cases b<;>rfl
  rw[e1]at w
  cases b
  ·simp only[Bool.not_false]at w
   rw[c0.1.2,c0.2.2]at w
   exact w
  ·simp only[Bool.not_true]at w
   rw[c0.1.2,c0.2.2]at w
   exact w
 unfold OpFC at hX ⊢
 unfold c9 at ho
 clear c0 hs1 hC hv hc hB
 cases b
 all_goals
  simp only[Bool.false_eq_true,if_true,if_false]at hX
  refine am Tryz.func89 rfl Tryz.ntmps89 rfl fun Q hQ hQe=>?_
  (repeat'(first|refine Ctl ?_|((with_reducible refine k_ hK ?_);clear hK hE K E)|((with_reducible refine bZ (fun h=>?_) (fun h=>?_))<;>(try(exfalso;assumption)))|(((with_reducible first|refine ab fun K E hK hE=>?_|refine ae dK (w1) ?_|refine ae iv (w2) ?_))<;>(try simp(disch:=assumption) only[go_sem,seval, *]))))
  refine ao oW hX (fun a h=>?_)
  obtain⟨u2,K2,ns2⟩:=a
  have HR:=o_ h
  clear h hX
  simp only[go_sem,seval]
  (repeat'(first|refine Ctl ?_|((with_reducible refine k_ hK ?_);clear hK hE K E)))
  (refine aq FN hQ ?_)
  exact⟨_,_,Wk.refl _,Fg.refl _,pB (K2,ns2) rfl HR.out⟩
theorem OpF.trans {s s1:St}{K K1:OB}{n B N2:Nat}{ns ns1:Td}{g:Tf}{a:gJ}(h:OpF s1 K1 n B ns1 N2 g a)(hk:OKeep s s1 K K1)(hp:∃l,ns1=ns++l):OpF s K n B ns N2 g a:=by
 obtain⟨l,rfl⟩:=hp
 obtain⟨l2,e⟩:=h.pre
 exact⟨h.m,⟨l++l2,by rw[e,List.append_assoc]⟩,h.mem,h.cnt,hk.trans h.k⟩
theorem eK {a b c:Td}(h:∃l,b=a++l)(k:∃l,c=b++l):∃l,c=a++l:=by
 obtain⟨l,rfl⟩:=h
 obtain⟨m,rfl⟩:=k
 exact⟨l++m,List.append_assoc _ _ _⟩
structure LeI (s:St) (K:OB) (q c n B:Nat) (ns:Td) (ds:TN) (at_:TU) (vs:TW) (k N i:Nat) (s':St) (K':OB) (ns':Td) (g:Tf):Prop where
 m:CMem s' K' q c n B ns' ds at_
 kp:OKeep s s' K K'
 pre:∃l,ns'=ns++l
 mem:treeT n g∈ns'
 cnt:CntN ns' (N+i * 2 ^ vs.length)
 dep:DepF vs g
 fin:leG (iS k i (vs.drop i)) g=fun x=>decide (k<=bX vs x)
theorem DepF.and {S:TW}{f g:Tf}(hf:DepF S f)(hg:DepF S g):DepF S fun x=>f x && g x:=fun x y e=>by simp only[hf x y e,hg x y e]
theorem DepF.or {S:TW}{f g:Tf}(hf:DepF S f)(hg:DepF S g):DepF S fun x=>f x || g x:=fun x y e=>by simp only[hf x y e,hg x y e]
theorem DepF.diff {S:TW}{f g:Tf}(hf:DepF S f)(hg:DepF S g):DepF S fun x=>f x && !g x:=fun x y e=>by simp only[hf x y e,hg x y e]
theorem DepF.xor {S:TW}{f g:Tf}(hf:DepF S f)(hg:DepF S g):DepF S fun x=>f x ^^ g x:=fun x y e=>by simp only[hf x y e,hg x y e]
theorem DepF.not {S:TW}{f:Tf}(hf:DepF S f):DepF S fun x=>!f x:=fun x y e=>by simp only[hf x y e]
theorem DepF.lit {S:TW}{v:Nat}(h:v∈S)(b:Bool):DepF S fun x=>x v == b:=fun x y e=>by simp only[e v h]
theorem LeI.next {s:St}{K:OB}{q c n B:Nat}{ns:Td}{ds:TN}{at_:TU}{vs:TW}{k N i v w M:Nat}{s':St}{K':OB}{ns':Td}{g g':Tf}{u1 u2:St}{K1 K2:OB}{ns1 ns2:Td}
  (I:LeI s K q c n B ns ds at_ vs k N i s' K' ns' g) (hvi:vs[i]?=some v) (hw:vs.length=w) (hM:M=N+i * 2 ^ w) (h1:OpF s' K' n B ns' (M+1) (fun x=>x v == true) (u1,K1,ns1))
  (h2:OpF u1 K1 n B ns1 (M+1+(2 ^ w - 1)) g' (u2,K2,ns2)) (hg:g'=fun x=>if k.testBit i=true then(x v == true) && g x else(x v == true) || g x) (hdep:DepF vs g'):LeI s K q c n B ns ds at_ vs k N (i+1) u2 K2 ns2 g':=by
 have hpw:0<2 ^ w:=Nat.two_pow_pos w
 refine⟨(I.m.keep h1.m h1.k).keep h2.m h2.k,I.kp.trans (h1.k.trans h2.k),eK I.pre (eK h1.pre h2.pre),h2.mem,h2.cnt.mono ?_,hdep,?_⟩
 ·rw[hw,hM,Nat.add_mul,Nat.one_mul]
  omega
 ·have hl:=(x_.1 hvi).1
  have e:vs.drop i=v::vs.drop (i+1):=by
   rw[c_ hl]
   congr 1
   rw[m_ hl]at hvi
   injection hvi
  have h3:=I.fin
  rw[e]at h3
  simp only[iS,leG]at h3
  rw[<- h3,hg]
  congr 1
  funext x
  cases x v<;>cases k.testBit i<;>simp
theorem t7 {s:St}{KK:OB}{q c n B d k N:Nat}{vs:TW}{ns:Td}{ds:TN}{at_:TU}(hC:CMem s KK q c n B ns ds at_)(hd:at_[d]?=some vs)(hv:∀v,v∈vs->v<n)(hw:vs.length<=62)(hk:k<2 ^ vs.length)(hc:CntN ns N)(hB:N+vs.length * 2 ^ vs.length<=B) :
  OpFC 117 [.ptr c 0,.int .i64 d,.int .i64 k] s KK n B ns (N+vs.length * 2 ^ vs.length) (fun x=>decide (k<=bX vs x)):=by
 have w0:=fun s=>Cz s k vs.length hw hk
 have c0:=hC.om.c0.2
 have I0:LeI s KK q c n B ns ds at_ vs k N 0 s KK ns (fun _=>true):=⟨hC,.refl _ _,⟨[],by simp⟩,c0.1,by simpa using hc,fun _ _ _=>rfl,by rw[List.drop_zero];funext x;exact LA hk⟩
 have e8:=c0.2
 have hat:=pc hd
 have hln:(ak vs).length=vs.length:=natsL_len
 have hl2:(gP k vs.length).length=vs.length:=qI
 have hco:=hC.co
 have hb1:=fun(j:Nat) (h:j<vs.length)=>tM (n:=k) h
 have hb2:=fun(j v:Nat) (h:vs[j]?=some v)=>aH h
 have HW:=o_ hw
 have HI:=o_ I0
 have HB:=o_ hB
 have HV:=o_ hv
 have HB1:=o_ hb1
 have HB2:=o_ hb2
 unfold OpFC
 clear I0 hC hd hv hk hc hB c0 hb1 hb2
 generalize gP k vs.length=L at *
 generalize hAA:atC at_=A at *
 have HAA:=o_ hAA
 clear hAA
 generalize ak vs=V at *
 generalize hwl:vs.length=w at *
 have HWL:=o_ hwl
 clear hwl
 have hd0:(0:Int)<=d:=Int.natCast_nonneg _
 refine am Tryz.func117 rfl Tryz.ntmps117 rfl fun Q hQ hQe=>?_
 (repeat'(first|refine Ctl ?_|((with_reducible refine k_ hK ?_);clear hK hE K E)|(((with_reducible first|refine ab fun K E hK hE=>?_|refine ae GI (w0 _) ?_))<;>(try simp(disch:=assumption) only[go_sem,seval,hat,hln,hl2, *]))))
 refine bV (fun m env s'=>∃(i:Nat) (K':OB) (ns':Td) (g:Tf),i<=w/\m+i=w/\Hid (LeI s KK q c n B ns ds at_ vs k N i s' K' ns' g)/\s' c=.obj 132 [.ptr q 0,.lst (dx ds) .no,.lst A .no]/\env 0=.ptr c 0/\env 1=.int .i64 d/\env 8=.int .i64 (ixF n ns' g:Nat)/\env 28=.lst L .no/\env 29=.int .i64 w/\env 30=.int .i64 i) w ?_ ?_
 ·exact⟨_,Fg.refl _,0,KK,ns,fun _=>true,by omega,by omega,HI,hco,ac,ac,by(rw[e8];((try simp(disch:=assumption) only[go_sem,seval, *])<;>rfl)),ac,ac,ac⟩
 ·rintro m env s' ⟨i,K',ns',g,hi,hm,II,hcs,e0,e1,e8,e28,e29,e30⟩
  have I:=II.out
  by_cases h5:i<w
  ·obtain⟨v,hvi⟩:∃v,vs[i]?=some v:=⟨_,m_ (by rw[HWL.out];exact h5)⟩
   have hvm:=y_ hvi
   have hpw:0<2 ^ w:=Nat.two_pow_pos w
   have hroom:N+i * 2 ^ w+2 ^ w<=B:=by
    have h1:i * 2 ^ w+2 ^ w=(i+1) * 2 ^ w:=by rw[Nat.add_mul,Nat.one_mul]
    have h2:(i+1) * 2 ^ w<=w * 2 ^ w:=Nat.mul_le_mul_right _ h5
    have:=HB.out
    omega
   have hcnt:=I.cnt
   rw[HWL.out]at hcnt
   have wl:=Nc I.m (HV.out v hvm) true hcnt (by omega)
   have hx1:=HB1.out i h5
   have hx2:=HB2.out i v hvi
   have HVI:=o_ hvi
   have HVM:=o_ hvm
   have HCNT:=o_ hcnt
   have HR:=o_ hroom
   have HPW:=o_ hpw
   have hkc:=I.m.co
   unfold OpFC at wl
   clear I hcnt hvi hvm hroom hkc hpw
   generalize htb:k.testBit i=tb at *
   have HTB:=o_ htb
   clear htb
   cases tb
   case false=>
    (repeat'(first|refine Ctl ?_|((with_reducible refine k_ hK ?_);clear hK hE K E)|((with_reducible refine bZ (fun h=>?_) (fun h=>?_))<;>(try(exfalso;assumption)))|(((with_reducible refine ab fun K E hK hE=>?_))<;>(try simp(disch:=assumption) only[go_sem,seval,hat,hx1,hx2,hln,hl2, *]))))
    refine ao GH wl (fun a h=>?_)
    obtain⟨u1,K1,ns1⟩:=a
    have I:=II.out
    have hm1:=I.m.keep h.m h.k
    have mg:=bn h.pre I.mem
    have dl:DepF vs fun x:Tg=>x v == true:=.lit HVM.out true
    have hgn:ep n g:=I.dep.hang HV.out
    have hln':ep n fun x:Tg=>x v == true:=dl.hang HV.out
    dsimp only at h mg hm1 ⊢
    have wq:=dD u1 q K1.o K1.s.p hm1.qo
    have hcs1:=hm1.co
    have hsub:SubN (treeT n fun x=>(x v == true) || g x) (2 ^ w - 1):=by
     have:=di (S:=vs) HV.out (dl.or I.dep) (Nat.le_refl vs.length)
     rw[HWL.out]at this
     exact this
    have wo:=Ca hm1.om hln' hgn h.mem mg.1 h.cnt hsub (by have:=HR.out;have:=HPW.out;omega)
    have e8':ixF n ns1 g=ixF n ns' g:=mg.2
    rw[e8']at wo
    have hdep:=dl.or I.dep
    have N1:=fun u2 K2 ns2 h2=>LeI.next (u2:=u2) (K2:=K2) (ns2:=ns2) I HVI.out HWL.out rfl h h2 (by rw[HTB.out];rfl) hdep
    have HN1:=o_ N1
    have hm1':=o_ hm1
    unfold OpFC at wo
    clear N1 hdep e8' hsub hm1 mg dl hgn hln' I h wl
    generalize hA2:atC at_=A2 at hcs1
    obtain rfl:A2=A:=hA2.symm.trans HAA.out
    clear hA2
    simp only[go_sem,seval]
    (repeat'(first|refine Ctl ?_|((with_reducible refine k_ hK ?_);clear hK hE K E)|((with_reducible refine bZ (fun h=>?_) (fun h=>?_))<;>(try(exfalso;assumption)))|(((with_reducible first|refine ab fun K E hK hE=>?_|refine ae dK (wq) ?_))<;>(try simp(disch:=assumption) only[go_sem,seval, *]))))
    refine ao xH wo (fun a h=>?_)
    obtain⟨u2,K2,ns2⟩:=a
    have h3:=HN1.out u2 K2 ns2 h
    have h4:=h3.m.co
    rw[HAA.out]at h4
    have H3:=o_ h3
    clear h h3 wo
    dsimp only
    simp only[go_sem,seval]
    (repeat'(first|refine Ctl ?_|((with_reducible refine k_ hK ?_);clear hK hE K E)|((with_reducible refine bZ (fun h=>?_) (fun h=>?_))<;>(try(exfalso;assumption)))|(((with_reducible refine ab fun K E hK hE=>?_))<;>(try simp(disch:=omega) only[go_sem,seval, *]))))
    exact⟨_,Fg.refl _,m - 1,by omega,i+1,K2,ns2,_,by omega,by omega,H3,h4,ac,ac,ac,ac,ac,ac⟩
   case true=>
    (repeat'(first|refine Ctl ?_|((with_reducible refine k_ hK ?_);clear hK hE K E)|((with_reducible refine bZ (fun h=>?_) (fun h=>?_))<;>(try(exfalso;assumption)))|(((with_reducible refine ab fun K E hK hE=>?_))<;>(try simp(disch:=assumption) only[go_sem,seval,hat,hx1,hx2,hln,hl2, *]))))
    refine ao GH wl (fun a h=>?_)
    obtain⟨u1,K1,ns1⟩:=a
    have I:=II.out
    have hm1:=I.m.keep h.m h.k
    have mg:=bn h.pre I.mem
    have dl:DepF vs fun x:Tg=>x v == true:=.lit HVM.out true
    have hgn:ep n g:=I.dep.hang HV.out
    have hln':ep n fun x:Tg=>x v == true:=dl.hang HV.out
    dsimp only at h mg hm1 ⊢
    have wq:=dD u1 q K1.o K1.s.p hm1.qo
    have hcs1:=hm1.co
    have hsub:SubN (treeT n fun x=>(x v == true) && g x) (2 ^ w - 1):=by
     have:=di (S:=vs) HV.out (dl.and I.dep) (Nat.le_refl vs.length)
     rw[HWL.out]at this
     exact this
    have wo:=vS hm1.om hln' hgn h.mem mg.1 h.cnt hsub (by have:=HR.out;have:=HPW.out;omega)
    have e8':ixF n ns1 g=ixF n ns' g:=mg.2
    rw[e8']at wo
    have hdep:=dl.and I.dep
    have N1:=fun u2 K2 ns2 h2=>LeI.next (u2:=u2) (K2:=K2) (ns2:=ns2) I HVI.out HWL.out rfl h h2 (by rw[HTB.out];rfl) hdep
    have HN1:=o_ N1
    have hm1':=o_ hm1
    unfold OpFC at wo
    clear N1 hdep e8' hsub hm1 mg dl hgn hln' I h wl
    generalize hA2:atC at_=A2 at hcs1
    obtain rfl:A2=A:=hA2.symm.trans HAA.out
    clear hA2
    simp only[go_sem,seval]
    (repeat'(first|refine Ctl ?_|((with_reducible refine k_ hK ?_);clear hK hE K E)|((with_reducible refine bZ (fun h=>?_) (fun h=>?_))<;>(try(exfalso;assumption)))|(((with_reducible first|refine ab fun K E hK hE=>?_|refine ae dK (wq) ?_))<;>(try simp(disch:=assumption) only[go_sem,seval, *]))))
    refine ao BI wo (fun a h=>?_)
    obtain⟨u2,K2,ns2⟩:=a
    have h3:=HN1.out u2 K2 ns2 h
    have h4:=h3.m.co
    rw[HAA.out]at h4
    have H3:=o_ h3
    clear h h3 wo
    dsimp only
    simp only[go_sem,seval]
    (repeat'(first|refine Ctl ?_|((with_reducible refine k_ hK ?_);clear hK hE K E)|((with_reducible refine bZ (fun h=>?_) (fun h=>?_))<;>(try(exfalso;assumption)))|(((with_reducible refine ab fun K E hK hE=>?_))<;>(try simp(disch:=omega) only[go_sem,seval, *]))))
    exact⟨_,Fg.refl _,m - 1,by omega,i+1,K2,ns2,_,by omega,by omega,H3,h4,ac,ac,ac,ac,ac,ac⟩
  ·obtain rfl:i=w:=by omega
   have hI:=II.out
   have hg:=hI.fin
   rw[List.drop_eq_nil_of_le (by rw[HWL.out];exact Nat.le_refl _)]at hg
   have hg2:g=fun x=>decide (k<=bX vs x):=hg
   have hcn:=hI.cnt
   rw[HWL.out]at hcn
   have HR:Hid (OpF s KK n B ns (N+i * 2 ^ i) (fun x=>decide (k<=bX vs x)) (s',K',ns')):=o_ ⟨hI.m.om,hI.pre,hg2 ▸ hI.mem,hcn,hI.kp⟩
   rw[hg2]at e8
   clear I hI hg hg2 hcn
   (repeat'(first|refine Ctl ?_|((with_reducible refine k_ hK ?_);clear hK hE K E)|((with_reducible refine bZ (fun h=>?_) (fun h=>?_))<;>(try(exfalso;assumption)))|(((with_reducible refine ab fun K E hK hE=>?_))<;>(try simp(disch:=assumption) only[go_sem,seval, *]))))
   (refine aq An hQ ?_)
   exact⟨_,_,Wk.refl _,Fg.refl _,pB (K',ns') rfl HR.out⟩
def ge (vs:TW)(lo hi:Nat)(x:Tg):Bool:=decide (lo<=bX vs x) && decide (bX vs x<=hi)
theorem Nf {s:St}{KK:OB}{q c n B d lo hi N:Nat}{vs:TW}{ns:Td}{ds:TN}{at_:TU}(hC:CMem s KK q c n B ns ds at_)(hd:at_[d]?=some vs)(hv:∀v,v∈vs->v<n)(hw:vs.length<=61)(hk:lo<2 ^ vs.length)(hk2:hi<2 ^ vs.length)(hc:CntN ns N)(hB:N+(2 * vs.length+1) * 2 ^ vs.length<=B) :
  OpFC 87 [.ptr c 0,.int .i64 d,.int .i64 lo,.int .i64 hi] s KK n B ns (N+(2 * vs.length+1) * 2 ^ vs.length) (ge vs lo hi):=by
 have hpw:0<2 ^ vs.length:=Nat.two_pow_pos _
 have hB1:N+vs.length * 2 ^ vs.length+(vs.length * 2 ^ vs.length+2 ^ vs.length)=N+(2 * vs.length+1) * 2 ^ vs.length:=by
  rw[Nat.add_mul,Nat.mul_assoc,Nat.one_mul]
  omega
 have w1:=t7 hC hd hv (by omega) hk hc (by omega)
 have d1:DepF vs fun x=>decide (lo<=bX vs x):=fun x y e=>by simp only[cO e]
 have hat:=pc hd
 have hln:(ak vs).length=vs.length:=natsL_len
 have hco:=hC.co
 have hsh:=jD (k:=vs.length) (by omega)
 have hadd:IntKind.i64.wrap ((hi+1:Nat):Int)=((hi+1:Nat):Int):=by
  have:2 ^ vs.length<=2 ^ 61:=Nat.pow_le_pow_right (by omega) hw
  generalize 2 ^ vs.length=P at *
  rw[bT (by omega) (by omega)]
 have HB1:=o_ hB1
 have HB:=o_ hB
 have HD:=o_ hd
 have HV:=o_ hv
 have HW:=o_ hw
 have HC:=o_ hC
 have HCN:=o_ hc
 have HD1:=o_ d1
 have hd0:(0:Int)<=d:=Int.natCast_nonneg _
 by_cases h5:hi+1<2 ^ vs.length
 ·have h6:¬ ((hi+1:Nat):Int)>=((2 ^ vs.length:Nat):Int):=by omega
  have HK2:=o_ h5
  unfold OpFC at w1 ⊢
  clear hC hd hv hw hk hk2 hc hB hB1 hpw d1 h5
  generalize hPP:((2 ^ vs.length:Nat):Int)=P at hsh h6
  obtain⟨hi1,hHH⟩:∃z,z=((hi+1:Nat):Int):=⟨_,rfl⟩
  rw[<- hHH]at hadd h6
  replace hHH:=hHH.symm
  have HHH:=o_ hHH
  obtain⟨w,hLL⟩:∃w,w=vs.length:=⟨_,rfl⟩
  rw[<- hLL]at hsh hln
  generalize hAA:atC at_=A at *
  have HAA:=o_ hAA
  clear hPP hLL hAA
  refine am Tryz.func87 rfl Tryz.ntmps87 rfl fun Q hQ hQe=>?_
  (repeat'(first|refine Ctl ?_|((with_reducible refine k_ hK ?_);clear hK hE K E)|(((with_reducible refine ab fun K E hK hE=>?_))<;>(try simp(disch:=assumption) only[go_sem,seval, *]))))
  refine ao vI w1 (fun a h=>?_)
  obtain⟨u1,K1,ns1⟩:=a
  have hm1:=HC.out.keep h.m h.k
  dsimp only at hm1 h ⊢
  have hcs1:=hm1.co
  rw[HAA.out]at hcs1
  have w2:=t7 hm1 HD.out HV.out (by have:=HW.out;omega) HK2.out h.cnt (by have:=HB.out;have:=HB1.out;have:0<2 ^ vs.length:=Nat.two_pow_pos _;omega)
  unfold OpFC at w2
  rw[HHH.out]at w2
  have H1:=o_ (And.intro h hm1)
  clear h hm1 w1
  simp only[go_sem,seval]
  (repeat'(first|refine Ctl ?_|((with_reducible refine k_ hK ?_);clear hK hE K E)|((with_reducible refine bZ (fun h=>?_) (fun h=>?_))<;>(try(exfalso;assumption)))|(((with_reducible refine ab fun K E hK hE=>?_))<;>(try simp(disch:=assumption) only[go_sem,seval,hat,hln,hsh,hadd, *]))))
  refine ao vI w2 (fun a h2=>?_)
  obtain⟨u2,K2,ns2⟩:=a
  obtain⟨h,hm1⟩:=H1.out
  have hm2:=hm1.keep h2.m h2.k
  have mg:=bn h2.pre h.mem
  dsimp only at hm2 h2 mg ⊢
  have hcs2:=hm2.co
  rw[HAA.out]at hcs2
  have wq:=dD u2 q K2.o K2.s.p hm2.qo
  have d2:DepF vs fun x=>decide (hi+1<=bX vs x):=fun x y e=>by simp only[cO e]
  have hdd:=HD1.out.diff d2
  have hcn:=h2.cnt
  have wo:=xT hm2.om (HD1.out.hang HV.out) (d2.hang HV.out) mg.1 h2.mem hcn (di HV.out hdd (Nat.le_refl _)) (by have:=HB.out;have:=HB1.out;have:0<2 ^ vs.length:=Nat.two_pow_pos _;omega)
  have e1:(ixF n ns2 fun x=>decide (lo<=bX vs x))=ixF n ns1 fun x=>decide (lo<=bX vs x):=mg.2
  have e2:(fun x=>decide (lo<=bX vs x) && !decide (hi+1<=bX vs x))=ge vs lo hi:=by
   funext x
   simp only[ge]
   congr 1
   rw[Bool.eq_iff_iff]
   simp
   omega
  rw[e1,e2]at wo
  unfold OpFC at wo
  have HN:Hid (∀a,OpF u2 K2 n B ns2 (N+vs.length * 2 ^ vs.length+vs.length * 2 ^ vs.length+(2 ^ vs.length - 1)) (ge vs lo hi) a->OpF s KK n B ns (N+(2 * vs.length+1) * 2 ^ vs.length) (ge vs lo hi) a):=o_ fun a h3=>by
   obtain⟨a1,a2,a3,a4,a5⟩:=OpF.trans h3 (h.k.trans h2.k) (eK h.pre h2.pre)
   exact⟨a1,a2,a3,a4.mono (by have:=HB1.out;have:0<2 ^ vs.length:=Nat.two_pow_pos _;omega),a5⟩
  clear h hm1 h2 hm2 mg d2 hdd hcn e1 e2 w2
  simp only[go_sem,seval]
  (repeat'(first|refine Ctl ?_|((with_reducible refine k_ hK ?_);clear hK hE K E)|((with_reducible refine bZ (fun h=>?_) (fun h=>?_))<;>(try(exfalso;assumption)))|(((with_reducible first|refine ab fun K E hK hE=>?_|refine ae dK (wq) ?_))<;>(try simp(disch:=assumption) only[go_sem,seval, *]))))
  refine ao GP wo (fun a h=>?_)
  obtain⟨u3,K3,ns3⟩:=a
  have h3:=o_ (HN.out _ h)
  clear h wo
  simp only[go_sem,seval]
  (repeat'(first|refine Ctl ?_|((with_reducible refine k_ hK ?_);clear hK hE K E)))
  (refine aq zV hQ ?_)
  exact⟨_,_,Wk.refl _,Fg.refl _,pB (K3,ns3) rfl h3.out⟩
 ·have h6:((hi+1:Nat):Int)>=((2 ^ vs.length:Nat):Int):=by omega
  have e2:(fun x=>decide (lo<=bX vs x))=ge vs lo hi:=by
   funext x
   simp only[ge]
   have:=jO vs x
   have:bX vs x<=hi:=by omega
   simp[this]
  rw[e2]at w1
  unfold OpFC at w1 ⊢
  have HB1':Hid (N+vs.length * 2 ^ vs.length<=N+(2 * vs.length+1) * 2 ^ vs.length):=o_ (by omega)
  clear hC hd hv hw hk hk2 hc hB hB1 hpw d1 h5 e2
  generalize hPP:((2 ^ vs.length:Nat):Int)=P at hsh h6
  obtain⟨hi1,hHH⟩:∃z,z=((hi+1:Nat):Int):=⟨_,rfl⟩
  rw[<- hHH]at hadd h6
  replace hHH:=hHH.symm
  obtain⟨w,hLL⟩:∃w,w=vs.length:=⟨_,rfl⟩
  rw[<- hLL]at hsh hln
  generalize hAA:atC at_=A at *
  have HAA:=o_ hAA
  clear hPP hLL hAA
  refine am Tryz.func87 rfl Tryz.ntmps87 rfl fun Q hQ hQe=>?_
  (repeat'(first|refine Ctl ?_|((with_reducible refine k_ hK ?_);clear hK hE K E)|(((with_reducible refine ab fun K E hK hE=>?_))<;>(try simp(disch:=assumption) only[go_sem,seval, *]))))
  refine ao vI w1 (fun a h=>?_)
  obtain⟨u1,K1,ns1⟩:=a
  have hm1:=HC.out.keep h.m h.k
  dsimp only at hm1 h ⊢
  have hcs1:=hm1.co
  rw[HAA.out]at hcs1
  have H1:Hid (OpF s KK n B ns (N+(2 * vs.length+1) * 2 ^ vs.length) (ge vs lo hi) (u1,K1,ns1)):=o_ ⟨h.m,h.pre,h.mem,h.cnt.mono HB1'.out,h.k⟩
  clear h hm1 w1
  simp only[go_sem,seval]
  (repeat'(first|refine Ctl ?_|((with_reducible refine k_ hK ?_);clear hK hE K E)|((with_reducible refine bZ (fun h=>?_) (fun h=>?_))<;>(try(exfalso;assumption)))|(((with_reducible refine ab fun K E hK hE=>?_))<;>(try simp(disch:=assumption) only[go_sem,seval,hat,hln,hsh,hadd, *]))))
  (refine aq zV hQ ?_)
  exact⟨_,_,Wk.refl _,Fg.refl _,pB (K1,ns1) rfl H1.out⟩
def o9 (m:Nat)(z:Int):Bool:=decide (z<0) || decide ((m:Int)<=z)
def lp (p:Int->Bool):TZ->Nat->Int
 |[],_=>-1
 |z::zs,i=>if p z=true then i else lp p zs (i+1)
theorem tr (p:Int->Bool):∀(zs:TZ) (i:Nat),decide (0<=lp p zs i)=zs.any p
 |[],i=>by simp[lp]
 |z::zs,i=>by
  have ih:=tr p zs (i+1)
  by_cases h:p z=true
  ·have e:lp p (z::zs) i=(i:Int):=if_pos h
   rw[e,List.any_cons]
   simp[h]
  ·have e:lp p (z::zs) i=lp p zs (i+1):=if_neg h
   rw[e,ih,List.any_cons]
   simp[h]
theorem cA (ks:TW):ak ks=aI (ks.map fun(k:Nat)=>(k:Int)):=by simp[ak,aI,List.map_map]
theorem FI (s:St)(bx c:Nat)(q:VV)(D A:Ta)(o1 o2:Own)(z:Int)(hb:s bx=.obj 63 [.ptr c 0])(hc:s c=.obj 132 [q,.lst D o1,.lst A o2]) :
  SRet Tryz.prog 110 [.int .i64 z,.ptr bx 0] s (.bool (o9 D.length z)) s:=by
 unfold o9
 generalize hm:D.length=m at *
 by_cases h1:z<0
 ·have e:(decide (z<0) || decide ((m:Int)<=z))=true:=by simp[h1]
  rw[e]
  clear e
  refine am Tryz.func110 rfl Tryz.ntmps110 rfl fun Q hQ hQe=>?_
  (repeat'(first|refine Ctl ?_|((with_reducible refine k_ hK ?_);clear hK hE K E)|(((with_reducible refine ab fun K E hK hE=>?_))<;>(try simp(disch:=assumption) only[go_sem,seval, *]))))
  all_goals(refine aq uH hQ ?_)
  all_goals(refine⟨_,_,Wk.of_eq ?_,?_,rfl,rfl⟩)
  all_goals first|rfl|(exact bK)
 ·have e:(decide (z<0) || decide ((m:Int)<=z))=decide ((m:Int)<=z):=by simp[h1]
  rw[e]
  clear e
  refine am Tryz.func110 rfl Tryz.ntmps110 rfl fun Q hQ hQe=>?_
  (repeat'(first|refine Ctl ?_|((with_reducible refine k_ hK ?_);clear hK hE K E)|(((with_reducible refine ab fun K E hK hE=>?_))<;>(try simp(disch:=assumption) only[go_sem,seval, *]))))
  all_goals(refine aq uH hQ ?_)
  all_goals(refine⟨_,_,Wk.of_eq ?_,?_,rfl,rfl⟩)
  all_goals first|rfl|(exact bK)
theorem Nd (s:St)(bx c:Nat)(q:VV)(D A:Ta)(o1 o2 o3:Own)(zs:TZ)(hz:zs.length<=1000000)(hb:s bx=.obj 63 [.ptr c 0])(hc:s c=.obj 132 [q,.lst D o1,.lst A o2]) :
  SRet Tryz.prog 74 [.lst (aI zs) o3,.fn 110 [.ptr bx 0]] s (.int .i64 (lp (o9 D.length) zs 0)) s:=by
 have w1:=fun z=>FI s bx c q D A o1 o2 z hb hc
 have hl:(aI zs).length=zs.length:=dW
 have hat:=fun(i:Nat) (z:Int) (h:zs[i]?=some z)=>ej h
 generalize o9 D.length=p at *
 have HA:=o_ hat
 clear hat
 obtain⟨R,hR⟩:∃R,lp p zs 0=R:=⟨_,rfl⟩
 rw[hR]
 have h0:Hid (lp p (zs.drop 0) 0=R):=o_ (by rw[List.drop_zero];exact hR)
 clear hR
 generalize aI zs=L at *
 refine am Tryz.func74 rfl Tryz.ntmps74 rfl fun Q hQ hQe=>?_
 (repeat'(first|refine Ctl ?_|((with_reducible refine k_ hK ?_);clear hK hE K E)|(((with_reducible refine ab fun K E hK hE=>?_))<;>(try simp(disch:=assumption) only[go_sem,seval,hl, *]))))
 refine aY (fun m env s'=>∃(i:Nat),i<=zs.length/\m+i=zs.length/\Hid (lp p (zs.drop i) i=R)/\s'=s/\env 0=.lst L o3/\env 1=.fn 110 [.ptr bx 0]/\env 7=.int .i64 zs.length/\env 8=.int .i64 i) zs.length
  ⟨0,by omega,by omega,h0,rfl,ac,ac,ac,ac⟩ ?_
 rintro m env s' ⟨i,hi,hm,HR,rfl,e0,e1,e7,e8⟩
 by_cases h2:i<zs.length
 ·have hx:=m_ h2
  have hd:=c_ h2
  have hr:=HR.out
  rw[hd]at hr
  generalize zs[i]=z at *
  have hx2:=HA.out i z hx
  have w2:=w1 z
  simp only[lp]at hr
  clear hd hx w1
  cases hp:p z
  ·rw[hp,if_neg (by simp)]at hr
   have HR2:=o_ hr
   rw[hp]at w2
   clear hr hp
   (repeat'(first|refine Ctl ?_|((with_reducible refine k_ hK ?_);clear hK hE K E)|((with_reducible refine bZ (fun h=>?_) (fun h=>?_))<;>(try(exfalso;assumption)))|(((with_reducible first|refine ab fun K E hK hE=>?_|refine ae BP (w2) ?_))<;>(try simp(disch:=omega) only[go_sem,seval,hx2, *]))))
   all_goals exact⟨m - 1,by omega,i+1,by omega,by omega,HR2,rfl,ac,ac,ac,ac⟩
  ·rw[hp,if_pos rfl]at hr
   subst hr
   rw[hp]at w2
   clear hp
   (repeat'(first|refine Ctl ?_|((with_reducible refine k_ hK ?_);clear hK hE K E)|((with_reducible refine bZ (fun h=>?_) (fun h=>?_))<;>(try(exfalso;assumption)))|(((with_reducible first|refine ab fun K E hK hE=>?_|refine ae BP (w2) ?_))<;>(try simp(disch:=assumption) only[go_sem,seval,hx2, *]))))
   all_goals(refine aq sF hQ ?_)
   all_goals(refine⟨_,_,Wk.of_eq ?_,?_,rfl,rfl⟩)
   all_goals first|rfl|(exact bK)
 ·have hr:=HR.out
  rw[List.drop_eq_nil_of_le (by omega)]at hr
  simp only[lp]at hr
  subst hr
  clear HR h0
  (repeat'(first|refine Ctl ?_|((with_reducible refine k_ hK ?_);clear hK hE K E)|((with_reducible refine bZ (fun h=>?_) (fun h=>?_))<;>(try(exfalso;assumption)))|(((with_reducible refine ab fun K E hK hE=>?_))<;>(try simp(disch:=assumption) only[go_sem,seval, *]))))
  all_goals(refine aq sF hQ ?_)
  all_goals(refine⟨_,_,Wk.of_eq ?_,?_,rfl,rfl⟩)
  all_goals first|rfl|(exact bK)
theorem Cx (s:St)(c:Nat)(q:VV)(D A:Ta)(o1 o2 o3:Own)(zs:TZ)(hz:zs.length<=1000000)(hc:s c=.obj 132 [q,.lst D o1,.lst A o2]) :
  SRet Tryz.prog 73 [.ptr c 0,.lst (aI zs) o3] s (.bool (!zs.any (o9 D.length))) s:=by
 have w0:=fun(t:St) (bx:Nat) (hb:t bx=.obj 63 [.ptr c 0]) (hc:t c=.obj 132 [q,.lst D o1,.lst A o2])=>Nd t bx c q D A o1 o2 o3 zs hz hb hc
 have hE:=tr (o9 D.length) zs 0
 generalize lp (o9 D.length) zs 0=R at *
 rw[<- hE]
 clear hE
 have w1:∀(t:St) (bx:Nat) (hb:t bx=.obj 63 [.ptr c 0]) (hc:t c=.obj 132 [q,.lst D o1,.lst A o2]),SRet Tryz.prog 109 [.lst (aI zs) o3,.fn 110 [.ptr bx 0]] t (.bool (decide (0<=R))) t:=fun t bx hb hc=>by
  have w:=w0 t bx hb hc
  clear w0 hz hb hc
  generalize aI zs=L at *
  refine am Tryz.func109 rfl Tryz.ntmps109 rfl fun Q hQ hQe=>?_
  (repeat'(first|refine Ctl ?_|((with_reducible refine k_ hK ?_);clear hK hE K E)|(((with_reducible first|refine ab fun K E hK hE=>?_|refine ae BD (w) ?_))<;>(try simp(disch:=assumption) only[go_sem,seval, *]))))
  all_goals(refine aq Ar hQ ?_)
  all_goals(refine⟨_,_,Wk.of_eq ?_,?_,rfl,rfl⟩)
  all_goals first|rfl|(exact bK)
 have hcf:s c≠.free:=by rw[hc];simp
 clear w0 hz
 generalize aI zs=L at *
 refine am Tryz.func73 rfl Tryz.ntmps73 rfl fun Q hQ hQe=>?_
 (repeat'(first|refine Ctl ?_|((with_reducible refine k_ hK ?_);clear hK hE K E)|((with_reducible refine bZ (fun h=>?_) (fun h=>?_))<;>(try(exfalso;assumption)))|((first|(with_reducible first|refine ab fun K E hK hE=>?_|refine ae Mo (w1 _ _ ac ac) ?_)|((with_reducible refine au (fun b hb=>?_));(try(obtain⟨_,_⟩:=nef hb hcf))))<;>(try simp(disch:=assumption) only[go_sem,seval, *]))))
 all_goals(refine aq FT hQ ?_)
 all_goals(refine⟨_,_,Wk.of_eq ?_,?_,rfl,rfl⟩)
 all_goals first|rfl|(exact bK)
theorem AU (b:Bool)(x y:Int):be b (.int .i64 x) (.int .i64 y)=some (.int .i64 (if b then max x y else min x y)):=by
 cases b
 ·simp only[be,if_true,Bool.false_eq_true,if_false]
  congr 2
  split<;>omega
 ·simp only[be,if_true]
  congr 2
  split<;>omega
structure DOk (n:Nat) (ds:TN) (at_:TU):Prop where
 len:at_.length=ds.length
 lt:∀l,l∈at_->∀v,v∈l->v<n
 nd:at_.flatten.Nodup
 w:∀(d:Nat) x l,ds[d]?=some x->at_[d]?=some l->1<=x.2/\x.2<=2 ^ l.length/\x.2<=1073741824/\l.length<=30
 m:ds.length<=32
theorem DOk.get {n:Nat}{ds:TN}{at_:TU}(h:DOk n ds at_){d:Nat}(hd:d<ds.length):∃nm sz l,ds[d]?=some (nm,sz)/\at_[d]?=some l/\1<=sz/\sz<=2 ^ l.length/\sz<=1073741824/\l.length<=30/\∀v,v∈l->v<n:=by
 have h1:=m_ hd
 have h2:=m_ (show d<at_.length by rw[h.len];exact hd)
 obtain⟨a,b,c,e⟩:=h.w d _ _ h1 h2
 exact⟨_,_,_,h1,h2,a,b,c,e,h.lt _ (List.getElem_mem _)⟩
theorem tN {m d:Nat}:o9 m (d:Int)=!decide (d<m):=by
 unfold o9
 have h1:decide ((d:Int)<0)=false:=by simp
 rw[h1,Bool.false_or]
 by_cases h:d<m
 ·simp[h]
 ·simp[h];omega
theorem Na {s:St}{KK:OB}{q c n B d N:Nat}{lo hi:Nat}{nm:TT}{sz:Nat}{vs:TW}{ns:Td}{ds:TN}{at_:TU}(hC:CMem s KK q c n B ns ds at_)(hD:DOk n ds at_)(hds:ds[d]?=some (nm,sz))(hd:at_[d]?=some vs)(h1:lo<=hi)(h2:hi<sz)(hc:CntN ns N)(hB:N+(2 * vs.length+1) * 2 ^ vs.length<=B) :
  OpFC 68 [.ptr c 0,.int .i64 d,.int .i64 lo,.int .i64 hi] s KK n B ns (N+(2 * vs.length+1) * 2 ^ vs.length) (ge vs lo hi):=by
 obtain⟨w1,w2,w3,w4⟩:=hD.w d _ _ hds hd
 dsimp only at w1 w2 w3
 have wb:=Nf (lo:=lo) (hi:=hi) hC hd (hD.lt _ (y_ hd)) (by omega) (by omega) (by omega) hc hB
 have wh:=Cx s c _ _ _ _ _ .full [(d:Int)] (by simp) hC.co
 have hdl:d<ds.length:=(x_.1 hds).1
 have hany:([(d:Int)]).any (o9 (dx ds).length)=false:=by
  rw[fZ,List.any_cons,List.any_nil,tN]
  simp[hdl]
 rw[hany]at wh
 simp only[aI,List.map_cons,List.map_nil,Bool.not_false]at wh
 have hco:=hC.co
 have hdc:=oO hds
 have m1:=AU false lo hi
 have m2:=AU true lo hi
 simp only[if_true,Bool.false_eq_true,if_false]at m1 m2
 rw[show min (lo:Int) hi=lo by omega]at m1
 rw[show max (lo:Int) hi=hi by omega]at m2
 have h3:¬ (lo:Int)<0:=by omega
 have h4:¬ (hi:Int)>=sz:=by omega
 have h5:¬ (lo:Int) > hi:=by omega
 unfold OpFC at wb ⊢
 clear hC hD hds hd h1 h2 hc hB w1 w2 w3 w4 hdl hany
 dsimp only at hdc
 generalize dx ds=D at *
 generalize atC at_=A at *
 have hd0:(0:Int)<=d:=Int.natCast_nonneg _
 refine am Tryz.func68 rfl Tryz.ntmps68 rfl fun Q hQ hQe=>?_
 (repeat'(first|refine Ctl ?_|((with_reducible refine k_ hK ?_);clear hK hE K E)|((with_reducible refine bZ (fun h=>?_) (fun h=>?_))<;>(try(exfalso;assumption)))|(((with_reducible first|refine ab fun K E hK hE=>?_|refine ae GK (wh) ?_))<;>(try simp(disch:=assumption) only[go_sem,seval,hdc,m1,m2, *]))))
 refine ao PY wb (fun a h=>?_)
 obtain⟨u1,K1,ns1⟩:=a
 have HR:=o_ h
 clear h wb
 simp only[go_sem,seval]
 (repeat'(first|refine Ctl ?_|((with_reducible refine k_ hK ?_);clear hK hE K E)))
 (refine aq FV hQ ?_)
 exact⟨_,_,Wk.refl _,Fg.refl _,pB (K1,ns1) rfl HR.out⟩
structure FG where
 f:FuncId
 caps:Tb
 g:Tf
def fgC (L:List FG):Ta:=L.map fun e=>[.fn e.f e.caps]
theorem EE {L:List FG}:(fgC L).length=L.length:=by simp[fgC]
theorem Rw {L:List FG}{i:Nat}{e:FG}(h:L[i]?=some e):(fgC L)[i]?=some [.fn e.f e.caps]:=by simp[fgC,h]
def Si (s:St)(Z:Nat->Prop)(q c n B m:Nat)(ds:TN)(at_:TU)(S:TW)(e:FG):Prop:=
 an Tryz.prog e.f/\DepF S e.g/\∀(s':St) (K':OB) (ns':Td) (N':Nat),CMem s' K' q c n B ns' ds at_->(∀z,Z z->s' z=s z)->CntN ns' N'->N'+m<=B->OpFC e.f e.caps s' K' n B ns' (N'+m) e.g
structure AlI (s:St) (K:OB) (Z:Nat->Prop) (q c n B m k:Nat) (ns:Td) (ds:TN) (at_:TU) (S:TW) (L:List FG) (N i:Nat) (s':St) (K':OB) (ns':Td) (g:Tf):Prop where
 cm:CMem s' K' q c n B ns' ds at_
 kp:OKeep s s' K K'
 pre:∃l,ns'=ns++l
 mem:treeT n g∈ns'
 cnt:CntN ns' (N+i * (m+2 ^ k))
 dep:DepF S g
 fin:g=fun x=>(L.take i).all fun e=>e.g x
theorem AlI.next {s:St}{K:OB}{Z:Nat->Prop}{q c n B m k:Nat}{ns:Td}{ds:TN}{at_:TU}{S:TW}{L:List FG}{N i:Nat}{s':St}{K':OB}{ns':Td}{g:Tf}{u1 u2:St}{K1 K2:OB}{ns1 ns2:Td}{e:FG}
  (I:AlI s K Z q c n B m k ns ds at_ S L N i s' K' ns' g) (he:L[i]?=some e) (h1:OpF s' K' n B ns' (N+i * (m+2 ^ k)+m) e.g (u1,K1,ns1)) (h2:OpF u1 K1 n B ns1 (N+i * (m+2 ^ k)+m+(2 ^ k - 1)) (fun x=>g x && e.g x) (u2,K2,ns2)) (hd:DepF S e.g) :
  AlI s K Z q c n B m k ns ds at_ S L N (i+1) u2 K2 ns2 (fun x=>g x && e.g x):=by
 have hpw:0<2 ^ k:=Nat.two_pow_pos k
 refine⟨(I.cm.keep h1.m h1.k).keep h2.m h2.k,I.kp.trans (h1.k.trans h2.k),eK I.pre (eK h1.pre h2.pre),h2.mem,h2.cnt.mono ?_,I.dep.and hd,?_⟩
 ·rw[Nat.add_mul,Nat.one_mul]
  omega
 ·funext x
  rw[I.fin,List.take_add_one,he]
  simp
theorem RQ {s:St}{KK:OB}{Z:Nat->Prop}{q c n B m k N:Nat}{ns:Td}{ds:TN}{at_:TU}{S:TW}{L:List FG}(ow:Own)(hC:CMem s KK q c n B ns ds at_)(hS:∀v,v∈S->v<n)(hk:S.length<=k)(hL:∀e,e∈L->Si s Z q c n B m ds at_ S e)(hZ:∀z,Z z->s z≠.free/\¬ KK.has z)(hc:CntN ns N)(hl:L.length<=1000)(hB:N+L.length * (m+2 ^ k)<=B) :
  OpFC 91 [.ptr c 0,.lst (fgC L) ow] s KK n B ns (N+L.length * (m+2 ^ k)) (fun x=>L.all fun e=>e.g x):=by
 have c0:=hC.om.c0.2
 have I0:AlI s KK Z q c n B m k ns ds at_ S L N 0 s KK ns (fun _=>true):=⟨hC,.refl _ _,⟨[],by simp⟩,c0.1,by simpa using hc,fun _ _ _=>rfl,by simp⟩
 have e8:=c0.2
 have hln:(fgC L).length=L.length:=EE
 have hat:=fun(i:Nat) (e:FG) (h:L[i]?=some e)=>Rw h
 have hco:=hC.co
 have HI:=o_ I0
 have HB:=o_ hB
 have HS:=o_ hS
 have HK:=o_ hk
 have HL:=o_ hL
 have HZ:=o_ hZ
 have HA:=o_ hat
 unfold OpFC
 clear I0 hC hS hk hL hZ hc hB c0 hat
 generalize fgC L=V at *
 generalize hAA:atC at_=A at *
 have HAA:=o_ hAA
 clear hAA
 refine am Tryz.func91 rfl Tryz.ntmps91 rfl fun Q hQ hQe=>?_
 (repeat'(first|refine Ctl ?_|((with_reducible refine k_ hK ?_);clear hK hE K E)|(((with_reducible refine ab fun K E hK hE=>?_))<;>(try simp(disch:=assumption) only[go_sem,seval,hln, *]))))
 refine bV (fun r env s'=>∃(i:Nat) (K':OB) (ns':Td) (g:Tf),i<=L.length/\r+i=L.length/\Hid (AlI s KK Z q c n B m k ns ds at_ S L N i s' K' ns' g)/\s' c=.obj 132 [.ptr q 0,.lst (dx ds) .no,.lst A .no]/\env 0=.ptr c 0/\env 6=.int .i64 (ixF n ns' g:Nat)/\env 11=.lst V ow/\env 12=.int .i64 L.length/\env 13=.int .i64 i) L.length ?_ ?_
 ·exact⟨_,Fg.refl _,0,KK,ns,fun _=>true,by omega,by omega,HI,hco,ac,by(rw[e8];((try simp(disch:=assumption) only[go_sem,seval, *])<;>rfl)),ac,ac,ac⟩
 ·rintro r env s' ⟨i,K',ns',g,hi,hm,II,hcs,e0,e6,e11,e12,e13⟩
  have I:=II.out
  by_cases h5:i<L.length
  ·have hx:=m_ h5
   generalize L[i]=e at hx
   obtain⟨hcan,hdp,hct⟩:=HL.out e (y_ hx)
   have hpw:0<2 ^ k:=Nat.two_pow_pos k
   have hroom:N+i * (m+2 ^ k)+m+2 ^ k<=B:=by
    have h1:i * (m+2 ^ k)+(m+2 ^ k)=(i+1) * (m+2 ^ k):=by rw[Nat.add_mul,Nat.one_mul]
    have h2:(i+1) * (m+2 ^ k)<=L.length * (m+2 ^ k):=Nat.mul_le_mul_right _ h5
    have:=HB.out
    omega
   have wl:=hct s' K' ns' _ I.cm (fun z hz=>I.kp.out z (HZ.out z hz).1 (HZ.out z hz).2) I.cnt (by omega)
   have hx2:=HA.out i e hx
   have HX:=o_ hx
   have HR:=o_ hroom
   have HPW:=o_ hpw
   have HDP:=o_ hdp
   unfold OpFC at wl
   clear I hx hpw hroom hct hdp
   (repeat'(first|refine Ctl ?_|((with_reducible refine k_ hK ?_);clear hK hE K E)|((with_reducible refine bZ (fun h=>?_) (fun h=>?_))<;>(try(exfalso;assumption)))|(((with_reducible refine ab fun K E hK hE=>?_))<;>(try simp(disch:=assumption) only[go_sem,seval,hx2, *]))))
   refine ao hcan wl (fun a h=>?_)
   obtain⟨u1,K1,ns1⟩:=a
   have I:=II.out
   have hm1:=I.cm.keep h.m h.k
   have mg:=bn h.pre I.mem
   dsimp only at h mg hm1 ⊢
   have wq:=dD u1 q K1.o K1.s.p hm1.qo
   have hcs1:=hm1.co
   rw[HAA.out]at hcs1
   have hdep:=I.dep.and HDP.out
   have wo:=vS hm1.om (I.dep.hang HS.out) (HDP.out.hang HS.out) mg.1 h.mem h.cnt (di HS.out hdep HK.out) (by have:=HR.out;have:=HPW.out;omega)
   have e8':ixF n ns1 g=ixF n ns' g:=mg.2
   rw[e8']at wo
   have HN1:=o_ fun u2 K2 ns2 h2=>AlI.next (u2:=u2) (K2:=K2) (ns2:=ns2) I HX.out h h2 HDP.out
   unfold OpFC at wo
   clear hdep e8' hm1 mg I h wl
   simp only[go_sem,seval]
   (repeat'(first|refine Ctl ?_|((with_reducible refine k_ hK ?_);clear hK hE K E)|((with_reducible refine bZ (fun h=>?_) (fun h=>?_))<;>(try(exfalso;assumption)))|(((with_reducible first|refine ab fun K E hK hE=>?_|refine ae dK (wq) ?_))<;>(try simp(disch:=assumption) only[go_sem,seval, *]))))
   refine ao BI wo (fun a h=>?_)
   obtain⟨u2,K2,ns2⟩:=a
   have h3:=HN1.out u2 K2 ns2 h
   have h4:=h3.cm.co
   rw[HAA.out]at h4
   have H3:=o_ h3
   clear h h3 wo
   dsimp only
   simp only[go_sem,seval]
   (repeat'(first|refine Ctl ?_|((with_reducible refine k_ hK ?_);clear hK hE K E)|((with_reducible refine bZ (fun h=>?_) (fun h=>?_))<;>(try(exfalso;assumption)))|(((with_reducible refine ab fun K E hK hE=>?_))<;>(try simp(disch:=omega) only[go_sem,seval, *]))))
   exact⟨_,Fg.refl _,r - 1,by omega,i+1,K2,ns2,_,by omega,by omega,H3,h4,ac,ac,ac,ac,ac⟩
  ·have hie:i=L.length:=by omega
   have hg:=I.fin
   rw[s_ (by omega)]at hg
   have hcn:=I.cnt
   rw[hie]at hcn
   have HR:Hid (OpF s KK n B ns (N+L.length * (m+2 ^ k)) (fun x=>L.all fun e=>e.g x) (s',K',ns')):=o_ ⟨I.cm.om,I.pre,hg ▸ I.mem,hcn,I.kp⟩
   rw[hg]at e6
   clear I hg hcn
   (repeat'(first|refine Ctl ?_|((with_reducible refine k_ hK ?_);clear hK hE K E)|((with_reducible refine bZ (fun h=>?_) (fun h=>?_))<;>(try(exfalso;omega)))|(((with_reducible refine ab fun K E hK hE=>?_))<;>(try simp(disch:=assumption) only[go_sem,seval, *]))))
   (refine aq Nq hQ ?_)
   exact⟨_,_,Wk.refl _,Fg.refl _,pB (K',ns') rfl HR.out⟩
theorem OpFC.mono {f:FuncId}{xs:Tb}{s:St}{K:OB}{n B N1 N2:Nat}{ns:Td}{g:Tf}(h:OpFC f xs s K n B ns N1 g)(hN:N1<=N2):OpFC f xs s K n B ns N2 g:=by
 refine SCalls.mono (h:=h) ?_
 rintro w u ⟨a,rfl,rfl,h1,h2,h3,h4,h5⟩
 exact⟨a,rfl,rfl,h1,h2,h3,h4.mono hN,h5⟩
theorem RN {s:St}{KK:OB}{q c n B d N b3 b4:Nat}{nm:TT}{sz:Nat}{vs:TW}{ns:Td}{ds:TN}{at_:TU}(hC:CMem s KK q c n B ns ds at_)(hD:DOk n ds at_)(hds:ds[d]?=some (nm,sz))(hd:at_[d]?=some vs)(h3:s b3=.obj 63 [.ptr c 0])(h4:s b4=.obj 3 [.int .i64 d])(hc:CntN ns N)(hB:N+(2 * vs.length+1) * 2 ^ vs.length<=B) :
  OpFC 86 [.ptr b3 0,.ptr b4 0] s KK n B ns (N+(2 * vs.length+1) * 2 ^ vs.length) (ge vs 0 (sz - 1)):=by
 obtain⟨w1,w2,w3,w4⟩:=hD.w d _ _ hds hd
 dsimp only at w1 w2 w3
 have wb:=Nf (lo:=0) (hi:=sz - 1) hC hd (hD.lt _ (y_ hd)) (by omega) (by omega) (by omega) hc hB
 have hco:=hC.co
 have hdc:=oO hds
 have hsub:IntKind.i64.wrap ((sz:Int) - 1)=((sz - 1:Nat):Int):=by
  rw[bT (by omega) (by omega)]
  omega
 unfold OpFC at wb ⊢
 clear hC hD hds hd hc hB w1 w2 w3 w4
 dsimp only at hdc
 generalize ((sz - 1:Nat):Int)=z1 at *
 generalize dx ds=D at *
 generalize atC at_=A at *
 have hd0:(0:Int)<=d:=Int.natCast_nonneg _
 refine am Tryz.func86 rfl Tryz.ntmps86 rfl fun Q hQ hQe=>?_
 (repeat'(first|refine Ctl ?_|(with_reducible first|(refine k_ hK ?_;clear hK hE K E)|(refine k_ hKh ?_;clear hKh Kh)|refine ax 1 [([0,1,2,3,4,5,6,7,8,9,10],11,[[]])] [12,13,14,15] hQe fun K E hK hE=>?_)|(((with_reducible first|refine ab fun K E hK hE=>?_|refine ay fun Kh hKh=>?_|refine aB fun Kb hKb=>?_))<;>(try simp(disch:=assumption) only[go_sem,seval,hdc,hsub, *]))))
 refine ao PY wb (fun a h=>?_)
 obtain⟨u1,K1,ns1⟩:=a
 have HR:=o_ h
 clear h wb
 simp only[go_sem,seval]
 (repeat'(first|refine Ctl ?_|(with_reducible first|(refine k_ hK ?_;clear hK hE K E)|(refine k_ hKh ?_;clear hKh Kh)|(refine k_ hKb (aC ?_);clear hKb Kb))|(((with_reducible refine aG fun Kh hKh=>?_))<;>(try simp(disch:=assumption) only[go_sem,seval, *]))))
 (refine aq Nu hQ ?_)
 exact⟨_,_,Wk.refl _,Fg.refl _,pB (K1,ns1) rfl HR.out⟩
def xnF (v w:Nat)(x:Tg):Bool:=(x v == true) ^^ (x w == false)
theorem QU {S:TW}{v w:Nat}(hv:v∈S)(hw:w∈S):DepF S (xnF v w):=fun x y e=>by simp only[xnF,e v hv,e w hw]
theorem RK {s:St}{KK:OB}{q c n B d d2 N b3 b4 b10 b5 b8 j v w:Nat}{vs us:TW}{ns:Td}{ds:TN}{at_:TU}(hC:CMem s KK q c n B ns ds at_)(hd:at_[d]?=some vs)(hd2:at_[d2]?=some us)(hv:vs[j]?=some v)(hw:us[j]?=some w)(hvn:v<n)(hwn:w<n)
  (h3:s b3=.obj 63 [.ptr c 0]) (h4:s b4=.obj 3 [.int .i64 d]) (h10:s b10=.obj 3 [.int .i64 j]) (h5:s b5=.obj 3 [.int .i64 d2]) (h8:s b8=.obj 57 [.ptr KK.o 0]) (hc:CntN ns N) (hB:N+8<=B) :
  OpFC 88 [.ptr b3 0,.ptr b4 0,.ptr b10 0,.ptr b5 0,.ptr b8 0] s KK n B ns (N+8) (xnF v w):=by
 have wl:=Nc hC hvn true hc (by omega)
 have hat:=pc hd
 have hat2:=pc hd2
 have hx:=aH hv
 have hx2:=aH hw
 have hco:=hC.co
 have hll:∀z,s z≠.free->¬ KK.has z->∀u K1,OKeep s u KK K1->u z=s z:=fun z h1 h2 u K1 h=>h.out z h1 h2
 have n3:¬ KK.has b3:=hC.om.types h3 (by decide) (by decide) (by decide)
 have n4:¬ KK.has b4:=hC.om.types h4 (by decide) (by decide) (by decide)
 have n10:¬ KK.has b10:=hC.om.types h10 (by decide) (by decide) (by decide)
 have n5:¬ KK.has b5:=hC.om.types h5 (by decide) (by decide) (by decide)
 have n8:¬ KK.has b8:=hC.om.types h8 (by decide) (by decide) (by decide)
 have HL:Hid (∀u K1,OKeep s u KK K1->u b3=.obj 63 [.ptr c 0]/\u b4=.obj 3 [.int .i64 d]/\u b10=.obj 3 [.int .i64 j]/\u b5=.obj 3 [.int .i64 d2]/\u b8=.obj 57 [.ptr KK.o 0]):=o_ fun u K1 h=>
  ⟨(h.out _ (by rw[h3];simp) n3).trans h3,(h.out _ (by rw[h4];simp) n4).trans h4,(h.out _ (by rw[h10];simp) n10).trans h10,(h.out _ (by rw[h5];simp) n5).trans h5,(h.out _ (by rw[h8];simp) n8).trans h8⟩
 have HC:=o_ hC
 have HB:=o_ hB
 have HV:=o_ (And.intro hvn hwn)
 unfold OpFC at wl ⊢
 clear hC hd hd2 hv hw hvn hwn hc hB hll n3 n4 n10 n5 n8
 generalize ak vs=V at *
 generalize ak us=U at *
 generalize dx ds=D at *
 generalize hAA:atC at_=A at *
 have HAA:=o_ hAA
 clear hAA
 have hd0:(0:Int)<=d:=Int.natCast_nonneg _
 have hd1:(0:Int)<=d2:=Int.natCast_nonneg _
 have hj0:(0:Int)<=j:=Int.natCast_nonneg _
 refine am Tryz.func88 rfl Tryz.ntmps88 rfl fun Q hQ hQe=>?_
 (repeat'(first|refine Ctl ?_|(with_reducible first|(refine k_ hK ?_;clear hK hE K E)|(refine k_ hKh ?_;clear hKh Kh)|refine ax 1 [([0,1,2,3,4,5,6,7,8,9,10],11,[[]])] [12,13,14,15,16] hQe fun K E hK hE=>?_)|(((with_reducible first|refine ab fun K E hK hE=>?_|refine ay fun Kh hKh=>?_|refine aB fun Kb hKb=>?_))<;>(try simp(disch:=assumption) only[go_sem,seval,hat,hx, *]))))
 refine ao GH wl (fun a h=>?_)
 obtain⟨u1,K1,ns1⟩:=a
 have hm1:=HC.out.keep h.m h.k
 obtain⟨g3,g4,g10,g5,g8⟩:=HL.out u1 K1 h.k
 dsimp only at h hm1 ⊢
 have hcs1:=hm1.co
 rw[HAA.out]at hcs1
 have wl2:=Nc hm1 HV.out.2 false h.cnt (by have:=HB.out;omega)
 have H1:=o_ (And.intro h hm1)
 unfold OpFC at wl2
 clear h hm1 wl
 simp only[go_sem,seval]
 (repeat'(first|refine Ctl ?_|(with_reducible first|(refine k_ hK ?_;clear hK hE K E)|(refine k_ hKh ?_;clear hKh Kh)|(refine k_ hKb (aC ?_);clear hKb Kb)|refine ax 4 [([0,1,2,3,4,5,6,7,8,9,10],11,[[]])] [12,13,14,15,16] hQe fun K E hK hE=>?_)|((with_reducible refine bZ (fun h=>?_) (fun h=>?_))<;>(try(exfalso;assumption)))|(((with_reducible first|refine ab fun K E hK hE=>?_|refine ay fun Kh hKh=>?_|refine aG fun Kh hKh=>?_|refine aB fun Kb hKb=>?_))<;>(try simp(disch:=assumption) only[go_sem,seval,hat2,hx2, *]))))
 refine ao GH wl2 (fun a h2=>?_)
 obtain⟨u2,K2,ns2⟩:=a
 obtain⟨h,hm1⟩:=H1.out
 have hm2:=hm1.keep h2.m h2.k
 obtain⟨e3,e4,e10,e5,e8⟩:=HL.out u2 K2 (h.k.trans h2.k)
 have mg:=bn h2.pre h.mem
 dsimp only at h2 hm2 mg ⊢
 have S2:∀z,z∈[v,w]->z<n:=by
  intro z hz
  simp only[AT,List.not_mem_nil,or_false]at hz
  rcases hz with rfl|rfl
  ·exact HV.out.1
  ·exact HV.out.2
 have d1:DepF [v,w] fun x=>x v == true:=.lit (by simp) true
 have d2:DepF [v,w] fun x=>x w == false:=.lit (by simp) false
 have wx:=RD hm2.om (d1.hang S2) (d2.hang S2) mg.1 h2.mem h2.cnt (di S2 d2.not (k:=2) (by simp)) (di S2 (d1.xor d2) (k:=2) (by simp)) (by have:=HB.out;omega)
 have e1:(ixF n ns2 fun x=>x v == true)=ixF n ns1 fun x=>x v == true:=mg.2
 rw[e1,h2.k.o,h.k.o]at wx
 have HN:Hid (∀a,OpF u2 K2 n B ns2 (N+1+1+(2 ^ 2 - 1)+(2 ^ 2 - 1)) (fun x=>(x v == true) ^^ (x w == false)) a->OpF s KK n B ns (N+8) (xnF v w) a):=o_ fun a h3=>by
  obtain⟨a1,a2,a3,a4,a5⟩:=OpF.trans h3 (h.k.trans h2.k) (eK h.pre h2.pre)
  exact⟨a1,a2,a3,a4.mono (by omega),a5⟩
 unfold OpFC at wx
 clear h hm1 h2 hm2 mg d1 d2 e1 S2 wl2 g3 g4 g10 g5 g8
 simp only[go_sem,seval]
 (repeat'(first|refine Ctl ?_|(with_reducible first|(refine k_ hK ?_;clear hK hE K E)|(refine k_ hKh ?_;clear hKh Kh)|(refine k_ hKb (aC ?_);clear hKb Kb))|((with_reducible refine bZ (fun h=>?_) (fun h=>?_))<;>(try(exfalso;assumption)))|(((with_reducible first|refine ab fun K E hK hE=>?_|refine aG fun Kh hKh=>?_))<;>(try simp(disch:=assumption) only[go_sem,seval, *]))))
 refine ao R7 wx (fun a h=>?_)
 obtain⟨u3,K3,ns3⟩:=a
 have h3:=o_ (HN.out _ h)
 clear h wx
 simp only[go_sem,seval]
 (repeat'(first|refine Ctl ?_|((with_reducible refine k_ hK ?_);clear hK hE K E)))
 (refine aq Nt hQ ?_)
 exact⟨_,_,Wk.refl _,Fg.refl _,pB (K3,ns3) rfl h3.out⟩
end Go.Proofs.YtohnaepcgnbaiaaGreatDoor
