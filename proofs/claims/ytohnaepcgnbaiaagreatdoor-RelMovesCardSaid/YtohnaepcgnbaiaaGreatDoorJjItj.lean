/- Walks of functions that the claim reaches, and plain facts of them. Conditions: those in the statements. -/
import Derived.Test.YtohnaepcgnbaiaaGreatDoorJjImj
import Derived.Test.YtohnaepcgnbaiaaGreatDoorJjSoundEj
import Derived.Test.YtohnaepcgnbaiaaGreatDoorJjGpj
set_option linter.unusedSimpArgs false
set_option linter.unusedVariables false
set_option maxRecDepth 100000
namespace Go.Proofs.YtohnaepcgnbaiaaGreatDoor
open Go.RowKit
set_option maxHeartbeats 4000000 in
theorem Oite_zero {s:St}{K:OB}{n B:Nat}{ns:List Tr}(hO:OMem1 s K n B ns){ta tb tc:Tr}(ha:ta∈ns)(hb:tb∈ns)(hc:tc∈ns)(h1:¬ tb=tc)(h:ta=.lf false):IteC s K n B ns ta tb tc:=by
 have hN:=hO.st.ok
 have hT:iteT n ta tb tc=tc:=by rw[h];exact iteT_zero (hN.ok _ hb) (hN.ok _ hc)
 unfold IteC
 rw[hT]
 have hR:OpR s K n B ns tc (s,K,ns):=⟨hO,.refl hc,.refl _ _,rfl⟩
 have h2:ixN ns ta=0:=((hN.one ha).2).2 h
 have h3:¬ ((ixN ns tb:Nat):Int)=((ixN ns tc:Nat):Int):=fun e=>h1 (ixN_inj hb hc (by omega))
 have HR:=Lib.hid hR
 clear hR h hO hT h1
 rw[h2]
 suffices hs:SRet Tryz.prog 108 [.ptr K.o 0,.int .i64 ((0:Nat):Int),.int .i64 (ixN ns tb:Nat),.int .i64 (ixN ns tc:Nat)] s (.tup [.int .i64 (ixN ns tc:Nat),.int .i64 0]) s by
  refine SCalls.mono (h:=hs) ?_
  rintro w u ⟨rfl,rfl⟩
  exact⟨(u,K,ns),rfl,rfl,HR.out⟩
 generalize ixN ns tb=kb at *
 generalize ixN ns tc=kc at *
 refine G_enter Tryz.func108 rfl Tryz.ntmps108 rfl fun Q hQ hQe=>?_
 (repeat'(first|refine Ctl ?_|((with_reducible refine Kof.use hK ?_);clear hK hE K E)|((with_reducible refine W_cond (fun h=>?_) (fun h=>?_))<;>(try(exfalso;assumption)))|(((with_reducible refine G_region fun K E hK hE=>?_))<;>(try simp(disch:=assumption) only[go_sem,seval,Int.natCast_zero,Int.ofNat_zero, *]))))
 all_goals(refine W_ret res108 hQ ?_)
 all_goals(refine⟨_,_,Wk.of_eq ?_,?_,rfl,rfl⟩)
 all_goals first|rfl|(exact z_fg)
set_option maxHeartbeats 4000000 in
theorem Oite_self {s:St}{K:OB}{n B:Nat}{ns:List Tr}(hO:OMem1 s K n B ns){ta tb tc:Tr}(ha:ta∈ns)(hb:tb∈ns)(hc:tc∈ns)(h1:¬ ta=.lf true)(h2:¬ ta=.lf false)(h3:tb=.lf true)(h4:tc=.lf false):IteC s K n B ns ta tb tc:=by
 have hN:=hO.st.ok
 have hT:iteT n ta tb tc=ta:=by rw[h3,h4];exact iteT_self (hN.ok _ ha)
 unfold IteC
 rw[hT]
 have hR:OpR s K n B ns ta (s,K,ns):=⟨hO,.refl ha,.refl _ _,rfl⟩
 have e1:¬ ((ixN ns ta:Nat):Int)=1:=fun e=>h1 (((hN.one ha).1).1 (by omega))
 have e2:¬ ((ixN ns ta:Nat):Int)=0:=fun e=>h2 (((hN.one ha).2).1 (by omega))
 have e3:ixN ns tb=1:=((hN.one hb).1).2 h3
 have e4:ixN ns tc=0:=((hN.one hc).2).2 h4
 have HR:=Lib.hid hR
 clear hR hO hT h1 h2 h3 h4
 rw[e3,e4]
 suffices hs:SRet Tryz.prog 108 [.ptr K.o 0,.int .i64 (ixN ns ta:Nat),.int .i64 ((1:Nat):Int),.int .i64 ((0:Nat):Int)] s (.tup [.int .i64 (ixN ns ta:Nat),.int .i64 0]) s by
  refine SCalls.mono (h:=hs) ?_
  rintro w u ⟨rfl,rfl⟩
  exact⟨(u,K,ns),rfl,rfl,HR.out⟩
 clear e3 e4
 generalize ixN ns ta=ka at *
 refine G_enter Tryz.func108 rfl Tryz.ntmps108 rfl fun Q hQ hQe=>?_
 (repeat'(first|refine Ctl ?_|((with_reducible refine Kof.use hK ?_);clear hK hE K E)|((with_reducible refine W_cond (fun h=>?_) (fun h=>?_))<;>(try(exfalso;assumption)))|(((with_reducible refine G_region fun K E hK hE=>?_))<;>(try simp(disch:=assumption) only[go_sem,seval,Int.natCast_zero,Int.ofNat_zero,Int.natCast_one, *]))))
 all_goals(refine W_ret res108 hQ ?_)
 all_goals(refine⟨_,_,Wk.of_eq ?_,?_,rfl,rfl⟩)
 all_goals first|rfl|(exact z_fg)
theorem ite_end {s S u1 u2 u3:St}{KB K1 K2:OB}{K3:SB}{n B v i b ka kb kc kr:Nat}{ns ns1 ns2 ns3:List Tr}{ta tb tc L H:Tr}{ys:List CE}{Y' Y:List VV}
  (hO:OMem1 s KB n B ns) (ha:ta∈ns) (hb:tb∈ns) (hc:tc∈ns) (hT:iteT n ta tb tc=mkT v L H) (hKS:OKeep s S KB KB)
  (M1:OMem1 u1 K1 n B ns1∧ExtN ns ns1 L∧OKeep S u1 KB K1) (M2:OMem1 u2 K2 n B ns2∧ExtN ns1 ns2 H∧OKeep u1 u2 K1 K2∧K2.c=K1.c∧¬ K1.has b)
  (c1:K1.c=KB.c) (k1o:K1.o=KB.o) (k1p:K1.s.p=KB.s.p) (k2p:K2.s.p=KB.s.p) (k2o:K2.o=KB.o)
  (M3:SMem u3 K3 n B ns3∧ExtN ns2 ns3 (mkT v L H)∧SKeep u2 u3 K2.s K3∧¬ K2.s.has KB.c∧¬ K2.s.has KB.o∧¬ K2.has b∧u2 KB.c≠.free∧u2 KB.o≠.free)
  (hye:∀e,e∈ys→e.is=true→∃ta tb tc,ta∈ns2∧tb∈ns2∧tc∈ns2∧e.a=((ixN ns2 ta:Nat):Int)∧e.b=((ixN ns2 tb:Nat):Int)∧e.c=((ixN ns2 tc:Nat):Int)∧iteT n ta tb tc∈ns2∧e.k=((ixN ns2 (iteT n ta tb tc):Nat):Int))
  (hyl:ys.length=4096) (hka:ixN ns ta=ka) (hkb:ixN ns tb=kb) (hkc:ixN ns tc=kc) (hkr:ixN ns3 (mkT v L H)=kr) (hY':cesC (ys.set i ⟨true,ka,kb,kc,kr⟩)=Y') (hyr:u2 KB.c=.row fndT 5 Y)
  (u2o:u2 KB.o=.obj opsT (opsC KB.s.p 1 0 (.mrw KB.c 4096))) :
  ∃y s',Wk (.tup [.int .i64 kr,.int .i64 0]) y∧Fg (u3.set KB.c (.row fndT 5 Y')) s'∧∃a:IteA,SEnd.ret y=.ret (.tup [.int .i64 (ixN a.2.2 (iteT n ta tb tc):Nat),.int .i64 0])∧s'=a.1∧OpR s KB n B ns (iteT n ta tb tc) a:=by
 obtain⟨m1,x1,k1⟩:=M1
 obtain⟨m2,x2,k2,c2,bN1⟩:=M2
 obtain⟨m3,x3,k3,sc,so,bN2,hcf2,hof2⟩:=M3
 have sub1:∀t,t∈ns→t∈ns3∧ixN ns3 t=ixN ns t:=fun t ht=>by
  obtain⟨a1,a2⟩:=x1.sub ht
  obtain⟨b1,b2⟩:=x2.sub a1
  obtain⟨d1,d2⟩:=x3.sub b1
  exact⟨d1,by rw[d2,b2,a2]⟩
 have hE:ExtN ns ns3 (mkT v L H):=by
  obtain⟨p1,e1⟩:=x1.pre
  obtain⟨p2,e2⟩:=x2.pre
  obtain⟨p3,e3⟩:=x3.pre
  refine⟨⟨p1++p2++p3,by rw[e3,e2,e1];simp⟩,fun t ht=>?_,x3.mem⟩
  rcases x3.new t ht with e|e
  ·rcases x2.new t e with e|e
   ·rcases x1.new t e with e|e
    ·exact .inl e
    ·exact .inr (subs_mk (.inl e))
   ·exact .inr (subs_mk (.inr e))
  ·exact .inr e
 have nK3:¬ K3.has KB.c:=fun e=>by
  rcases k3.nw _ e with e|e
  ·exact sc e
  ·exact hcf2 e
 have noc:¬ KB.o=KB.c:=fun e=>by rw[e,hyr]at u2o;cases u2o
 refine⟨_,_,Wk.refl _,Fg.refl _,(u3.set KB.c (.row fndT 5 Y'),⟨K3,KB.o,KB.c⟩,ns3),by rw[hT,hkr],rfl,?_⟩
 rw[hT]
 refine⟨⟨m3.keep fun z hz=>St.set_other _ _ fun e=>nK3 (e ▸ hz),?_,⟨ys.set i ⟨true,ka,kb,kc,kr⟩,?_,?_⟩⟩,hE,?_,rfl⟩
 ·refine(St.set_other _ _ noc).trans ((k3.out _ hof2 so).trans (u2o.trans ?_))
  rw[k3.p,k2p]
 ·exact(St.set_same _ _ _).trans (by rw[hY'])
 ·refine⟨by rw[List.length_set];exact hyl,fun e he hi=>?_⟩
  rcases List.mem_or_eq_of_mem_set he with he|he
  ·exact(CacheOk.ext ⟨hyl,hye⟩ x3).2 e he hi
  ·subst he
   obtain⟨a1,a2⟩:=sub1 _ ha
   obtain⟨b1,b2⟩:=sub1 _ hb
   obtain⟨d1,d2⟩:=sub1 _ hc
   exact⟨ta,tb,tc,a1,b1,d1,by rw[a2,hka],by rw[b2,hkb],by rw[d2,hkc],by rw[hT];exact x3.mem,by rw[hT,hkr]⟩
 ·have k4:OKeep u3 (u3.set KB.c (.row fndT 5 Y')) ⟨K3,K2.o,K2.c⟩ ⟨K3,KB.o,KB.c⟩:=by
   refine⟨rfl,rfl,k2o.symm,fun z hz=>.inl ?_,fun z hz hn=>St.set_other _ _ fun e=>hn (.inr (.inr ?_))⟩
   ·rcases hz with e|e|e
    ·exact .inl e
    ·exact .inr (.inl (e.trans k2o.symm))
    ·exact .inr (.inr (e.trans (c2.trans c1).symm))
   ·exact e.trans (c2.trans c1).symm
  exact((hKS.trans k1).trans k2).trans (k3.toO.trans k4)
set_option maxHeartbeats 4000000 in
theorem Oite_main {s:St}{KB:OB}{n B:Nat}{ns:List Tr}(hO:OMem1 s KB n B ns){ta tb tc:Tr}(ha:ta∈ns)(hb:tb∈ns)(hc:tc∈ns)(h1:¬ ta=.lf true)(h2:¬ ta=.lf false)(h3:¬ tb=tc)(h4:¬ (tb=.lf true∧tc=.lf false))(hF:FitN ns (iteT n ta tb tc) B)
  (ih:∀(s:St) (K0:OB) (ns:List Tr) (va vb vc:Tr),OMem1 s K0 n B ns→va∈ns→vb∈ns→vc∈ns→OkT n (min (min (min n (varN n ta)) (varN n tb)) (varN n tc)+1) va→OkT n (min (min (min n (varN n ta)) (varN n tb)) (varN n tc)+1) vb→OkT n (min (min (min n (varN n ta)) (varN n tb)) (varN n tc)+1) vc→FitN ns (iteT n va vb vc) B→IteC s K0 n B ns va vb vc) :
  IteC s KB n B ns ta tb tc:=by
 have hN:=hO.st.ok
 have hbd:=hO.st.bd
 obtain⟨xs,hcr,hcl,hce⟩:=hO.ca
 have hob:=hO.ob
 have e1:¬ ((ixN ns ta:Nat):Int)=1:=fun e=>h1 (((hN.one ha).1).1 (by omega))
 have e2:¬ ((ixN ns ta:Nat):Int)=0:=fun e=>h2 (((hN.one ha).2).1 (by omega))
 have e3:¬ ((ixN ns tb:Nat):Int)=((ixN ns tc:Nat):Int):=fun e=>h3 (ixN_inj hb hc (by omega))
 have e4:¬ (((ixN ns tb:Nat):Int)=1∧((ixN ns tc:Nat):Int)=0):=fun e=>h4 ⟨((hN.one hb).1).1 (by omega),((hN.one hc).2).1 (by omega)⟩
 have la:=ixN_lt ha
 have lb:=ixN_lt hb
 have lc:=ixN_lt hc
 have ba:((ixN ns ta:Nat):Int)≤1048576:=by omega
 have bb:((ixN ns tb:Nat):Int)≤1048576:=by omega
 have bc:((ixN ns tc:Nat):Int)≤1048576:=by omega
 obtain⟨f,hf,hf2⟩:=and_place
 have hnode:min (min (min n (varN n ta)) (varN n tb)) (varN n tc)<n:=by
  cases ta with
  |lf b=>cases b<;>simp_all
  |nd w l r=>
   have:=(hN.ok _ ha).2.1
   simp only[varN]
   omega
 have hva:∀t,t∈ns→topT n t=varN n t:=fun t _=>by cases t<;>rfl
 have v1:min (min (min n (varN n ta)) (varN n tb)) (varN n tc)≤topT n ta:=by rw[hva _ ha];omega
 have v2:min (min (min n (varN n ta)) (varN n tb)) (varN n tc)≤topT n tb:=by rw[hva _ hb];omega
 have v3:min (min (min n (varN n ta)) (varN n tb)) (varN n tc)≤topT n tc:=by rw[hva _ hc];omega
 have HVN:=Lib.hid hnode
 have HSTEP:=Lib.hid (iteT_step (hN.ok _ ha) (hN.ok _ hb) (hN.ok _ hc) v1 v2 v3 hnode)
 have HTOP:=Lib.hid (And.intro ((hN.ok _ ha).at_top v1 hnode).2 (And.intro ((hN.ok _ hb).at_top v2 hnode).2 ((hN.ok _ hc).at_top v3 hnode).2))
 clear v1 v2 v3 hva hnode
 have hof:s KB.o≠.free:=by rw[hob];simp
 have hcf:s KB.c≠.free:=by rw[hcr];simp
 have noc:¬ KB.o=KB.c:=fun e=>by rw[e,hcr]at hob;cases hob
 unfold IteC
 have HA:=Lib.hid ha
 have HB:=Lib.hid hb
 have HC:=Lib.hid hc
 have HN:=Lib.hid hN
 have HO:=Lib.hid hO
 have HE:=Lib.hid hce
 have HF:=Lib.hid hF
 have IH:=Lib.hid ih
 clear ha hb hc hN hO h1 h2 h3 h4 la lb lc hbd hce hF ih
 unfold opsC opsT fndT at *
 generalize hka:ixN ns ta=ka at *
 generalize hkb:ixN ns tb=kb at *
 generalize hkc:ixN ns tc=kc at *
 have HKA:=Lib.hid hka
 have HKB:=Lib.hid hkb
 have HKC:=Lib.hid hkc
 clear hka hkb hkc
 have ka0:(0:Int)≤ka:=Int.natCast_nonneg _
 have kb0:(0:Int)≤kb:=Int.natCast_nonneg _
 have kc0:(0:Int)≤kc:=Int.natCast_nonneg _
 have hf':=hf ((ka:Int) * 7+(kb:Int) * 31+(kc:Int) * 127)
 have hi:=hf2 ((ka:Int) * 7+(kb:Int) * 31+(kc:Int) * 127)
 generalize f ((ka:Int) * 7+(kb:Int) * 31+(kc:Int) * 127)=i at hf' hi
 clear hf hf2
 obtain⟨e,hxe⟩:∃e,xs[i]?=some e:=⟨_,List.getElem?_eq_getElem (by omega)⟩
 have x0:(cesC xs)[i * 5]?=some (.bool e.is):=cesC_cell (j:=0) hxe (by omega)
 have x1:=cesC_key hxe
 have x4:(cesC xs)[i * 5+4]?=some (.int .i64 e.k):=cesC_cell (j:=4) hxe (by omega)
 have xl:=cesC_len xs
 rw[hcl]at xl
 have hem:=List.mem_of_getElem? hxe
 obtain⟨is,ea,eb,ec,ek⟩:=e
 dsimp only at x0 x1 x4
 by_cases hit:is=true∧ea=ka∧eb=kb∧ec=kc
 ·obtain⟨rfl,rfl,rfl,rfl⟩:=hit
  obtain⟨ta',tb',tc',m1,m2,m3,q1,q2,q3,q4,q5⟩:=HE.out _ hem rfl
  dsimp only at q1 q2 q3 q5
  have j1:ta'=ta:=ixN_inj m1 HA.out (by rw[HKA.out];omega)
  have j2:tb'=tb:=ixN_inj m2 HB.out (by rw[HKB.out];omega)
  have j3:tc'=tc:=ixN_inj m3 HC.out (by rw[HKC.out];omega)
  subst j1 j2 j3
  subst q5
  have HR:Hid (OpR s KB n B ns (iteT n ta' tb' tc') (s,KB,ns)):=Lib.hid ⟨HO.out,.refl q4,.refl _ _,rfl⟩
  generalize hW:ixN ns (iteT n ta' tb' tc')=kw at *
  have HW:=Lib.hid hW
  generalize hX:cesC xs=X at *
  clear hW q1 q2 q3 q4 m1 m2 m3 hem hxe hX IH HE
  refine G_enter Tryz.func108 rfl Tryz.ntmps108 rfl fun Q hQ hQe=>?_
  (repeat'(first|refine Ctl ?_|(with_reducible first|(refine Kof.use hK ?_;clear hK hE K E)|(refine Kof.use hKh ?_;clear hKh Kh)|refine G_plan 9 [] [0,1,2,3,4,5,6,7,8,9,10,11] hQe fun K E hK hE=>?_)|((with_reducible refine W_cond (fun h=>?_) (fun h=>?_))<;>(try(exfalso;assumption)))|((first|(with_reducible first|refine G_region fun K E hK hE=>?_|refine W_if ?_|refine P_fin fun Kh hKh=>?_)|((with_reducible refine W_fresh (fun b hb=>?_));(try(obtain⟨_,_⟩:=nef hb hof;obtain⟨_,_⟩:=nef hb hcf)))|((with_reducible refine W_gd (fun h=>?_) (fun h=>?_))))<;>(try simp(disch:=omega) only[go_sem,seval,hf',x0,x1,x4, *]))))
  ·exact absurd ⟨of_eq_true (by assumption),of_eq_true (by assumption)⟩ e4
  all_goals(refine W_ret res108 hQ ?_)
  all_goals exact⟨_,_,Wk.refl _,Fg.setA (Fg.refl _) hb,(s,KB,ns),by rw[← HW.out],rfl,HR.out⟩
 ·have hd:is=true→(decide (ea=(ka:Int)) && (decide (eb=(kb:Int)) && decide (ec=(kc:Int))))=false:=fun h=>by
   rw[Bool.eq_false_iff]
   intro h2
   simp only[Bool.and_eq_true,decide_eq_true_eq]at h2
   exact hit ⟨h,h2.1,h2.2.1,h2.2.2⟩
  have HX:=Lib.hid (show s KB.c=.row 209 5 (cesC xs) from hcr)
  have HB':=Lib.hid hi
  have HCL:=Lib.hid hcl
  clear hit hem hxe
  generalize hX:cesC xs=X at *
  have HXX:=Lib.hid hX
  clear hX
  cases is
  all_goals
   try replace hd:=hd rfl
   refine G_enter Tryz.func108 rfl Tryz.ntmps108 rfl fun Q hQ hQe=>?_
   (repeat'(first|(with_reducible refine Kp_atQ 11 ?_)|refine Ctl ?_|(with_reducible first|(refine Kof.use hK ?_;clear hK hE K E)|(refine Kof.use hKh ?_;clear hKh Kh)|refine G_plan 9 [] [0,1,2,3,4,5,6,7,8,9,10,11] hQe fun K E hK hE=>?_)|((with_reducible refine W_cond (fun h=>?_) (fun h=>?_))<;>(try(exfalso;assumption)))|((first|(with_reducible first|refine G_region fun K E hK hE=>?_|refine W_if ?_|refine P_fin fun Kh hKh=>?_)|((with_reducible refine W_fresh (fun b hb=>?_));(try(obtain⟨_,_⟩:=nef hb hof;obtain⟨_,_⟩:=nef hb hcf)))|((with_reducible refine W_gd (fun h=>?_) (fun h=>?_))))<;>(try simp(disch:=omega) only[go_sem,seval,hf',x0,x1,x4, *]))))
   ·exact absurd ⟨of_eq_true (by assumption),of_eq_true (by assumption)⟩ e4
   all_goals
    unfold StopQ
    refine Kp_nameQ fun S hS=>?_
    have hSz:∀z,s z≠.free→S z=s z:=fun z hz=>by rw[hS];exact St.set_other _ _ (nef hb hz).1
    have hSb:S b=.obj 47 [.int .i64 ka,.int .i64 kb,.int .i64 kc]:=by rw[hS];exact St.set_same _ _ _
    have hSo:=(hSz _ hof).trans hob
    clear hS
    have bN:¬ KB.has b:=fun e=>HO.out.live' e hb
    have hKS:OKeep s S KB KB:=⟨rfl,rfl,rfl,fun z hz=>.inl hz,fun z hz _=>hSz z hz⟩
    have hSO:OMem1 S KB n B ns:=HO.out.keep fun z hz=>hSz z (HO.out.live' hz)
    have hbf:S b≠.free:=by rw[hSb];simp
    have ga:=ixN_get HA.out
    have gb:=ixN_get HB.out
    have gc:=ixN_get HC.out
    rw[HKA.out]at ga
    rw[HKB.out]at gb
    rw[HKC.out]at gc
    have w0:=Otop_S S KB n B ns (.inr hSO) ka kb kc ta tb tc ga gb gc .full
    have hvn:min (min (min n (varN n ta)) (varN n tb)) (varN n tc)<n:=HVN.out
    have ih:=IH.out
    have HV:=HTOP.out
    obtain⟨o1,o2,hT⟩:=HSTEP.out
    generalize min (min (min n (varN n ta)) (varN n tb)) (varN n tc)=v at *
    have HVV:=Lib.hid hvn
    have w1:=Osplit_T (.inr hSO) hvn HA.out
    have w2:=Osplit_T (.inr hSO) hvn HB.out
    have w3:=Osplit_T (.inr hSO) hvn HC.out
    rw[HKA.out]at w1
    rw[HKB.out]at w2
    rw[HKC.out]at w3
    obtain⟨la,ra⟩:=HN.out.lo HA.out v
    obtain⟨lb,rb⟩:=HN.out.lo HB.out v
    obtain⟨lc,rc⟩:=HN.out.lo HC.out v
    obtain⟨oa1,oa2⟩:=HV.1
    obtain⟨ob1,ob2⟩:=HV.2.1
    obtain⟨oc1,oc2⟩:=HV.2.2
    have fL:FitN ns (iteT n (loT v ta) (loT v tb) (loT v tc)) B:=fun X hX hs=>HF.out X hX fun t ht=>(hs t ht).imp id fun e=>by rw[hT];exact subs_mk (.inl e)
    have wl:=ih S KB ns _ _ _ hSO la lb lc oa1 ob1 oc1 fL
    unfold IteC at wl
    have H1:=Lib.hid (And.intro oa2 (And.intro ob2 oc2))
    have H2:=Lib.hid (And.intro ra (And.intro rb rc))
    have HT:=Lib.hid hT
    have HKSh:=Lib.hid hKS
    have IH2:=Lib.hid ih
    have HSO2:=Lib.hid hSO
    have HOO:=Lib.hid (And.intro o1 o2)
    clear ih HV oa1 ob1 oc1 oa2 ob2 oc2 la lb lc ra rb rc fL hT hKS o1 o2 ga gb gc hSz hSO IH HSTEP HTOP HVN hvn
    generalize hla:ixN ns (loT v ta)=na at *
    generalize hlb:ixN ns (loT v tb)=nb at *
    generalize hlc:ixN ns (loT v tc)=nc at *
    generalize hra:ixN ns (hiT v ta)=qa at *
    generalize hrb:ixN ns (hiT v tb)=qb at *
    generalize hrc:ixN ns (hiT v tc)=qc at *
    have HQ:=Lib.hid (And.intro hra (And.intro hrb hrc))
    clear hla hlb hlc hra hrb hrc
    (repeat'(first|refine Ctl ?_|((with_reducible refine Kof.use hK ?_);clear hK hE K E)|(((with_reducible first|refine G_region fun K E hK hE=>?_|refine call_ret can142 (w0) ?_|refine call_ret can143 (w1) ?_|refine call_ret can143 (w2) ?_|refine call_ret can143 (w3) ?_))<;>(try simp(disch:=assumption) only[go_sem,seval, *]))))
    refine call_ex can108 wl (fun a h=>?_)
    obtain⟨u1,K1,ns1⟩:=a
    obtain⟨m1,x1',k1,c1⟩:=h
    dsimp only at m1 x1' k1 c1 ⊢
    have k1p:=k1.p
    have k1o:=k1.o
    have u1o:=m1.ob
    unfold opsC opsT at u1o
    rw[k1o,k1p,c1]at u1o
    have u1b:=(k1.out b hbf bN).trans hSb
    have hv2:=HVV.out
    obtain⟨oa2,ob2,oc2⟩:=H1.out
    obtain⟨ra,rb,rc⟩:=H2.out
    obtain⟨ra1,ra2⟩:=x1'.sub ra
    obtain⟨rb1,rb2⟩:=x1'.sub rb
    obtain⟨rc1,rc2⟩:=x1'.sub rc
    obtain⟨qa1,qb1,qc1⟩:=HQ.out
    have fH:FitN ns1 (iteT n (hiT v ta) (hiT v tb) (hiT v tc)) B:=HF.out.ext x1' (fun t ht=>by rw[HT.out];exact subs_mk (.inl ht)) (fun t ht=>by rw[HT.out];exact subs_mk (.inr ht))
    have wh:=IH2.out u1 K1 ns1 _ _ _ m1 ra1 rb1 rc1 oa2 ob2 oc2 fH
    unfold IteC at wh
    rw[ra2,rb2,rc2,qa1,qb1,qc1,k1o]at wh
    have M1:=Lib.hid (And.intro m1 (And.intro x1' k1))
    clear oa2 ob2 oc2 ra rb rc ra1 rb1 rc1 ra2 rb2 rc2 qa1 qb1 qc1 fH m1 x1' k1 w0 w1 w2 w3 wl IH2
    have hb1:u1 b≠.free:=by rw[u1b];simp
    generalize hkl:ixN ns1 (iteT n (loT v ta) (loT v tb) (loT v tc))=kl at *
    have HKL:=Lib.hid hkl
    clear hkl
    simp only[go_sem,seval]
    (repeat'(first|refine Ctl ?_|((with_reducible refine Kof.use hK ?_);clear hK hE K E)|((with_reducible refine W_cond (fun h=>?_) (fun h=>?_))<;>(try(exfalso;assumption)))|(((with_reducible refine G_region fun K E hK hE=>?_))<;>(try simp(disch:=assumption) only[go_sem,seval, *]))))
    refine call_ex can108 wh (fun a h=>?_)
    obtain⟨u2,K2,ns2⟩:=a
    obtain⟨m2,x2',k2,c2⟩:=h
    dsimp only at m2 x2' k2 c2 ⊢
    obtain⟨m1,x1',k1⟩:=M1.out
    have bN1:¬ K1.has b:=fun e=>by
     rcases k1.nw b e with e|e
     ·exact bN e
     ·exact hbf e
    have k2p:=k2.p.trans k1p
    have k2o:=k2.o.trans k1o
    have u2o:=m2.ob
    unfold opsC opsT at u2o
    rw[k2o,k2p,c2,c1]at u2o
    have u2b:=(k2.out b hb1 bN1).trans u1b
    obtain⟨l2,e2l⟩:=x2'.sub x1'.mem
    rw[HKL.out]at e2l
    obtain⟨o1,o2⟩:=HOO.out
    have fM:FitN ns2 (mkT v (iteT n (loT v ta) (loT v tb) (loT v tc)) (iteT n (hiT v ta) (hiT v tb) (hiT v tc))) B:=fun X hX hs=>HF.out X hX fun t ht=>by
     rcases hs t ht with e|e
     ·rcases x2'.new t e with e|e
      ·rcases x1'.new t e with e|e
       ·exact .inl e
       ·exact .inr (by rw[HT.out];exact subs_mk (.inl e))
      ·exact .inr (by rw[HT.out];exact subs_mk (.inr e))
     ·exact .inr (by rw[HT.out];exact e)
    have wm:=Nmk_S m2.st l2 x2'.mem o1 o2 hv2 fM
    rw[k2p,e2l]at wm
    have M2:=Lib.hid (And.intro m2 (And.intro x2' (And.intro k2 (And.intro c2 bN1))))
    clear m1 x1' k1 bN1 m2 x2' k2 o1 o2 fM wh e2l l2
    have hb2:u2 b≠.free:=by rw[u2b];simp
    generalize hkh:ixN ns2 (iteT n (hiT v ta) (hiT v tb) (hiT v tc))=kh at *
    have HKH:=Lib.hid hkh
    clear hkh
    simp only[go_sem,seval]
    (repeat'(first|refine Ctl ?_|((with_reducible refine Kof.use hK ?_);clear hK hE K E)|((with_reducible refine W_cond (fun h=>?_) (fun h=>?_))<;>(try(exfalso;assumption)))|(((with_reducible refine G_region fun K E hK hE=>?_))<;>(try simp(disch:=assumption) only[go_sem,seval, *]))))
    refine call_ex can79 wm (fun a h=>?_)
    obtain⟨u3,K3,ns3⟩:=a
    obtain⟨m3,x3',k3⟩:=h
    dsimp only at m3 x3' k3 ⊢
    obtain⟨m2,x2',k2,c2,bN1⟩:=M2.out
    have bN2:¬ K2.has b:=fun e=>by
     rcases k2.nw b e with e|e
     ·exact bN1 e
     ·exact hb1 e
    obtain⟨sc,so⟩:=m2.sep
    obtain⟨ys,hyr,hyl,hye⟩:=m2.ca
    rw[c2,c1]at hyr sc
    rw[k2o]at so
    have hcf2:u2 KB.c≠.free:=by rw[hyr];simp
    have hof2:u2 KB.o≠.free:=by rw[u2o];simp
    have u3c:=(k3.out _ hcf2 sc).trans hyr
    have u3b:=(k3.out _ hb2 (fun e=>bN2 (.inl e))).trans u2b
    unfold fndT at u3c
    have HYE:=Lib.hid hye
    have HYL:=Lib.hid hyl
    have M3:=Lib.hid (And.intro m3 (And.intro x3' (And.intro k3 (And.intro sc (And.intro so (And.intro bN2 (And.intro hcf2 hof2)))))))
    have yin:i * 5+5≤(cesC ys).length:=cesC_in (by rw[hyl];exact HB'.out)
    have yset:=cesC_set (l:=ys) (k:=i) (e:=⟨true,ka,kb,kc,(ixN ns3 (mkT v (iteT n (loT v ta) (loT v tb) (loT v tc)) (iteT n (hiT v ta) (hiT v tb) (hiT v tc))):Nat)⟩) (by rw[hyl];exact HB'.out)
    dsimp only[ceC]at yset
    clear m2 x2' k2 c2 bN1 bN2 sc so hye hyl m3 x3' k3 wm
    have nbc:¬ b=KB.c:=by assumption
    generalize hkr:ixN ns3 (mkT v (iteT n (loT v ta) (loT v tb) (loT v tc)) (iteT n (hiT v ta) (hiT v tb) (hiT v tc)))=kr at *
    have HKR:=Lib.hid hkr
    clear hkr
    generalize hY:cesC ys=Y at *
    generalize hY':cesC (ys.set i ⟨true,ka,kb,kc,kr⟩)=Y' at *
    have HY':=Lib.hid hY'
    clear hY hY'
    simp only[go_sem,seval]
    (repeat'(first|refine Ctl ?_|((with_reducible refine Kof.use hK ?_);clear hK hE K E)|((with_reducible refine W_cond (fun h=>?_) (fun h=>?_))<;>(try(exfalso;assumption)))|(((with_reducible refine G_region fun K E hK hE=>?_))<;>(try simp(disch:=assumption) only[go_sem,seval,yset, *]))))
    (refine W_ret res108 hQ ?_)
    exact ite_end HO.out HA.out HB.out HC.out HT.out HKSh.out M1.out M2.out c1 k1o k1p k2p k2o M3.out HYE.out HYL.out HKA.out HKB.out HKC.out HKR.out HY'.out hyr u2o
theorem Oite_S {n B:Nat}:∀(d m:Nat) (s:St) (K:OB) (ns:List Tr) (ta tb tc:Tr),n - m≤d→OMem1 s K n B ns→ta∈ns→tb∈ns→tc∈ns→OkT n m ta→OkT n m tb→OkT n m tc→FitN ns (iteT n ta tb tc) B→IteC s K n B ns ta tb tc:=by
 intro d
 induction d with
 |zero=>
  intro m s K ns ta tb tc hd hO ha hb hc oa ob oc hF
  cases ta with
  |lf b=>
   cases b with
   |true=>exact Oite_one hO ha hb hc (.inl rfl)
   |false=>
    by_cases h3:tb=tc
    ·exact Oite_one hO ha hb hc (.inr h3)
    ·exact Oite_zero hO ha hb hc h3 rfl
  |nd w l r=>
   have:=oa.1
   have:=oa.2.1
   omega
 |succ d ih=>
  intro m s K ns ta tb tc hd hO ha hb hc oa ob oc hF
  by_cases h1:ta=.lf true
  ·exact Oite_one hO ha hb hc (.inl h1)
  by_cases h3:tb=tc
  ·exact Oite_one hO ha hb hc (.inr h3)
  by_cases h2:ta=.lf false
  ·exact Oite_zero hO ha hb hc h3 h2
  by_cases h4:tb=.lf true∧tc=.lf false
  ·exact Oite_self hO ha hb hc h1 h2 h4.1 h4.2
  have hge:∀t:Tr,OkT n m t→m≤n→m≤varN n t:=fun t ht hm=>by
   cases t with
   |lf b=>exact hm
   |nd w l r=>exact ht.1
  have hmn:m<n:=by
   cases ta with
   |lf b=>cases b<;>simp_all
   |nd w l r=>exact Nat.lt_of_le_of_lt oa.1 oa.2.1
  refine Oite_main hO ha hb hc h1 h2 h3 h4 hF fun s' K' ns' va vb vc a1 a2 a3 a4 a5 a6 a7 a8=>ih _ s' K' ns' va vb vc ?_ a1 a2 a3 a4 a5 a6 a7 a8
  have:=hge _ oa (by omega)
  have:=hge _ ob (by omega)
  have:=hge _ oc (by omega)
  omega
structure OpQ (s:St) (K:OB) (n B:Nat) (ns:List Tr) (T:Tr) (a:IteA):Prop where
 m:OMem a.1 a.2.1 n B a.2.2
 e:ExtN ns a.2.2 T
 k:OKeep s a.1 K a.2.1
def OpC (f:FuncId)(xs:List VV)(s:St)(K:OB)(n B:Nat)(ns:List Tr)(T:Tr):Prop:=
 SCalls Tryz.prog f xs s fun w u=>∃a:IteA,w=.ret (.tup [.int .i64 (ixN a.2.2 T:Nat),.int .i64 0])∧u=a.1∧OpQ s K n B ns T a
theorem mkA3 {α β γ:Type}{w:SEnd}{F:α×β×γ→VV}{R:α×β×γ→Prop}{s:α}(b:β×γ)(hw:w=.ret (F (s,b)))(hR:R (s,b)):∃a:α×β×γ,w=.ret (F a)∧s=a.1∧R a:=⟨(s,b),hw,rfl,hR⟩
set_option maxHeartbeats 4000000 in
theorem OIte_S {s:St}{KK:OB}{n B:Nat}{ns:List Tr}(hO:OMem s KK n B ns){ta tb tc:Tr}(ha:ta∈ns)(hb:tb∈ns)(hc:tc∈ns)(hF:FitN ns (iteT n ta tb tc) B) :
  OpC 72 [.ptr KK.o 0,.int .i64 (ixN ns ta:Nat),.int .i64 (ixN ns tb:Nat),.int .i64 (ixN ns tc:Nat)] s KK n B ns (iteT n ta tb tc):=by
 have hN:=hO.st.ok
 have w1:=Omay_S s KK n B ns hO [ixN ns ta,ixN ns tb,ixN ns tc] (fun k hk=>by
  simp only[List.mem_cons,List.not_mem_nil,or_false]at hk
  rcases hk with rfl|rfl|rfl
  ·exact ixN_lt ha
  ·exact ixN_lt hb
  ·exact ixN_lt hc) (by simp) .full
 simp only[natsL,List.map_cons,List.map_nil]at w1
 have w2:=fun(u:St) (K1:OB) (h:OMem1 u K1 n B ns)=>Oite_S n 0 u K1 ns ta tb tc (by omega) h ha hb hc (hN.ok _ ha) (hN.ok _ hb) (hN.ok _ hc) hF
 unfold IteC at w2
 unfold OpC
 have W2:=Lib.hid w2
 clear w2 hF hN ha hb hc hO
 generalize ixN ns ta=ka at *
 generalize ixN ns tb=kb at *
 generalize ixN ns tc=kc at *
 refine G_enter Tryz.func72 rfl Tryz.ntmps72 rfl fun Q hQ hQe=>?_
 (repeat'(first|refine Ctl ?_|((with_reducible refine Kof.use hK ?_);clear hK hE K E)|(((with_reducible refine G_region fun K E hK hE=>?_))<;>(try simp(disch:=assumption) only[go_sem,seval, *]))))
 refine call_ex can107 w1 (fun a h=>?_)
 obtain⟨u1,K1⟩:=a
 obtain⟨m1,k1,e1⟩:=h
 dsimp only at m1 k1 e1 ⊢
 have w2:=W2.out u1 K1 m1
 rw[k1.o]at w2
 have HK:=Lib.hid k1
 clear w1 k1 m1
 simp only[go_sem,seval]
 (repeat'(first|refine Ctl ?_|((with_reducible refine Kof.use hK ?_);clear hK hE K E)|((with_reducible refine W_cond (fun h=>?_) (fun h=>?_))<;>(try(exfalso;assumption)))|(((with_reducible refine G_region fun K E hK hE=>?_))<;>(try simp(disch:=assumption) only[go_sem,seval, *]))))
 refine call_ex can108 w2 (fun a h=>?_)
 obtain⟨u2,K2,ns2⟩:=a
 obtain⟨m2,x2,k2,c2⟩:=h
 dsimp only at m2 x2 k2 ⊢
 have HR:Hid (OpQ s KK n B ns (iteT n ta tb tc) (u2,K2,ns2)):=Lib.hid ⟨.inr m2,x2,HK.out.trans k2⟩
 clear m2 x2 k2 w2
 simp only[go_sem,seval]
 (repeat'(first|refine Ctl ?_|((with_reducible refine Kof.use hK ?_);clear hK hE K E)))
 (refine W_ret res72 hQ ?_)
 exact⟨_,_,Wk.refl _,Fg.refl _,mkA3 (K2,ns2) rfl HR.out⟩
set_option maxHeartbeats 4000000 in
theorem OAnd_S {s:St}{KK:OB}{n B:Nat}{ns:List Tr}(hO:OMem s KK n B ns){ta tb:Tr}(ha:ta∈ns)(hb:tb∈ns)(hF:FitN ns (iteT n ta tb (.lf false)) B) :
  OpC 40 [.ptr KK.o 0,.int .i64 (ixN ns ta:Nat),.int .i64 (ixN ns tb:Nat)] s KK n B ns (iteT n ta tb (.lf false)):=by
 have h0:=hO.st.ok.lf false
 have h1:=hO.st.ok.lf true
 have w1:=OIte_S hO ha hb h0.1 hF
 simp only[h0.2,h1.2,Bool.false_eq_true,if_true,if_false]at w1
 unfold OpC at w1 ⊢
 clear hF hO h0 h1 ha hb
 generalize ixN ns ta=ka at *
 generalize ixN ns tb=kb at *
 refine G_enter Tryz.func40 rfl Tryz.ntmps40 rfl fun Q hQ hQe=>?_
 (repeat'(first|refine Ctl ?_|((with_reducible refine Kof.use hK ?_);clear hK hE K E)|(((with_reducible refine G_region fun K E hK hE=>?_))<;>(try simp(disch:=assumption) only[go_sem,seval,Int.natCast_zero,Int.natCast_one,Int.ofNat_zero, *]))))
 refine call_ex can72 w1 (fun a h=>?_)
 obtain⟨u2,K2,ns2⟩:=a
 have HR:=Lib.hid h
 clear h w1
 simp only[go_sem,seval]
 (repeat'(first|refine Ctl ?_|((with_reducible refine Kof.use hK ?_);clear hK hE K E)))
 (refine W_ret res40 hQ ?_)
 exact⟨_,_,Wk.refl _,Fg.refl _,mkA3 (K2,ns2) rfl HR.out⟩
set_option maxHeartbeats 4000000 in
theorem OOr_S {s:St}{KK:OB}{n B:Nat}{ns:List Tr}(hO:OMem s KK n B ns){ta tb:Tr}(ha:ta∈ns)(hb:tb∈ns)(hF:FitN ns (iteT n ta (.lf true) tb) B) :
  OpC 49 [.ptr KK.o 0,.int .i64 (ixN ns ta:Nat),.int .i64 (ixN ns tb:Nat)] s KK n B ns (iteT n ta (.lf true) tb):=by
 have h0:=hO.st.ok.lf false
 have h1:=hO.st.ok.lf true
 have w1:=OIte_S hO ha h1.1 hb hF
 simp only[h0.2,h1.2,Bool.false_eq_true,if_true,if_false]at w1
 unfold OpC at w1 ⊢
 clear hF hO h0 h1 ha hb
 generalize ixN ns ta=ka at *
 generalize ixN ns tb=kb at *
 refine G_enter Tryz.func49 rfl Tryz.ntmps49 rfl fun Q hQ hQe=>?_
 (repeat'(first|refine Ctl ?_|((with_reducible refine Kof.use hK ?_);clear hK hE K E)|(((with_reducible refine G_region fun K E hK hE=>?_))<;>(try simp(disch:=assumption) only[go_sem,seval,Int.natCast_zero,Int.natCast_one,Int.ofNat_zero, *]))))
 refine call_ex can72 w1 (fun a h=>?_)
 obtain⟨u2,K2,ns2⟩:=a
 have HR:=Lib.hid h
 clear h w1
 simp only[go_sem,seval]
 (repeat'(first|refine Ctl ?_|((with_reducible refine Kof.use hK ?_);clear hK hE K E)))
 (refine W_ret res49 hQ ?_)
 exact⟨_,_,Wk.refl _,Fg.refl _,mkA3 (K2,ns2) rfl HR.out⟩
set_option maxHeartbeats 4000000 in
theorem ODiff_S {s:St}{KK:OB}{n B:Nat}{ns:List Tr}(hO:OMem s KK n B ns){ta tb:Tr}(ha:ta∈ns)(hb:tb∈ns)(hF:FitN ns (iteT n tb (.lf false) ta) B) :
  OpC 51 [.ptr KK.o 0,.int .i64 (ixN ns ta:Nat),.int .i64 (ixN ns tb:Nat)] s KK n B ns (iteT n tb (.lf false) ta):=by
 have h0:=hO.st.ok.lf false
 have h1:=hO.st.ok.lf true
 have w1:=OIte_S hO hb h0.1 ha hF
 simp only[h0.2,h1.2,Bool.false_eq_true,if_true,if_false]at w1
 unfold OpC at w1 ⊢
 clear hF hO h0 h1 ha hb
 generalize ixN ns ta=ka at *
 generalize ixN ns tb=kb at *
 refine G_enter Tryz.func51 rfl Tryz.ntmps51 rfl fun Q hQ hQe=>?_
 (repeat'(first|refine Ctl ?_|((with_reducible refine Kof.use hK ?_);clear hK hE K E)|(((with_reducible refine G_region fun K E hK hE=>?_))<;>(try simp(disch:=assumption) only[go_sem,seval,Int.natCast_zero,Int.natCast_one,Int.ofNat_zero, *]))))
 refine call_ex can72 w1 (fun a h=>?_)
 obtain⟨u2,K2,ns2⟩:=a
 have HR:=Lib.hid h
 clear h w1
 simp only[go_sem,seval]
 (repeat'(first|refine Ctl ?_|((with_reducible refine Kof.use hK ?_);clear hK hE K E)))
 (refine W_ret res51 hQ ?_)
 exact⟨_,_,Wk.refl _,Fg.refl _,mkA3 (K2,ns2) rfl HR.out⟩
noncomputable def ixF (n:Nat)(ns:List Tr)(g:(Nat→Bool)→Bool):Nat:=ixN ns (treeT n g)
structure OpF (s:St) (K:OB) (n B:Nat) (ns:List Tr) (N':Nat) (g:(Nat→Bool)→Bool) (a:IteA):Prop where
 m:OMem a.1 a.2.1 n B a.2.2
 pre:∃l,a.2.2=ns++l
 mem:treeT n g∈a.2.2
 cnt:CntN a.2.2 N'
 k:OKeep s a.1 K a.2.1
def OpFC (f:FuncId)(xs:List VV)(s:St)(K:OB)(n B:Nat)(ns:List Tr)(N':Nat)(g:(Nat→Bool)→Bool):Prop:=
 SCalls Tryz.prog f xs s fun w u=>∃a:IteA,w=.ret (.tup [.int .i64 (ixF n a.2.2 g:Nat),.int .i64 0])∧u=a.1∧OpF s K n B ns N' g a
theorem OpC.toF {f:FuncId}{xs:List VV}{s:St}{K:OB}{n B N m:Nat}{ns:List Tr}{T:Tr}{g:(Nat→Bool)→Bool}(h:OpC f xs s K n B ns T)(hT:T=treeT n g)(hc:CntN ns N)(hm:SubN (treeT n g) m):OpFC f xs s K n B ns (N+m) g:=by
 subst hT
 refine SCalls.mono (h:=h) ?_
 rintro w u ⟨a,rfl,rfl,h1,h2,h3⟩
 exact⟨a,rfl,rfl,h1,h2.pre,h2.mem,hc.ext hm h2,h3⟩
theorem sub_of {ns ns':List Tr}(h:∃l,ns'=ns++l){t:Tr}(ht:t∈ns):t∈ns'∧ixN ns' t=ixN ns t:=by
 obtain⟨l,rfl⟩:=h
 exact⟨List.mem_append_left _ ht,ixN_app ht⟩
section
variable {s : St} {K : OB} {n B N m : Nat} {ns : List Tr} {f g : (Nat → Bool) → Bool}
theorem OAnd_F (hO:OMem s K n B ns)(hf:Hang n f)(hg:Hang n g)(mf:treeT n f∈ns)(mg:treeT n g∈ns)(hc:CntN ns N)(hm:SubN (treeT n fun x=>f x && g x) m)(hB:N+m≤B) :
  OpFC 40 [.ptr K.o 0,.int .i64 (ixF n ns f:Nat),.int .i64 (ixF n ns g:Nat)] s K n B ns (N+m) (fun x=>f x && g x):=by
 have hT:iteT n (treeT n f) (treeT n g) (.lf false)=treeT n fun x=>f x && g x:=by
  rw[← treeT_const (n:=n) false,iteT_tree hf hg (fun _ _ _=>rfl)]
  exact treeT_congr fun x=>by cases f x<;>rfl
 exact(OAnd_S hO mf mg (by rw[hT];exact .of hc hm hB)).toF hT hc hm
theorem OOr_F (hO:OMem s K n B ns)(hf:Hang n f)(hg:Hang n g)(mf:treeT n f∈ns)(mg:treeT n g∈ns)(hc:CntN ns N)(hm:SubN (treeT n fun x=>f x || g x) m)(hB:N+m≤B) :
  OpFC 49 [.ptr K.o 0,.int .i64 (ixF n ns f:Nat),.int .i64 (ixF n ns g:Nat)] s K n B ns (N+m) (fun x=>f x || g x):=by
 have hT:iteT n (treeT n f) (.lf true) (treeT n g)=treeT n fun x=>f x || g x:=by
  rw[← treeT_const (n:=n) true,iteT_tree hf (fun _ _ _=>rfl) hg]
  exact treeT_congr fun x=>by cases f x<;>rfl
 exact(OOr_S hO mf mg (by rw[hT];exact .of hc hm hB)).toF hT hc hm
theorem ODiff_F (hO:OMem s K n B ns)(hf:Hang n f)(hg:Hang n g)(mf:treeT n f∈ns)(mg:treeT n g∈ns)(hc:CntN ns N)(hm:SubN (treeT n fun x=>f x && !g x) m)(hB:N+m≤B) :
  OpFC 51 [.ptr K.o 0,.int .i64 (ixF n ns f:Nat),.int .i64 (ixF n ns g:Nat)] s K n B ns (N+m) (fun x=>f x && !g x):=by
 have hT:iteT n (treeT n g) (.lf false) (treeT n f)=treeT n fun x=>f x && !g x:=by
  rw[← treeT_const (n:=n) false,iteT_tree hg (fun _ _ _=>rfl) hf]
  exact treeT_congr fun x=>by cases g x<;>cases f x<;>rfl
 exact(ODiff_S hO mf mg (by rw[hT];exact .of hc hm hB)).toF hT hc hm
end
theorem OMem.mk {s u:St}{K:OB}{K':SB}{n B:Nat}{ns ns':List Tr}{T:Tr}(hO:OMem s K n B ns)(m3:SMem u K' n B ns')(x3:ExtN ns ns' T)(k3:SKeep s u K.s K'):OMem u ⟨K',K.o,K.c⟩ n B ns':=by
 have so:¬ K.s.has K.o:=by
  obtain⟨d,c,e⟩:=hO.op
  obtain⟨mk,hm⟩:=hO.st.mem
  obtain⟨ps,ht,_⟩:=hO.st.tab
  rintro(e1|e1|e1|e1)
  ·have:=hm.o;rw[← e1,e]at this;cases this
  ·have:=hm.r;rw[← e1,e]at this;cases this
  ·have:=ht.tab.o;rw[← e1,e]at this;cases this
  ·have:=ht.tab.r;rw[← e1,e]at this;cases this
 have fo:s K.o≠.free:=hO.live (.inr (.inl rfl))
 rcases hO with h|h
 ·exact .inl ⟨m3,(k3.out _ fo so).trans (h.ob.trans (by rw[k3.p])),h.c⟩
 ·obtain⟨xs,e,hx⟩:=h.ca
  exact .inr ⟨m3,(k3.out _ fo so).trans (h.ob.trans (by rw[k3.p])),⟨xs,(k3.out _ (by rw[e];simp) h.sep.1).trans e,hx.ext x3⟩⟩
theorem Nmk_F {s:St}{K:OB}{n B N m v:Nat}{ns:List Tr}{f g:(Nat→Bool)→Bool}{S:List Nat}(hO:OMem s K n B ns)(hf:DepF S f)(hg:DepF S g)(hS:∀w,w∈S→v<w∧w<n)(hv:v<n)(mf:treeT n f∈ns)(mg:treeT n g∈ns)(hc:CntN ns N)
  (hm:SubN (treeT n fun x=>if x v=true then g x else f x) m) (hB:N+m≤B) :
  OpFC 79 [.ptr K.s.p 0,.int .i64 v,.int .i64 (ixF n ns f:Nat),.int .i64 (ixF n ns g:Nat)] s K n B ns (N+m) (fun x=>if x v=true then g x else f x):=by
 have ok:∀{h:(Nat→Bool)→Bool},DepF S h→OkT n (v+1) (treeT n h):=fun {h} hd=>by
  have hk:n - (n - (v+1))=v+1:=by omega
  have h1:OkT n (v+1) (treeF n (n - (v+1)) h):=by
   have:=treeF_ok (n:=n) (k:=n - (v+1)) (g:=h) (by omega)
   rwa [hk]at this
  have h2:treeT n h=treeF n (n - (v+1)) h:=treeT_eq h1 fun x=>treeF_ev x (by omega) fun x y e=>hd x y fun w hw=>e w (by have:=hS w hw;omega) (hS w hw).2
  rw[h2];exact h1
 have hT:mkT v (treeT n f) (treeT n g)=treeT n fun x=>if x v=true then g x else f x:=by
  refine(treeT_eq (mkT_ok (Nat.zero_le v) hv (ok hf) (ok hg)) fun x=>?_).symm
  rw[mkT_ev,treeT_ev (hf.hang fun w hw=>(hS w hw).2),treeT_ev (hg.hang fun w hw=>(hS w hw).2)]
 have w:=Nmk_S hO.st mf mg (ok hf) (ok hg) hv (by rw[hT];exact .of hc hm hB)
 rw[hT]at w
 refine SCalls.mono (h:=w) ?_
 rintro w u ⟨⟨u,K',ns'⟩,rfl,rfl,h1,h2,h3⟩
 exact⟨(u,⟨K',K.o,K.c⟩,ns'),rfl,rfl,hO.mk h1 h2 h3,h2.pre,h2.mem,hc.ext hm h2,h3.toO⟩
theorem OMem.c0 {s:St}{K:OB}{n B:Nat}{ns:List Tr}(hO:OMem s K n B ns):(treeT n (fun _=>false)∈ns∧ixF n ns (fun _=>false)=0)∧(treeT n (fun _=>true)∈ns∧ixF n ns (fun _=>true)=1):=by
 unfold ixF
 rw[treeT_const,treeT_const]
 exact⟨hO.st.ok.lf false,hO.st.ok.lf true⟩
set_option maxHeartbeats 4000000 in
theorem Onew_S {s:St}{KS:SB}{n B:Nat}{ns:List Tr}(hS:SMem s KS n B ns) :
  SCalls Tryz.prog 23 [.ptr KS.p 0] s fun w u=>∃a:St×Nat,w=.ret (.tup [.ptr a.2 0,.int .i64 0])∧u=a.1∧OMem a.1 ⟨KS,a.2,a.2⟩ n B ns∧s a.2=.free∧∀z,s z≠.free→a.1 z=s z:=by
 obtain⟨mk,hm⟩:=hS.mem
 have hl:=hS.ok.len
 have w1:=Nlen_S s KS.p KS.g KS.q n B ns mk 0 hm
 have hl2:¬ ((ns.length:Nat):Int)=0:=by omega
 have HS:=Lib.hid hS
 clear hm hl hS
 generalize hlen:ns.length=l at *
 have HL:=Lib.hid hlen
 clear hlen
 refine G_enter Tryz.func23 rfl Tryz.ntmps23 rfl fun Q hQ hQe=>?_
 (repeat'(first|refine Ctl ?_|((with_reducible refine Kof.use hK ?_);clear hK hE K E)|((with_reducible refine W_cond (fun h=>?_) (fun h=>?_))<;>(try(exfalso;assumption)))|((first|(with_reducible first|refine G_region fun K E hK hE=>?_|refine call_ret can56 (w1) ?_)|((with_reducible refine W_fresh (fun b hb=>?_))))<;>(try simp(disch:=assumption) only[go_sem,seval, *]))))
 (refine W_ret res23 hQ ?_)
 have hk:∀z,s z≠.free→(s.set b (.obj 123 (opsC KS.p 0 0 (.lst [] .full)))) z=s z:=fun z hz=>St.set_other _ _ (nef hb hz).1
 exact⟨_,_,Wk.refl _,Fg.refl _,mkA b rfl ⟨.inl ⟨HS.out.keep fun z hz=>hk z (HS.out.live hz),St.set_same _ _ _,rfl⟩,hb,hk⟩⟩
set_option maxHeartbeats 4000000 in
theorem Ostore_S (s:St)(o p:Nat)(d:Int)(c:VV)(h:s o=.obj 123 (opsC p d 0 c)) :
  SRet Tryz.prog 57 [.ptr o 0] s (.ptr p 0) s:=by
 unfold opsC at h
 refine G_enter Tryz.func57 rfl Tryz.ntmps57 rfl fun Q hQ hQe=>?_
 (repeat'(first|refine Ctl ?_|((with_reducible refine Kof.use hK ?_);clear hK hE K E)|((with_reducible refine W_cond (fun h=>?_) (fun h=>?_))<;>(try(exfalso;assumption)))|(((with_reducible refine G_region fun K E hK hE=>?_))<;>(try simp(disch:=assumption) only[go_sem,seval, *]))))
 all_goals(refine W_ret res57 hQ ?_)
 all_goals(refine⟨_,_,Wk.of_eq ?_,?_,rfl,rfl⟩)
 all_goals first|rfl|(exact z_fg)
set_option maxHeartbeats 4000000 in
theorem Qnew_S (s:St)(o p:Nat)(d:Int)(c:VV)(h:s o=.obj 123 (opsC p d 0 c)) :
  SCalls Tryz.prog 24 [.ptr o 0] s fun w u=>∃q,w=.ret (.tup [.ptr q 0,.int .i64 0])∧u=s.set q (.obj 126 [.ptr o 0,.ptr p 0])∧s q=.free:=by
 have w1:=Ostore_S s o p d c h
 refine G_enter Tryz.func24 rfl Tryz.ntmps24 rfl fun Q hQ hQe=>?_
 (repeat'(first|refine Ctl ?_|((with_reducible refine Kof.use hK ?_);clear hK hE K E)|((with_reducible refine W_cond (fun h=>?_) (fun h=>?_))<;>(try(exfalso;assumption)))|((first|(with_reducible first|refine G_region fun K E hK hE=>?_|refine call_ret can57 (w1) ?_)|((with_reducible refine W_fresh (fun b hb=>?_))))<;>(try simp(disch:=assumption) only[go_sem,seval, *]))))
 all_goals(refine W_ret res24 hQ ?_)
 exact⟨_,_,Wk.refl _,Fg.refl _,b,rfl,rfl,hb⟩
set_option maxHeartbeats 4000000 in
theorem Qops_S (s:St)(q o p:Nat)(h:s q=.obj 126 [.ptr o 0,.ptr p 0]) :
  SRet Tryz.prog 39 [.ptr q 0] s (.ptr o 0) s:=by
 refine G_enter Tryz.func39 rfl Tryz.ntmps39 rfl fun Q hQ hQe=>?_
 (repeat'(first|refine Ctl ?_|((with_reducible refine Kof.use hK ?_);clear hK hE K E)|((with_reducible refine W_cond (fun h=>?_) (fun h=>?_))<;>(try(exfalso;assumption)))|(((with_reducible refine G_region fun K E hK hE=>?_))<;>(try simp(disch:=assumption) only[go_sem,seval, *]))))
 all_goals(refine W_ret res39 hQ ?_)
 all_goals(refine⟨_,_,Wk.of_eq ?_,?_,rfl,rfl⟩)
 all_goals first|rfl|(exact z_fg)
def bitsC (n w i:Nat):List VV:=(List.range w).map fun k=>.bool (decide (k<i) && n.testBit k)
def bitsL (n w:Nat):List (List VV):=(List.range w).map fun k=>[.bool (n.testBit k)]
theorem bitsC_len {n w i:Nat}:(bitsC n w i).length=w:=by simp[bitsC]
theorem bitsL_len {n w:Nat}:(bitsL n w).length=w:=by simp[bitsL]
theorem bitsL_at {n w k:Nat}(h:k<w):(bitsL n w)[k]?=some [.bool (n.testBit k)]:=by simp[bitsL,h]
theorem bitsC_new {n w:Nat}:List.replicate w (VV.bool false)=bitsC n w 0:=by
 apply List.ext_getElem
 ·simp[bitsC]
 ·intro i h1 h2
  simp[bitsC]
theorem bitsC_set {n w i:Nat}(h:i<w):splice (bitsC n w i) i [.bool (n.testBit i)]=bitsC n w (i+1):=by
 have:splice (bitsC n w i) i [VV.bool (n.testBit i)]=(bitsC n w i).set i (.bool (n.testBit i)):=by
  rw[splice,List.set_eq_take_append_cons_drop,if_pos (by rw[bitsC_len];exact h)]
  simp
 rw[this]
 apply List.ext_getElem
 ·simp[bitsC]
 ·intro j h1 h2
  simp only[bitsC,List.getElem_set,List.getElem_map,List.getElem_range]
  by_cases e:i=j
  ·subst e;simp
  ·rw[if_neg e]
   congr 2
   simp only[decide_eq_decide]
   omega
theorem bitsC_end {n w:Nat}:(bitsC n w w).map (fun y=>[y])=bitsL n w:=by
 simp only[bitsC,bitsL,List.map_map]
 apply List.map_congr_left
 intro k hk
 simp only[List.mem_range]at hk
 simp[hk]
theorem shr_zero {n w:Nat}(h:n<2 ^ w)(hw:w≤62):vint .shr .i64 (n:Int) (w:Int)=some (.int .i64 0):=by
 have hp:((2:Int) ^ w)=((2 ^ w:Nat):Int):=by simp
 have h0:(0:Int)≤(w:Int):=Int.natCast_nonneg _
 simp only[vint,if_pos h0]
 have h1:min ((w:Int).toNat) IntKind.i64.bits=w:=by simp[IntKind.bits];omega
 rw[h1,hp]
 have:((n:Int)).fdiv ((2 ^ w:Nat):Int)=0:=by
  rw[Int.fdiv_eq_ediv_of_nonneg _ (Int.natCast_nonneg _)]
  exact Int.ediv_eq_zero_of_lt (Int.natCast_nonneg _) (by omega)
 rw[this]
theorem shl_one {k:Nat}(hk:k≤62):vint .shl .i64 1 (k:Int)=some (.int .i64 ((2 ^ k:Nat):Int)):=by
 have h0:(0:Int)≤(k:Int):=Int.natCast_nonneg _
 simp only[vint,if_pos h0]
 have h1:min ((k:Int).toNat) IntKind.i64.bits=k:=by simp[IntKind.bits];omega
 have hp:((2:Int) ^ k)=((2 ^ k:Nat):Int):=by simp
 have hle:2 ^ k≤2 ^ 62:=Nat.pow_le_pow_right (by omega) hk
 rw[h1,Int.one_mul,hp]
 generalize 2 ^ k=p at *
 rw[wrap_i64 (by omega) (by omega)]
theorem and_two {n k:Nat}:n &&& 2 ^ k=if n.testBit k=true then 2 ^ k else 0:=by
 apply Nat.eq_of_testBit_eq
 intro i
 rw[Nat.testBit_and,Nat.testBit_two_pow]
 by_cases e:k=i
 ·subst e
  cases h:n.testBit k<;>simp
 ·cases h:n.testBit k<;>simp[Nat.testBit_two_pow,e]
theorem and_bit {n k:Nat}(hn:n<2 ^ 63)(hk:k≤62):∃r:Int,vint .and .i64 (n:Int) ((2 ^ k:Nat):Int)=some (.int .i64 r)∧decide (r=0)=!n.testBit k:=by
 have hle:2 ^ k≤2 ^ 62:=Nat.pow_le_pow_right (by omega) hk
 have hpos:0<2 ^ k:=Nat.two_pow_pos k
 refine⟨_,rfl,?_⟩
 have e:(BitVec.ofInt IntKind.i64.bits (n:Int) &&& BitVec.ofInt IntKind.i64.bits ((2 ^ k:Nat):Int)).toNat=n &&& 2 ^ k:=by
  rw[BitVec.toNat_and]
  simp only[IntKind.bits]
  rw[BitVec.ofInt_natCast,BitVec.ofInt_natCast,BitVec.toNat_ofNat,BitVec.toNat_ofNat,Nat.mod_eq_of_lt (by omega),Nat.mod_eq_of_lt (by omega)]
 unfold bAnd
 rw[e,and_two]
 generalize 2 ^ k=p at *
 cases n.testBit k
 ·simp;rfl
 ·simp only[if_true]
  rw[wrap_i64 (by omega) (by omega)]
  simp
  omega
attribute [-go_sem] p_and p_shl p_shr
set_option maxHeartbeats 4000000 in
theorem Bput_S (s:St)(n w:Nat)(hw:w≤62)(hn:n<2 ^ w) :
  SRet Tryz.prog 81 [.int .i64 n,.int .i64 w] s (.tup [.lst (bitsL n w) .no,.int .i64 0]) s:=by
 have hle:2 ^ w≤2 ^ 62:=Nat.pow_le_pow_right (by omega) hw
 have h1:¬ (w:Int)<0:=by omega
 have h2:¬ (w:Int) > 62:=by omega
 have h3:¬ (n:Int)<0:=by omega
 have h4:=shr_zero hn hw
 have hz:=bitsC_new (n:=n) (w:=w)
 have hE:=bitsC_end (n:=n) (w:=w)
 have hn63:n<2 ^ 63:=by omega
 have HN:=Lib.hid hn63
 clear hn hle hn63
 refine G_enter Tryz.func81 rfl Tryz.ntmps81 rfl fun Q hQ hQe=>?_
 (repeat'(first|refine Ctl ?_|((with_reducible refine Kof.use hK ?_);clear hK hE K E)|((with_reducible refine W_cond (fun h=>?_) (fun h=>?_))<;>(try(exfalso;assumption)))|((first|(with_reducible first|refine G_region fun K E hK hE=>?_|refine W_and ?_)|((with_reducible refine W_fresh (fun b hb=>?_))))<;>(try simp(disch:=assumption) only[go_sem,seval,h4,hz, *]))))
 refine G_loop (fun m env s'=>∃(i:Nat),i≤w∧m+i=w∧s'=s.set b (.obj 4 (bitsC n w i))∧env 0=.int .i64 n∧env 6=.msl b w∧env 26=.int .i64 w∧env 27=.int .i64 i) w ?_ ?_
 ·exact⟨_,Fg.refl _,0,by omega,by omega,rfl,z_sl,z_sl,z_sl,z_sl⟩
 ·rintro m env s' ⟨i,hi,hm,rfl,e0,e6,e26,e27⟩
  by_cases h5:i<w
  ·have a1:=shl_one (k:=i) (by omega)
   obtain⟨r,a2,a3⟩:=and_bit (k:=i) HN.out (by omega)
   have a4:=bitsC_set (n:=n) h5
   have a5:(bitsC n w i).length=w:=bitsC_len
   generalize ((2 ^ i:Nat):Int)=P at *
   generalize n.testBit i=tb at *
   generalize hX:bitsC n w i=X at *
   generalize hY:bitsC n w (i+1)=Y at *
   have HY:=Lib.hid hY
   clear hX hY hE hz
   (repeat'(first|refine Ctl ?_|((with_reducible refine Kof.use hK ?_);clear hK hE K E)|((with_reducible refine W_cond (fun h=>?_) (fun h=>?_))<;>(try(exfalso;assumption)))|(((with_reducible first|refine G_region fun K E hK hE=>?_|refine W_ifS ?_))<;>(try simp(disch:=omega) only[go_sem,seval,a1,a2,a3,a4,a5,Bool.not_not, *]))))
   all_goals exact⟨_,Fg.refl _,m - 1,by omega,i+1,by omega,by omega,by rw[HY.out],z_sl,z_sl,z_sl,z_sl⟩
  ·obtain rfl:i=w:=by omega
   (repeat'(first|(with_reducible refine Kp_atQ 9 ?_)|refine Ctl ?_|((with_reducible refine Kof.use hK ?_);clear hK hE K E)|((with_reducible refine W_cond (fun h=>?_) (fun h=>?_))<;>(try(exfalso;assumption)))|(((with_reducible refine G_region fun K E hK hE=>?_))<;>(try simp(disch:=assumption) only[go_sem,seval,h4,hz, *]))))
   unfold StopQ
   refine Kp_frz 6 b i (St.set_same _ _ _) (z_sl) bitsC_len ?_
   rw[hE,St.set_set,St.set_self _ _ _ hb]
   (repeat'(first|refine Ctl ?_|((with_reducible refine Kof.use hK ?_);clear hK hE K E)|(((with_reducible refine G_region fun K E hK hE=>?_))<;>(try simp(disch:=assumption) only[go_sem,seval, *]))))
   (refine W_ret res81 hQ ?_)
   (refine⟨_,_,Wk.of_eq ?_,?_,rfl,rfl⟩)
   all_goals first|rfl|(exact z_fg)
end Go.Proofs.YtohnaepcgnbaiaaGreatDoor
namespace Go.Proofs.YtohnaepcgnbaiaaGreatDoor
open Go.RowKit
def domsC (ds:List (List UInt8×Nat)):List (List VV):=ds.map fun d=>[.str d.1,.int .i64 (d.2:Int)]
def atC (at_:List (List Nat)):List (List VV):=at_.map fun l=>[.lst (natsL l) .no]
theorem atC_at {at_:List (List Nat)}{d:Nat}{l:List Nat}(h:at_[d]?=some l):(atC at_)[d]?=some [.lst (natsL l) .no]:=by simp[atC,h]
theorem domsC_at {ds:List (List UInt8×Nat)}{d:Nat}{x:List UInt8×Nat}(h:ds[d]?=some x):(domsC ds)[d]?=some [.str x.1,.int .i64 (x.2:Int)]:=by simp[domsC,h]
theorem domsC_len {ds:List (List UInt8×Nat)}:(domsC ds).length=ds.length:=by simp[domsC]
structure CMem (s:St) (K:OB) (q c n B:Nat) (ns:List Tr) (ds:List (List UInt8×Nat)) (at_:List (List Nat)):Prop where
 om:OMem s K n B ns
 qo:s q=.obj 126 [.ptr K.o 0,.ptr K.s.p 0]
 co:s c=.obj 132 [.ptr q 0,.lst (domsC ds) .no,.lst (atC at_) .no]
theorem OMem.types {s:St}{K:OB}{n B:Nat}{ns:List Tr}(h:OMem s K n B ns){z:Nat}{T:TypeId}{xs:List VV}(hz:s z=.obj T xs)(h1:T≠107)(h2:T≠161)(h3:T≠123):¬ K.has z:=by
 obtain⟨mk,hm⟩:=h.st.mem
 obtain⟨ps,ht,_⟩:=h.st.tab
 obtain⟨d,c,ho⟩:=h.op
 rintro((e|e|e|e)|e|e)
 ·have:=hm.o;rw[← e,hz]at this;injection this with a;exact h1 a
 ·have:=hm.r;rw[← e,hz]at this;cases this
 ·have:=ht.tab.o;rw[← e,hz]at this;injection this with a;exact h2 a
 ·have:=ht.tab.r;rw[← e,hz]at this;cases this
 ·rw[← e,hz]at ho;injection ho with a;exact h3 a
 ·rcases h with h|h
  ·rw[h.c]at e;have:=h.ob;rw[← e,hz]at this;injection this with a;exact h3 a
  ·obtain⟨xs,he,_⟩:=h.ca;rw[← e,hz]at he;cases he
theorem CMem.nq {s:St}{K:OB}{q c n B:Nat}{ns:List Tr}{ds:List (List UInt8×Nat)}{at_:List (List Nat)}(h:CMem s K q c n B ns ds at_):¬ K.has q∧¬ K.has c∧s q≠.free∧s c≠.free:=
 ⟨h.om.types h.qo (by decide) (by decide) (by decide),h.om.types h.co (by decide) (by decide) (by decide),by rw[h.qo];simp,by rw[h.co];simp⟩
theorem CMem.keep {s u:St}{K K':OB}{q c n B:Nat}{ns ns':List Tr}{ds:List (List UInt8×Nat)}{at_:List (List Nat)}(h:CMem s K q c n B ns ds at_)(hm:OMem u K' n B ns')(hk:OKeep s u K K'):CMem u K' q c n B ns' ds at_:=by
 obtain⟨a,b,d,e⟩:=h.nq
 exact⟨hm,by rw[hk.out _ d a,h.qo,hk.o,hk.p],by rw[hk.out _ e b,h.co]⟩
set_option maxHeartbeats 4000000 in
theorem Clit_S {s:St}{K:OB}{q c n B v:Nat}{ns:List Tr}{ds:List (List UInt8×Nat)}{at_:List (List Nat)}(hC:CMem s K q c n B ns ds at_)(hv:v<n)(b:Bool){N:Nat}(hc:CntN ns N)(hB:N+1≤B) :
  OpFC 89 [.ptr c 0,.int .i64 v,.bool b] s K n B ns (N+1) (fun x=>x v == b):=by
 obtain⟨d,cc,ho⟩:=hC.om.op
 have w1:=Qops_S s q K.o K.s.p hC.qo
 have w2:=Ostore_S s K.o K.s.p d cc ho
 have c0:=hC.om.c0
 have hs1:∀g:(Nat→Bool)→Bool,DepF [v] g→SubN (treeT n g) 1:=fun g hg=>subN_tree (k:=1) (by simpa using hv) hg (by simp)
 have hco:=hC.co
 have hX:OpFC 79 [.ptr K.s.p 0,.int .i64 v,.int .i64 (if b then 0 else 1),.int .i64 (if b then 1 else 0)] s K n B ns (N+1) (fun x=>x v == b):=by
  have w:=Nmk_F (S:=[]) (v:=v) hC.om (f:=fun _=>!b) (g:=fun _=>b) (fun _ _ _=>rfl) (fun _ _ _=>rfl) (by simp) hv (by cases b;exact c0.2.1;exact c0.1.1) (by cases b;exact c0.1.1;exact c0.2.1) hc (hs1 _ fun x y e=>by simp only[e v (by simp)]) hB
  have e1:(fun x:Nat→Bool=>if x v=true then b else !b)=fun x=>x v == b:=by
   funext x
   cases x v<;>cases b<;>rfl
  rw[e1]at w
  cases b
  ·simp only[Bool.not_false]at w
   rw[c0.1.2,c0.2.2]at w
   exact w
  ·simp only[Bool.not_true]at w
   rw[c0.1.2,c0.2.2]at w
   exact w
 unfold OpFC at hX ⊢
 unfold opsC at ho
 clear c0 hs1 hC hv hc hB
 cases b
 all_goals
  simp only[Bool.false_eq_true,if_true,if_false]at hX
  refine G_enter Tryz.func89 rfl Tryz.ntmps89 rfl fun Q hQ hQe=>?_
  (repeat'(first|refine Ctl ?_|((with_reducible refine Kof.use hK ?_);clear hK hE K E)|((with_reducible refine W_cond (fun h=>?_) (fun h=>?_))<;>(try(exfalso;assumption)))|(((with_reducible first|refine G_region fun K E hK hE=>?_|refine call_ret can39 (w1) ?_|refine call_ret can57 (w2) ?_))<;>(try simp(disch:=assumption) only[go_sem,seval, *]))))
  refine call_ex can79 hX (fun a h=>?_)
  obtain⟨u2,K2,ns2⟩:=a
  have HR:=Lib.hid h
  clear h hX
  simp only[go_sem,seval]
  (repeat'(first|refine Ctl ?_|((with_reducible refine Kof.use hK ?_);clear hK hE K E)))
  (refine W_ret res89 hQ ?_)
  exact⟨_,_,Wk.refl _,Fg.refl _,mkA3 (K2,ns2) rfl HR.out⟩
end Go.Proofs.YtohnaepcgnbaiaaGreatDoor
