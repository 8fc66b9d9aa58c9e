/- Walks of functions that the claim reaches, and plain facts of them. Conditions: those in the statements. -/
import Derived.Test.YtndlnadbnganeaaGreatDoorJnIuj
set_option linter.unusedSimpArgs false
set_option linter.unusedVariables false
set_option maxRecDepth 100000
namespace Go.Proofs.YtndlnadbnganeaaGreatDoor
open Go.RowKit
structure FG where
 f:FuncId
 caps:List VV
 g:(Nat→Bool)→Bool
def fgC (L:List FG):List (List VV):=L.map fun e=>[.fn e.f e.caps]
theorem fgC_len {L:List FG}:(fgC L).length=L.length:=by simp[fgC]
theorem fgC_at {L:List FG}{i:Nat}{e:FG}(h:L[i]?=some e):(fgC L)[i]?=some [.fn e.f e.caps]:=by simp[fgC,h]
def FGok (s:St)(Z:Nat→Prop)(q c n B m:Nat)(ds:List (List UInt8×Nat))(at_:List (List Nat))(S:List Nat)(e:FG):Prop:=
 Callable Tryz.prog e.f∧DepF S e.g∧∀(s':St) (K':OB) (ns':List Tr) (N':Nat),CMem s' K' q c n B ns' ds at_→(∀z,Z z→s' z=s z)→CntN ns' N'→N'+m≤B→OpFC e.f e.caps s' K' n B ns' (N'+m) e.g
structure AlI (s:St) (K:OB) (Z:Nat→Prop) (q c n B m k:Nat) (ns:List Tr) (ds:List (List UInt8×Nat)) (at_:List (List Nat)) (S:List Nat) (L:List FG) (N i:Nat) (s':St) (K':OB) (ns':List Tr) (g:(Nat→Bool)→Bool):Prop where
 cm:CMem s' K' q c n B ns' ds at_
 kp:OKeep s s' K K'
 pre:∃l,ns'=ns++l
 mem:treeT n g∈ns'
 cnt:CntN ns' (N+i * (m+2 ^ k))
 dep:DepF S g
 fin:g=fun x=>(L.take i).all fun e=>e.g x
theorem AlI.next {s:St}{K:OB}{Z:Nat→Prop}{q c n B m k:Nat}{ns:List Tr}{ds:List (List UInt8×Nat)}{at_:List (List Nat)}{S:List Nat}{L:List FG}{N i:Nat}{s':St}{K':OB}{ns':List Tr}{g:(Nat→Bool)→Bool}{u1 u2:St}{K1 K2:OB}{ns1 ns2:List Tr}{e:FG}
  (I:AlI s K Z q c n B m k ns ds at_ S L N i s' K' ns' g) (he:L[i]?=some e) (h1:OpF s' K' n B ns' (N+i * (m+2 ^ k)+m) e.g (u1,K1,ns1)) (h2:OpF u1 K1 n B ns1 (N+i * (m+2 ^ k)+m+(2 ^ k - 1)) (fun x=>g x && e.g x) (u2,K2,ns2)) (hd:DepF S e.g) :
  AlI s K Z q c n B m k ns ds at_ S L N (i+1) u2 K2 ns2 (fun x=>g x && e.g x):=by
 have hpw:0<2 ^ k:=Nat.two_pow_pos k
 refine⟨(I.cm.keep h1.m h1.k).keep h2.m h2.k,I.kp.trans (h1.k.trans h2.k),pre_trans I.pre (pre_trans h1.pre h2.pre),h2.mem,h2.cnt.mono ?_,I.dep.and hd,?_⟩
 ·rw[Nat.add_mul,Nat.one_mul]
  omega
 ·funext x
  rw[I.fin,List.take_add_one,he]
  simp
set_option maxHeartbeats 8000000 in
theorem Call_S {s:St}{KK:OB}{Z:Nat→Prop}{q c n B m k N:Nat}{ns:List Tr}{ds:List (List UInt8×Nat)}{at_:List (List Nat)}{S:List Nat}{L:List FG}(ow:Own)(hC:CMem s KK q c n B ns ds at_)(hS:∀v,v∈S→v<n)(hk:S.length≤k)(hL:∀e,e∈L→FGok s Z q c n B m ds at_ S e)(hZ:∀z,Z z→s z≠.free∧¬ KK.has z)(hc:CntN ns N)(hl:L.length≤1000)(hB:N+L.length * (m+2 ^ k)≤B) :
  OpFC 40 [.ptr c 0,.lst (fgC L) ow] s KK n B ns (N+L.length * (m+2 ^ k)) (fun x=>L.all fun e=>e.g x):=by
 have c0:=hC.om.c0.2
 have I0:AlI s KK Z q c n B m k ns ds at_ S L N 0 s KK ns (fun _=>true):=⟨hC,.refl _ _,⟨[],by simp⟩,c0.1,by simpa using hc,fun _ _ _=>rfl,by simp⟩
 have e8:=c0.2
 have hln:(fgC L).length=L.length:=fgC_len
 have hat:=fun(i:Nat) (e:FG) (h:L[i]?=some e)=>fgC_at h
 have hco:=hC.co
 have HI:=Lib.hid I0
 have HB:=Lib.hid hB
 have HS:=Lib.hid hS
 have HK:=Lib.hid hk
 have HL:=Lib.hid hL
 have HZ:=Lib.hid hZ
 have HA:=Lib.hid hat
 unfold OpFC
 clear I0 hC hS hk hL hZ hc hB c0 hat
 generalize fgC L=V at *
 generalize hAA:atC at_=A at *
 have HAA:=Lib.hid hAA
 clear hAA
 refine G_enter Tryz.func40 rfl Tryz.ntmps40 rfl fun Q hQ hQe=>?_
 (repeat'(first|refine Ctl ?_|((with_reducible refine Kof.use hK ?_);clear hK hE K E)|(((with_reducible refine G_region fun K E hK hE=>?_))<;>(try simp(disch:=assumption) only[go_sem,seval,hln, *]))))
 refine G_loop (fun r env s'=>∃(i:Nat) (K':OB) (ns':List Tr) (g:(Nat→Bool)→Bool),i≤L.length∧r+i=L.length∧Hid (AlI s KK Z q c n B m k ns ds at_ S L N i s' K' ns' g)∧s' c=.obj 63 [.ptr q 0,.lst (domsC ds) .no,.lst A .no]∧env 0=.ptr c 0∧env 6=.int .i64 (ixF n ns' g:Nat)∧env 11=.lst V ow∧env 12=.int .i64 L.length∧env 13=.int .i64 i) L.length ?_ ?_
 ·exact⟨_,Fg.refl _,0,KK,ns,fun _=>true,by omega,by omega,HI,hco,z_sl,by(rw[e8];((try simp(disch:=assumption) only[go_sem,seval, *])<;>rfl)),z_sl,z_sl,z_sl⟩
 ·rintro r env s' ⟨i,K',ns',g,hi,hm,II,hcs,e0,e6,e11,e12,e13⟩
  have I:=II.out
  by_cases h5:i<L.length
  ·have hx:=List.getElem?_eq_getElem h5
   generalize L[i]=e at hx
   obtain⟨hcan,hdp,hct⟩:=HL.out e (List.mem_of_getElem? hx)
   have hpw:0<2 ^ k:=Nat.two_pow_pos k
   have hroom:N+i * (m+2 ^ k)+m+2 ^ k≤B:=by
    have h1:i * (m+2 ^ k)+(m+2 ^ k)=(i+1) * (m+2 ^ k):=by rw[Nat.add_mul,Nat.one_mul]
    have h2:(i+1) * (m+2 ^ k)≤L.length * (m+2 ^ k):=Nat.mul_le_mul_right _ h5
    have:=HB.out
    omega
   have wl:=hct s' K' ns' _ I.cm (fun z hz=>I.kp.out z (HZ.out z hz).1 (HZ.out z hz).2) I.cnt (by omega)
   have hx2:=HA.out i e hx
   have HX:=Lib.hid hx
   have HR:=Lib.hid hroom
   have HPW:=Lib.hid hpw
   have HDP:=Lib.hid hdp
   unfold OpFC at wl
   clear I hx hpw hroom hct hdp
   (repeat'(first|refine Ctl ?_|((with_reducible refine Kof.use hK ?_);clear hK hE K E)|((with_reducible refine W_cond (fun h=>?_) (fun h=>?_))<;>(try(exfalso;assumption)))|(((with_reducible refine G_region fun K E hK hE=>?_))<;>(try simp(disch:=assumption) only[go_sem,seval,hx2, *]))))
   refine call_ex hcan wl (fun a h=>?_)
   obtain⟨u1,K1,ns1⟩:=a
   have I:=II.out
   have hm1:=I.cm.keep h.m h.k
   have mg:=sub_of h.pre I.mem
   dsimp only at h mg hm1 ⊢
   have wq:=Qops_S u1 q K1.o K1.s.p hm1.qo
   have hcs1:=hm1.co
   rw[HAA.out]at hcs1
   have hdep:=I.dep.and HDP.out
   have wo:=OAnd_F hm1.om (I.dep.hang HS.out) (HDP.out.hang HS.out) mg.1 h.mem h.cnt (subN_tree HS.out hdep HK.out) (by have:=HR.out;have:=HPW.out;omega)
   have e8':ixF n ns1 g=ixF n ns' g:=mg.2
   rw[e8']at wo
   have HN1:=Lib.hid fun u2 K2 ns2 h2=>AlI.next (u2:=u2) (K2:=K2) (ns2:=ns2) I HX.out h h2 HDP.out
   unfold OpFC at wo
   clear hdep e8' hm1 mg I h wl
   simp only[go_sem,seval]
   (repeat'(first|refine Ctl ?_|((with_reducible refine Kof.use hK ?_);clear hK hE K E)|((with_reducible refine W_cond (fun h=>?_) (fun h=>?_))<;>(try(exfalso;assumption)))|(((with_reducible first|refine G_region fun K E hK hE=>?_|refine call_ret can18 (wq) ?_))<;>(try simp(disch:=assumption) only[go_sem,seval, *]))))
   refine call_ex can23 wo (fun a h=>?_)
   obtain⟨u2,K2,ns2⟩:=a
   have h3:=HN1.out u2 K2 ns2 h
   have h4:=h3.cm.co
   rw[HAA.out]at h4
   have H3:=Lib.hid h3
   clear h h3 wo
   dsimp only
   simp only[go_sem,seval]
   (repeat'(first|refine Ctl ?_|((with_reducible refine Kof.use hK ?_);clear hK hE K E)|((with_reducible refine W_cond (fun h=>?_) (fun h=>?_))<;>(try(exfalso;assumption)))|(((with_reducible refine G_region fun K E hK hE=>?_))<;>(try simp(disch:=omega) only[go_sem,seval, *]))))
   exact⟨_,Fg.refl _,r - 1,by omega,i+1,K2,ns2,_,by omega,by omega,H3,h4,z_sl,z_sl,z_sl,z_sl,z_sl⟩
  ·have hie:i=L.length:=by omega
   have hg:=I.fin
   rw[List.take_of_length_le (by omega)]at hg
   have hcn:=I.cnt
   rw[hie]at hcn
   have HR:Hid (OpF s KK n B ns (N+L.length * (m+2 ^ k)) (fun x=>L.all fun e=>e.g x) (s',K',ns')):=Lib.hid ⟨I.cm.om,I.pre,hg ▸ I.mem,hcn,I.kp⟩
   rw[hg]at e6
   clear I hg hcn
   (repeat'(first|refine Ctl ?_|((with_reducible refine Kof.use hK ?_);clear hK hE K E)|((with_reducible refine W_cond (fun h=>?_) (fun h=>?_))<;>(try(exfalso;omega)))|(((with_reducible refine G_region fun K E hK hE=>?_))<;>(try simp(disch:=assumption) only[go_sem,seval, *]))))
   (refine W_ret res40 hQ ?_)
   exact⟨_,_,Wk.refl _,Fg.refl _,mkA3 (K',ns') rfl HR.out⟩
theorem OpFC.mono {f:FuncId}{xs:List VV}{s:St}{K:OB}{n B N1 N2:Nat}{ns:List Tr}{g:(Nat→Bool)→Bool}(h:OpFC f xs s K n B ns N1 g)(hN:N1≤N2):OpFC f xs s K n B ns N2 g:=by
 refine SCalls.mono (h:=h) ?_
 rintro w u ⟨a,rfl,rfl,h1,h2,h3,h4,h5⟩
 exact⟨a,rfl,rfl,h1,h2,h3,h4.mono hN,h5⟩
set_option maxHeartbeats 8000000 in
theorem Ceq1_S {s:St}{KK:OB}{q c n B d N b3 b4:Nat}{nm:List UInt8}{sz:Nat}{vs:List Nat}{ns:List Tr}{ds:List (List UInt8×Nat)}{at_:List (List Nat)}(hC:CMem s KK q c n B ns ds at_)(hD:DOk n ds at_)(hds:ds[d]?=some (nm,sz))(hd:at_[d]?=some vs)(h3:s b3=.obj 23 [.ptr c 0])(h4:s b4=.obj 3 [.int .i64 d])(hc:CntN ns N)(hB:N+(2 * vs.length+1) * 2 ^ vs.length≤B) :
  OpFC 36 [.ptr b3 0,.ptr b4 0] s KK n B ns (N+(2 * vs.length+1) * 2 ^ vs.length) (btwF vs 0 (sz - 1)):=by
 obtain⟨w1,w2,w3,w4⟩:=hD.w d _ _ hds hd
 dsimp only at w1 w2 w3
 have wb:=Cbtw_S (lo:=0) (hi:=sz - 1) hC hd (hD.lt _ (List.mem_of_getElem? hd)) (by omega) (by omega) (by omega) hc hB
 have hco:=hC.co
 have hdc:=domsC_at hds
 have hsub:IntKind.i64.wrap ((sz:Int) - 1)=((sz - 1:Nat):Int):=by
  rw[wrap_i64 (by omega) (by omega)]
  omega
 unfold OpFC at wb ⊢
 clear hC hD hds hd hc hB w1 w2 w3 w4
 dsimp only at hdc
 generalize ((sz - 1:Nat):Int)=z1 at *
 generalize domsC ds=D at *
 generalize atC at_=A at *
 have hd0:(0:Int)≤d:=Int.natCast_nonneg _
 refine G_enter Tryz.func36 rfl Tryz.ntmps36 rfl fun Q hQ hQe=>?_
 (repeat'(first|refine Ctl ?_|(with_reducible first|(refine Kof.use hK ?_;clear hK hE K E)|(refine Kof.use hKh ?_;clear hKh Kh)|refine G_plan 1 [([0,1,2,3,4,5,6,7,8,9,10],11,[[]])] [12,13,14,15] hQe fun K E hK hE=>?_)|(((with_reducible first|refine G_region fun K E hK hE=>?_|refine P_heads fun Kh hKh=>?_|refine P_each fun Kb hKb=>?_))<;>(try simp(disch:=assumption) only[go_sem,seval,hdc,hsub, *]))))
 refine call_ex can31 wb (fun a h=>?_)
 obtain⟨u1,K1,ns1⟩:=a
 have HR:=Lib.hid h
 clear h wb
 simp only[go_sem,seval]
 (repeat'(first|refine Ctl ?_|(with_reducible first|(refine Kof.use hK ?_;clear hK hE K E)|(refine Kof.use hKh ?_;clear hKh Kh)|(refine Kof.use hKb (P_next ?_);clear hKb Kb))|(((with_reducible refine P_fin fun Kh hKh=>?_))<;>(try simp(disch:=assumption) only[go_sem,seval, *]))))
 (refine W_ret res36 hQ ?_)
 exact⟨_,_,Wk.refl _,Fg.refl _,mkA3 (K1,ns1) rfl HR.out⟩
def xnF (v w:Nat)(x:Nat→Bool):Bool:=(x v == true) ^^ (x w == false)
theorem xnF_dep {S:List Nat}{v w:Nat}(hv:v∈S)(hw:w∈S):DepF S (xnF v w):=fun x y e=>by simp only[xnF,e v hv,e w hw]
set_option maxHeartbeats 8000000 in
theorem Ceq2_S {s:St}{KK:OB}{q c n B d d2 N b3 b4 b10 b5 b8 j v w:Nat}{vs us:List Nat}{ns:List Tr}{ds:List (List UInt8×Nat)}{at_:List (List Nat)}(hC:CMem s KK q c n B ns ds at_)(hd:at_[d]?=some vs)(hd2:at_[d2]?=some us)(hv:vs[j]?=some v)(hw:us[j]?=some w)(hvn:v<n)(hwn:w<n)
  (h3:s b3=.obj 23 [.ptr c 0]) (h4:s b4=.obj 3 [.int .i64 d]) (h10:s b10=.obj 3 [.int .i64 j]) (h5:s b5=.obj 3 [.int .i64 d2]) (h8:s b8=.obj 43 [.ptr KK.o 0]) (hc:CntN ns N) (hB:N+8≤B) :
  OpFC 37 [.ptr b3 0,.ptr b4 0,.ptr b10 0,.ptr b5 0,.ptr b8 0] s KK n B ns (N+8) (xnF v w):=by
 have wl:=Clit_S hC hvn true hc (by omega)
 have hat:=atC_at hd
 have hat2:=atC_at hd2
 have hx:=natsL_at hv
 have hx2:=natsL_at hw
 have hco:=hC.co
 have hll:∀z,s z≠.free→¬ KK.has z→∀u K1,OKeep s u KK K1→u z=s z:=fun z h1 h2 u K1 h=>h.out z h1 h2
 have n3:¬ KK.has b3:=hC.om.types h3 (by decide) (by decide) (by decide)
 have n4:¬ KK.has b4:=hC.om.types h4 (by decide) (by decide) (by decide)
 have n10:¬ KK.has b10:=hC.om.types h10 (by decide) (by decide) (by decide)
 have n5:¬ KK.has b5:=hC.om.types h5 (by decide) (by decide) (by decide)
 have n8:¬ KK.has b8:=hC.om.types h8 (by decide) (by decide) (by decide)
 have HL:Hid (∀u K1,OKeep s u KK K1→u b3=.obj 23 [.ptr c 0]∧u b4=.obj 3 [.int .i64 d]∧u b10=.obj 3 [.int .i64 j]∧u b5=.obj 3 [.int .i64 d2]∧u b8=.obj 43 [.ptr KK.o 0]):=Lib.hid fun u K1 h=>
  ⟨(h.out _ (by rw[h3];simp) n3).trans h3,(h.out _ (by rw[h4];simp) n4).trans h4,(h.out _ (by rw[h10];simp) n10).trans h10,(h.out _ (by rw[h5];simp) n5).trans h5,(h.out _ (by rw[h8];simp) n8).trans h8⟩
 have HC:=Lib.hid hC
 have HB:=Lib.hid hB
 have HV:=Lib.hid (And.intro hvn hwn)
 unfold OpFC at wl ⊢
 clear hC hd hd2 hv hw hvn hwn hc hB hll n3 n4 n10 n5 n8
 generalize natsL vs=V at *
 generalize natsL us=U at *
 generalize domsC ds=D at *
 generalize hAA:atC at_=A at *
 have HAA:=Lib.hid hAA
 clear hAA
 have hd0:(0:Int)≤d:=Int.natCast_nonneg _
 have hd1:(0:Int)≤d2:=Int.natCast_nonneg _
 have hj0:(0:Int)≤j:=Int.natCast_nonneg _
 refine G_enter Tryz.func37 rfl Tryz.ntmps37 rfl fun Q hQ hQe=>?_
 (repeat'(first|refine Ctl ?_|(with_reducible first|(refine Kof.use hK ?_;clear hK hE K E)|(refine Kof.use hKh ?_;clear hKh Kh)|refine G_plan 1 [([0,1,2,3,4,5,6,7,8,9,10],11,[[]])] [12,13,14,15,16] hQe fun K E hK hE=>?_)|(((with_reducible first|refine G_region fun K E hK hE=>?_|refine P_heads fun Kh hKh=>?_|refine P_each fun Kb hKb=>?_))<;>(try simp(disch:=assumption) only[go_sem,seval,hat,hx, *]))))
 refine call_ex can38 wl (fun a h=>?_)
 obtain⟨u1,K1,ns1⟩:=a
 have hm1:=HC.out.keep h.m h.k
 obtain⟨g3,g4,g10,g5,g8⟩:=HL.out u1 K1 h.k
 dsimp only at h hm1 ⊢
 have hcs1:=hm1.co
 rw[HAA.out]at hcs1
 have wl2:=Clit_S hm1 HV.out.2 false h.cnt (by have:=HB.out;omega)
 have H1:=Lib.hid (And.intro h hm1)
 unfold OpFC at wl2
 clear h hm1 wl
 simp only[go_sem,seval]
 (repeat'(first|refine Ctl ?_|(with_reducible first|(refine Kof.use hK ?_;clear hK hE K E)|(refine Kof.use hKh ?_;clear hKh Kh)|(refine Kof.use hKb (P_next ?_);clear hKb Kb)|refine G_plan 4 [([0,1,2,3,4,5,6,7,8,9,10],11,[[]])] [12,13,14,15,16] hQe fun K E hK hE=>?_)|((with_reducible refine W_cond (fun h=>?_) (fun h=>?_))<;>(try(exfalso;assumption)))|(((with_reducible first|refine G_region fun K E hK hE=>?_|refine P_heads fun Kh hKh=>?_|refine P_fin fun Kh hKh=>?_|refine P_each fun Kb hKb=>?_))<;>(try simp(disch:=assumption) only[go_sem,seval,hat2,hx2, *]))))
 refine call_ex can38 wl2 (fun a h2=>?_)
 obtain⟨u2,K2,ns2⟩:=a
 obtain⟨h,hm1⟩:=H1.out
 have hm2:=hm1.keep h2.m h2.k
 obtain⟨e3,e4,e10,e5,e8⟩:=HL.out u2 K2 (h.k.trans h2.k)
 have mg:=sub_of h2.pre h.mem
 dsimp only at h2 hm2 mg ⊢
 have S2:∀z,z∈[v,w]→z<n:=by
  intro z hz
  simp only[List.mem_cons,List.not_mem_nil,or_false]at hz
  rcases hz with rfl|rfl
  ·exact HV.out.1
  ·exact HV.out.2
 have d1:DepF [v,w] fun x=>x v == true:=.lit (by simp) true
 have d2:DepF [v,w] fun x=>x w == false:=.lit (by simp) false
 have wx:=OXor_F hm2.om (d1.hang S2) (d2.hang S2) mg.1 h2.mem h2.cnt (subN_tree S2 d2.not (k:=2) (by simp)) (subN_tree S2 (d1.xor d2) (k:=2) (by simp)) (by have:=HB.out;omega)
 have e1:(ixF n ns2 fun x=>x v == true)=ixF n ns1 fun x=>x v == true:=mg.2
 rw[e1,h2.k.o,h.k.o]at wx
 have HN:Hid (∀a,OpF u2 K2 n B ns2 (N+1+1+(2 ^ 2 - 1)+(2 ^ 2 - 1)) (fun x=>(x v == true) ^^ (x w == false)) a→OpF s KK n B ns (N+8) (xnF v w) a):=Lib.hid fun a h3=>by
  obtain⟨a1,a2,a3,a4,a5⟩:=OpF.trans h3 (h.k.trans h2.k) (pre_trans h.pre h2.pre)
  exact⟨a1,a2,a3,a4.mono (by omega),a5⟩
 unfold OpFC at wx
 clear h hm1 h2 hm2 mg d1 d2 e1 S2 wl2 g3 g4 g10 g5 g8
 simp only[go_sem,seval]
 (repeat'(first|refine Ctl ?_|(with_reducible first|(refine Kof.use hK ?_;clear hK hE K E)|(refine Kof.use hKh ?_;clear hKh Kh)|(refine Kof.use hKb (P_next ?_);clear hKb Kb))|((with_reducible refine W_cond (fun h=>?_) (fun h=>?_))<;>(try(exfalso;assumption)))|(((with_reducible first|refine G_region fun K E hK hE=>?_|refine P_fin fun Kh hKh=>?_))<;>(try simp(disch:=assumption) only[go_sem,seval, *]))))
 refine call_ex can39 wx (fun a h=>?_)
 obtain⟨u3,K3,ns3⟩:=a
 have h3:=Lib.hid (HN.out _ h)
 clear h wx
 simp only[go_sem,seval]
 (repeat'(first|refine Ctl ?_|((with_reducible refine Kof.use hK ?_);clear hK hE K E)))
 (refine W_ret res37 hQ ?_)
 exact⟨_,_,Wk.refl _,Fg.refl _,mkA3 (K3,ns3) rfl h3.out⟩
theorem W_appL {k:VV→St→Prop}{e:TypeId}{q:QI}{xs ys:List (List VV)}{s:St}(h:∀b,s b=.free→k (.lst (xs++ys) (.at_ b)) (s.set b (.vec e q.sz (xs.length+ys.length))))
  (h0:ys≠[]:=by first|assumption|simp)
  (hx:∀x,x∈xs→x.length=q.sz:=by first|assumption|(intro y hy;simp only[List.mem_singleton]at hy;subst hy;first|rfl|(simp only[go_sem];done)|(simp;done)))
  (hb:(xs.length+ys.length) * q.bt≤140737488355328:=by first|((try simp only[go_sem, *]);omega)|((try simp only[go_sem,List.length_cons,List.length_nil, *]);omega)|simp only[go_sem,List.length_cons,List.length_nil, *])
  (hm:xs.length+ys.length≤9223372036854775807:=by first|((try simp only[go_sem, *]);omega)|((try simp only[go_sem,List.length_cons,List.length_nil, *]);omega)|simp only[go_sem,List.length_cons,List.length_nil, *])
  (hy:∀y,y∈ys→y.length=q.sz:=by first|assumption|(intro y hy;simp only[List.mem_singleton]at hy;subst hy;first|rfl|(simp only[go_sem];done)|(simp;done)))
  (hz:q.zok=true:=by rfl):vappend k e q xs ys .full s:=
 ⟨hb,hm,hy,hz,hx,fun e=>absurd e h0,fun _ b hb=>h b hb⟩
def eqL (b3 b4 b5 b8 a sz:Nat)(va vb:List Nat)(bs:List Nat):List FG:=
 ⟨36,[.ptr b3 0,.ptr b4 0],btwF va 0 (sz - 1)⟩::((List.range bs.length).map fun j=>⟨37,[.ptr b3 0,.ptr b4 0,.ptr (bs.getD j 0) 0,.ptr b5 0,.ptr b8 0],xnF (va.getD j 0) (vb.getD j 0)⟩)
theorem eqL_add {b3 b4 b5 b8 a sz:Nat}{va vb bs:List Nat}{b:Nat}:eqL b3 b4 b5 b8 a sz va vb (bs++[b])=eqL b3 b4 b5 b8 a sz va vb bs++[⟨37,[.ptr b3 0,.ptr b4 0,.ptr b 0,.ptr b5 0,.ptr b8 0],xnF (va.getD bs.length 0) (vb.getD bs.length 0)⟩]:=by
 unfold eqL
 rw[List.length_append,List.length_singleton,List.range_succ,List.map_append,List.cons_append]
 congr 2
 ·apply List.map_congr_left
  intro j hj
  rw[List.mem_range]at hj
  congr 4
  simp only[List.getD_eq_getElem?_getD]
  rw[List.getElem?_append_left hj]
 ·simp
abbrev clT:TypeId:=73
theorem numA_eq:∀{va vb:List Nat} {x:Nat→Bool},vb.length=va.length→(((List.range va.length).all fun j=>xnF (va.getD j 0) (vb.getD j 0) x)=decide (numA va x=numA vb x))
 |[],[],x,_=>by simp[numA]
 |[],_::_,x,h=>by simp at h
 |_::_,[],x,h=>by simp at h
 |v::va,w::vb,x,h=>by
  have ih:=numA_eq (va:=va) (vb:=vb) (x:=x) (by simpa using h)
  rw[List.length_cons,List.range_succ_eq_map,List.all_cons,List.all_map]
  have e:((List.range va.length).all ((fun j=>xnF ((v::va).getD j 0) ((w::vb).getD j 0) x) ∘ Nat.succ))=(List.range va.length).all fun j=>xnF (va.getD j 0) (vb.getD j 0) x:=by
   congr 1
  rw[e,ih]
  have h1:(x v).toNat≤1:=Bool.toNat_le _
  have h2:(x w).toNat≤1:=Bool.toNat_le _
  have hP:(numA (v::va) x=numA (w::vb) x)↔(x v=x w∧numA va x=numA vb x):=by
   simp only[numA]
   cases x v<;>cases x w<;>simp<;>omega
  rw[Bool.eq_iff_iff,decide_eq_true_iff,hP]
  simp only[List.getD_cons_zero,xnF,Bool.and_eq_true,decide_eq_true_eq]
  cases x v<;>cases x w<;>simp
theorem eqL_all {b3 b4 b5 b8 a sz:Nat}{va vb bs:List Nat}(hl:vb.length=va.length)(hb:bs.length=va.length)(hs:1≤sz)(x:Nat→Bool) :
  ((eqL b3 b4 b5 b8 a sz va vb bs).all fun e=>e.g x)=(decide (numA va x<sz) && decide (numA va x=numA vb x)):=by
 unfold eqL
 rw[List.all_cons,List.all_map,hb]
 have e:((List.range va.length).all ((fun e:FG=>e.g x) ∘ fun j=>⟨37,[.ptr b3 0,.ptr b4 0,.ptr (bs.getD j 0) 0,.ptr b5 0,.ptr b8 0],xnF (va.getD j 0) (vb.getD j 0)⟩))=(List.range va.length).all fun j=>xnF (va.getD j 0) (vb.getD j 0) x:=by
  congr 1
 rw[e,numA_eq hl]
 congr 1
 simp only[btwF]
 rw[Bool.eq_iff_iff]
 simp
 omega
structure EqI (s:St) (c o q:Nat) (KK:OB) (b3 b4 b5 b8 a b2 i:Nat) (s':St) (ow:Own) (bs:List Nat):Prop where
 keep:∀z,s z≠.free→s' z=s z
 h3:s' b3=.obj 23 [.ptr c 0]
 h4:s' b4=.obj 3 [.int .i64 a]
 h5:s' b5=.obj 3 [.int .i64 b2]
 h8:s' b8=.obj 43 [.ptr KK.o 0]
 bx:∀j x,bs[j]?=some x→s' x=.obj 3 [.int .i64 (j:Nat)]
 len:bs.length=i
 own:(i=0∧ow=.full)∨∃y,ow=.at_ y∧s' y=.vec clT 1 (i+1)∧s y=.free
theorem own_step {S:St}{o o2:Own}{n:Nat}{T:TypeId}(h:OwnOk (S.disown o) o2 (n+1)) :
  ∃y2,o2=.at_ y2∧((S.disown o).own o2 T 1 (n+1)) y2=.vec T 1 (n+1)∧(∀z,S z≠.free→(∀y,o=.at_ y→z≠y)→((S.disown o).own o2 T 1 (n+1)) z=S z)∧(S y2=.free∨o=.at_ y2):=by
 cases o2 with
 |no=>exact h.elim
 |full=>exact absurd h (by simp[OwnOk])
 |at_ y2=>
  have h2:(S.disown o) y2=.free:=h
  refine⟨y2,rfl,St.set_same _ _ _,fun z hz hy=>?_,?_⟩
  ·have e1:(S.disown o) z=S z:=by
    cases o with
    |at_ y=>exact St.set_other _ _ (hy y rfl)
    |_=>rfl
   have e2:z≠y2:=fun e=>by rw[← e,e1]at h2;exact hz h2
   exact(St.set_other _ _ e2).trans e1
  ·cases o with
   |at_ y=>
    by_cases e:y2=y
    ·exact .inr (by rw[e])
    ·left
     have:(S.set y .free) y2=.free:=h2
     rwa [St.set_other _ _ e]at this
   |_=>exact .inl h2
theorem EqI.step {s:St}{c o q:Nat}{KK:OB}{b3 b4 b5 b8 a b2 i:Nat}{s' S u:St}{ow ow2:Own}{bs:List Nat}{b:Nat}(h:EqI s c o q KK b3 b4 b5 b8 a b2 i s' ow bs)(hb:s' b=.free)(hS:S=s'.set b (.obj 3 [.int .i64 (i:Nat)]))
  (hu:∀z,S z≠.free→(∀y,ow=.at_ y→z≠y)→u z=S z) (hy:∃y2,ow2=.at_ y2∧u y2=.vec clT 1 (i+1+1)∧(S y2=.free∨ow=.at_ y2)):EqI s c o q KK b3 b4 b5 b8 a b2 (i+1) u ow2 (bs++[b]):=by
 have old:∀z,s' z≠.free→(∀T sz n,s' z≠.vec T sz n)→u z=s' z:=fun z hz hv=>by
  have e:S z=s' z:=by rw[hS];exact St.set_other _ _ (nef hb hz).1
  rw[← e]
  refine hu z (by rw[e];exact hz) fun y hy e2=>?_
  rcases h.own with ⟨_,h1⟩|⟨y',h1,h2,_⟩
  ·rw[h1]at hy;cases hy
  ·rw[h1]at hy
   injection hy with hy
   rw[e2,← hy]at hv
   exact hv _ _ _ h2
 obtain⟨y2,e1,e2,e3⟩:=hy
 refine⟨fun z hz=>?_,(old _ (by rw[h.h3];simp) (by rw[h.h3];simp)).trans h.h3,(old _ (by rw[h.h4];simp) (by rw[h.h4];simp)).trans h.h4,(old _ (by rw[h.h5];simp) (by rw[h.h5];simp)).trans h.h5,(old _ (by rw[h.h8];simp) (by rw[h.h8];simp)).trans h.h8,fun j x hj=>?_,by rw[List.length_append,h.len];rfl,.inr ⟨y2,e1,e2,?_⟩⟩
 ·have hk:=h.keep z hz
  have e:S z=s' z:=by rw[hS];exact St.set_other _ _ (nef hb (by rw[hk];exact hz)).1
  rw[← hk,← e]
  refine hu z (by rw[e,hk];exact hz) fun y hy e2=>?_
  rcases h.own with ⟨_,h1⟩|⟨y',h1,_,h3⟩
  ·rw[h1]at hy;cases hy
  ·rw[h1]at hy
   injection hy with hy
   rw[e2,← hy]at hz
   exact hz h3
 ·rcases Nat.lt_or_ge j bs.length with hl|hl
  ·rw[List.getElem?_append_left hl]at hj
   have h1:=h.bx j x hj
   exact(old _ (by rw[h1];simp) (by rw[h1];simp)).trans h1
  ·rw[List.getElem?_append_right hl]at hj
   have hj0:j - bs.length=0:=by
    have:=(List.getElem?_eq_some_iff.1 hj).1
    simp at this
    exact this
   rw[hj0]at hj
   simp at hj
   subst hj
   have hji:j=i:=by rw[← h.len];omega
   have hSb:S b=.obj 3 [.int .i64 (i:Nat)]:=by rw[hS];exact St.set_same _ _ _
   rw[hji,← hSb]
   refine hu b (by rw[hSb];simp) fun y hy e2=>?_
   rcases h.own with ⟨_,h1⟩|⟨y',h1,h2,h3⟩
   ·rw[h1]at hy;cases hy
   ·rw[h1]at hy
    injection hy with hy
    rw[e2,← hy,h2]at hb
    cases hb
 ·rcases e3 with e|e
  ·by_cases hf:s y2=.free
   ·exact hf
   ·have hk:=h.keep y2 hf
    have e4:S y2=s' y2:=by rw[hS];exact St.set_other _ _ (nef hb (by rw[hk];exact hf)).1
    rw[e4,hk]at e
    exact absurd e hf
  ·rcases h.own with ⟨_,h1⟩|⟨y',h1,_,h3⟩
   ·rw[h1]at e;cases e
   ·rw[h1]at e
    injection e with e
    rw[← e]
    exact h3
set_option maxHeartbeats 16000000 in
theorem Ceq_S {s:St}{KK:OB}{q c n B a a2 N sz:Nat}{nma nmb:List UInt8}{va vb:List Nat}{ns:List Tr}{ds:List (List UInt8×Nat)}{at_:List (List Nat)}(hC:CMem s KK q c n B ns ds at_)(hD:DOk n ds at_)(hda:ds[a]?=some (nma,sz))(hdb:ds[a2]?=some (nmb,sz))(ha:at_[a]?=some va)(hb:at_[a2]?=some vb)(hlen:vb.length=va.length)(hne:¬ a=a2)(hc:CntN ns N)
  (hB:N+(va.length+1) * ((2 * va.length+1) * 2 ^ va.length+8+2 ^ (2 * va.length))≤B) :
  OpFC 15 [.ptr c 0,.int .i64 a,.int .i64 a2] s KK n B ns (N+(va.length+1) * ((2 * va.length+1) * 2 ^ va.length+8+2 ^ (2 * va.length))) (fun x=>decide (numA va x<sz) && decide (numA va x=numA vb x)):=by
 have wh:=fun(t:St) (h:t c=.obj 63 [.ptr q 0,.lst (domsC ds) .no,.lst (atC at_) .no])=>Chas_S t c _ _ _ _ _ .full [(a:Int),(a2:Int)] (by simp) h
 have hal:a<ds.length:=(List.getElem?_eq_some_iff.1 hda).1
 have hbl:a2<ds.length:=(List.getElem?_eq_some_iff.1 hdb).1
 have hany:([(a:Int),(a2:Int)]).any (badD (domsC ds).length)=false:=by
  rw[domsC_len,List.any_cons,List.any_cons,List.any_nil,badD_nat,badD_nat]
  simp[hal,hbl]
 rw[hany]at wh
 simp only[intsL,List.map_cons,List.map_nil,Bool.not_false]at wh
 have hco:=hC.co
 have hqo:=hC.qo
 have hca:=domsC_at hda
 have hcb:=domsC_at hdb
 have hat:=atC_at ha
 have hln:(natsL va).length=va.length:=natsL_len
 have wq:=fun(t:St) (h:t q=.obj 83 [.ptr KK.o 0,.ptr KK.s.p 0])=>Qops_S t q KK.o KK.s.p h
 have hcf:s c≠.free:=by rw[hco];simp
 have hqf:s q≠.free:=by rw[hqo];simp
 have HCC:=Lib.hid hC
 have HD:=Lib.hid hD
 have HDA:=Lib.hid hda
 have HA:=Lib.hid ha
 have HB:=Lib.hid hb
 have HLN:=Lib.hid hlen
 have HCN:=Lib.hid hc
 have HRM:=Lib.hid hB
 have hw30:=(hD.w a _ _ hda ha).2.2.2
 have hne2:¬ (a:Int)=(a2:Int):=by omega
 unfold OpFC
 clear hC hD hda hdb ha hb hlen hc hB hal hbl hany hne
 dsimp only at hca hcb
 have HDD:Hid (∃D,D=domsC ds):=Lib.hid ⟨_,rfl⟩
 obtain⟨D,hDD⟩:=HDD.out
 obtain⟨A,hAA⟩:∃A,A=atC at_:=⟨_,rfl⟩
 obtain⟨V,hVV⟩:∃V,V=natsL va:=⟨_,rfl⟩
 rw[← hDD]at wh hco hca hcb
 rw[← hAA]at wh hco hat
 rw[← hVV]at hat hln
 obtain⟨w,hww⟩:∃w,w=va.length:=⟨_,rfl⟩
 rw[← hww]at hln hw30
 have HWW:=Lib.hid hww
 have HDD:=Lib.hid hDD
 have HAA:=Lib.hid hAA
 clear hDD hAA hVV hww
 have ha0:(0:Int)≤a:=Int.natCast_nonneg _
 have hb0:(0:Int)≤a2:=Int.natCast_nonneg _
 refine G_enter Tryz.func15 rfl Tryz.ntmps15 rfl fun Q hQ hQe=>?_
 (repeat'(first|refine Ctl ?_|(with_reducible first|(refine Kof.use hK ?_;clear hK hE K E)|(refine Kof.use hKh ?_;clear hKh Kh)|(refine Kof.use hKb (P_next ?_);clear hKb Kb)|refine G_plan 1 [([0,1,2,3,4,5,6,7,8,9,10,11,12,13],14,[[]])] [15,16,17,18,19,20,21,22,23,24,25,26,27,28,29,30,31,32,33,34,35] hQe fun K E hK hE=>?_|refine G_plan 5 [] [0,1,2,3,4,5,6,7,8] hQe fun K E hK hE=>?_)|((with_reducible refine W_cond (fun h=>?_) (fun h=>?_))<;>(try(exfalso;assumption)))|((first|(with_reducible first|refine G_region fun K E hK hE=>?_|refine call_ret can30 (wh _ z_sl) ?_|refine call_ret can18 (wq _ z_sl) ?_|refine P_heads fun Kh hKh=>?_|refine P_fin fun Kh hKh=>?_|refine P_each fun Kb hKb=>?_)|((with_reducible refine W_fresh (fun b hb=>?_));(repeat(obtain⟨_,hb⟩:=hb));(try(obtain⟨_,_⟩:=nef hb hcf;obtain⟨_,_⟩:=nef hb hqf))))<;>(try simp(disch:=assumption) only[go_sem,seval,hca,hcb,hat,hln, *]))))
 rename_i b3 hb3 _ _ _ _ b4 _ _ hb4 _ _ _ _ b5 _ _ _ _ hb5 _ _ _ _ _ _ _ _ _ _ _ _ _ _
 obtain⟨b8,hb8⟩:∃z,z=b:=⟨_,rfl⟩
 subst hb8
 refine Kp_nameQ fun S0 hS0=>?_
 have hE0:EqI s c KK.o q KK b3 b4 b5 b8 a a2 0 S0 .full []:=by
  refine⟨fun z hz=>?_,by rw[hS0];simp only[St.set,if_true,if_false, *],by rw[hS0];simp only[St.set,if_true,if_false, *],by rw[hS0];simp only[St.set,if_true,if_false, *],by rw[hS0];exact St.set_same _ _ _,fun j x hj=>by simp at hj,rfl,.inl ⟨rfl,rfl⟩⟩
  rw[hS0,St.set_other _ _ (nef hb hz).1,St.set_other _ _ (nef hb5 hz).1,St.set_other _ _ (nef hb4 hz).1,St.set_other _ _ (nef hb3 hz).1]
 have HE0:=Lib.hid hE0
 clear hS0 hE0 hb hb3 hb4 hb5
 have hL0:fgC (eqL b3 b4 b5 b8 a sz va vb [])=[[.fn 36 [.ptr b3 0,.ptr b4 0]]]:=rfl
 refine G_loop (fun m env s'=>∃(i:Nat) (o:Own) (bs:List Nat),i≤w∧m+i=w∧Hid (EqI s c KK.o q KK b3 b4 b5 b8 a a2 i s' o bs)∧env 3=.ptr b3 0∧env 4=.ptr b4 0∧env 5=.ptr b5 0∧env 8=.ptr b8 0∧env 9=.lst (fgC (eqL b3 b4 b5 b8 a sz va vb bs)) o∧env 61=.int .i64 w∧env 62=.int .i64 i) w ?_ ?_
 ·exact⟨_,Fg.refl _,0,.full,[],by omega,by omega,HE0,z_sl,z_sl,z_sl,z_sl,by(rw[hL0];((try simp(disch:=assumption) only[go_sem,seval, *])<;>rfl)),z_sl,z_sl⟩
 clear HE0
 rintro m env s' ⟨i,o,bs,hi,hm,HE,e3,e4,e5,e8,e9,e61,e62⟩
 have hE:=HE.out
 have s3:=hE.h3
 have s4:=hE.h4
 have s5:=hE.h5
 have hlf:(fgC (eqL b3 b4 b5 b8 a sz va vb bs)).length=i+1:=by rw[fgC_len,eqL,List.length_cons,List.length_map,List.length_range,hE.len]
 clear hE
 by_cases h7:i<w
 ·generalize hLL:fgC (eqL b3 b4 b5 b8 a sz va vb bs)=L at *
  have HLL:=Lib.hid hLL
  clear hLL
  have f3:s' b3≠.free:=by rw[s3];simp
  have f4:s' b4≠.free:=by rw[s4];simp
  have f5:s' b5≠.free:=by rw[s5];simp
  (repeat'(first|(with_reducible refine Kp_atQ 9 ?_)|refine Ctl ?_|((with_reducible refine Kof.use hK ?_);clear hK hE K E)|((with_reducible refine W_cond (fun h=>?_) (fun h=>?_))<;>(try(exfalso;assumption)))|((first|(with_reducible refine G_region fun K E hK hE=>?_)|((with_reducible refine W_fresh (fun b hb=>?_));(try(obtain⟨_,_⟩:=nef hb f3;obtain⟨_,_⟩:=nef hb f4;obtain⟨_,_⟩:=nef hb f5))))<;>(try simp(disch:=assumption) only[go_sem,seval, *]))))
  unfold StopQ
  refine Kp_nameQ fun S hS=>?_
  have hE:=HE.out
  have hstep:=fun u ow2 h1 h2=>hE.step (S:=S) (u:=u) (ow2:=ow2) hb hS h1 h2
  have HST:=Lib.hid hstep
  have hSb:S b≠.free:=by rw[hS,St.set_same];simp
  have hadd:fgC (eqL b3 b4 b5 b8 a sz va vb (bs++[b]))=L++[[.fn 37 [.ptr b3 0,.ptr b4 0,.ptr b 0,.ptr b5 0,.ptr b8 0]]]:=by
   rw[eqL_add,← HLL.out]
   simp[fgC]
  have HADD:=Lib.hid hadd
  have hL1:∀x,x∈L→x.length=1:=by
   rw[← HLL.out]
   intro x hx
   obtain⟨e,_,rfl⟩:=List.mem_map.1 hx
   rfl
  rcases hE.own with ⟨hi0,ho⟩|⟨y,ho,hy,_⟩
  ·subst hi0 ho
   clear hadd hstep hE hS s3 s4 s5
   (repeat'(first|((with_reducible refine W_appL (fun bA hA=>?_))<;>(try simp(disch:=assumption) only[go_sem,seval, *]))|refine Ctl ?_|((with_reducible refine Kof.use hK ?_);clear hK hE K E)|(((with_reducible refine G_region fun K E hK hE=>?_))<;>(try simp(disch:=omega) only[go_sem,seval, *]))))
   refine⟨_,Fg.refl _,m - 1,by omega,1,.at_ bA,bs++[b],by omega,by omega,Lib.hid ?_,z_sl,z_sl,z_sl,z_sl,by(rw[HADD.out];((try simp(disch:=assumption) only[go_sem,seval, *])<;>rfl)),z_sl,z_sl⟩
   exact HST.out _ _ (fun z hz _=>St.set_other _ _ (nef hA hz).1) ⟨bA,rfl,St.set_same _ _ _,.inl hA⟩
  ·subst ho
   have hyb:¬ y=b:=fun e=>by rw[e]at hy;rw[hy]at hb;cases hb
   have hOw:Owned S (.at_ y) 73 1 (i+1):=by
    show S y=_
    rw[hS,St.set_other _ _ hyb]
    exact hy
   clear hadd hstep hE hS s3 s4 s5 hy
   (repeat'(first|refine Ctl ?_|((with_reducible refine Kof.use hK ?_);clear hK hE K E)|((first|(with_reducible refine G_region fun K E hK hE=>?_)|((with_reducible refine W_app (fun o2 ho=>?_))))<;>(try simp(disch:=omega) only[go_sem,seval,hOw, *]))))
   all_goals
    refine⟨_,Fg.refl _,m - 1,by omega,i+1,o2,bs++[b],by omega,by omega,Lib.hid ?_,z_sl,z_sl,z_sl,z_sl,by(rw[HADD.out];((try simp(disch:=assumption) only[go_sem,seval, *])<;>rfl)),z_sl,z_sl⟩
    obtain⟨y2,p1,p2,p3,p4⟩:=own_step (T:=73) (n:=i+1) (by simpa [hlf]using ho)
    exact HST.out _ _ p3 ⟨y2,p1,p2,p4⟩
 ·obtain rfl:i=w:=by omega
  have hE:=HE.out
  have hsz:=HD.out.w a _ _ HDA.out HA.out
  dsimp only at hsz
  have hm1:CMem s' KK q c n B ns ds at_:=by
   have hC:=HCC.out
   obtain⟨n1,n2,n3,n4⟩:=hC.nq
   exact⟨hC.om.keep fun z hz=>hE.keep z (hC.om.live hz),(hE.keep _ n3).trans hC.qo,(hE.keep _ n4).trans hC.co⟩
  have hkp:OKeep s s' KK KK:=⟨rfl,rfl,rfl,fun z hz=>.inl hz,fun z hz _=>hE.keep z hz⟩
  have hlw:vb.length=va.length:=HLN.out
  have hbl:bs.length=va.length:=by rw[hE.len,← HWW.out]
  have S2:∀v,v∈va++vb→v<n:=fun v hv=>by
   rcases List.mem_append.1 hv with hv|hv
   ·exact HD.out.lt _ (List.mem_of_getElem? HA.out) v hv
   ·exact HD.out.lt _ (List.mem_of_getElem? HB.out) v hv
  have hFG:∀e,e∈eqL b3 b4 b5 b8 a sz va vb bs→FGok s' (fun z=>z=b3∨z=b4∨z=b5∨z=b8∨z∈bs∨z=q) q c n B ((2 * va.length+1) * 2 ^ va.length+8) ds at_ (va++vb) e:=fun e he=>by
   unfold eqL at he
   rcases List.mem_cons.1 he with rfl|he
   ·refine⟨can36,fun x y e=>?_,fun u K' ns' N' c1 c2 c3 c4=>?_⟩
    ·simp only[btwF,numA_congr fun v hv=>e v (List.mem_append_left _ hv)]
    ·exact(Ceq1_S c1 HD.out HDA.out HA.out ((c2 b3 (.inl rfl)).trans hE.h3) ((c2 b4 (.inr (.inl rfl))).trans hE.h4) c3 (by omega)).mono (by omega)
   ·obtain⟨j,hj,rfl⟩:=List.mem_map.1 he
    rw[List.mem_range]at hj
    have hja:va[j]?=some (va.getD j 0):=by rw[List.getD_eq_getElem?_getD,List.getElem?_eq_getElem (by omega)];rfl
    have hjb:vb[j]?=some (vb.getD j 0):=by rw[List.getD_eq_getElem?_getD,List.getElem?_eq_getElem (by omega)];rfl
    have hjs:bs[j]?=some (bs.getD j 0):=by rw[List.getD_eq_getElem?_getD,List.getElem?_eq_getElem hj];rfl
    have ma:=List.mem_of_getElem? hja
    have mb:=List.mem_of_getElem? hjb
    refine⟨can37,xnF_dep (List.mem_append_left _ ma) (List.mem_append_right _ mb),fun u K' ns' N' c1 c2 c3 c4=>?_⟩
    have hKo:K'.o=KK.o:=by
     have h1:=c1.qo
     rw[c2 q (.inr (.inr (.inr (.inr (.inr rfl))))),hm1.qo]at h1
     injection h1 with _ h1
     injection h1 with h1
     injection h1 with h1
     exact h1.symm
    refine(Ceq2_S c1 HA.out HB.out hja hjb (S2 _ (List.mem_append_left _ ma)) (S2 _ (List.mem_append_right _ mb)) ((c2 b3 (.inl rfl)).trans hE.h3) ((c2 b4 (.inr (.inl rfl))).trans hE.h4) ((c2 _ (.inr (.inr (.inr (.inr (.inl (List.mem_of_getElem? hjs))))))).trans (hE.bx j _ hjs)) ((c2 b5 (.inr (.inr (.inl rfl)))).trans hE.h5) ((c2 b8 (.inr (.inr (.inr (.inl rfl))))).trans (hE.h8.trans (by rw[hKo]))) c3 (by omega)).mono (by omega)
  have hZ:∀z,(z=b3∨z=b4∨z=b5∨z=b8∨z∈bs∨z=q)→s' z≠.free∧¬ KK.has z:=fun z hz=>by
   have ty:∀{T xs},s' z=.obj T xs→T≠129→T≠184→T≠116→s' z≠.free∧¬ KK.has z:=fun h a b c=>⟨by rw[h];simp,hm1.om.types h a b c⟩
   rcases hz with rfl|rfl|rfl|rfl|hz|rfl
   ·exact ty hE.h3 (by decide) (by decide) (by decide)
   ·exact ty hE.h4 (by decide) (by decide) (by decide)
   ·exact ty hE.h5 (by decide) (by decide) (by decide)
   ·exact ty hE.h8 (by decide) (by decide) (by decide)
   ·obtain⟨j,hj⟩:=List.mem_iff_getElem?.1 hz
    exact ty (hE.bx j z hj) (by decide) (by decide) (by decide)
   ·exact ty hm1.qo (by decide) (by decide) (by decide)
  have hll:(eqL b3 b4 b5 b8 a sz va vb bs).length=va.length+1:=by rw[eqL,List.length_cons,List.length_map,List.length_range,hbl]
  have wa:=Call_S (k:=2 * va.length) o hm1 S2 (by rw[List.length_append,hlw];omega) hFG hZ HCN.out (by rw[hll];omega) (by rw[hll];exact HRM.out)
  have hfe:(fun x=>(eqL b3 b4 b5 b8 a sz va vb bs).all fun e=>e.g x)=fun x=>decide (numA va x<sz) && decide (numA va x=numA vb x):=funext fun x=>eqL_all hlw hbl hsz.1 x
  rw[hfe,hll]at wa
  have HKP:=Lib.hid hkp
  unfold OpFC at wa
  clear hE hsz hm1 hkp hlw hbl S2 hFG hZ hll hfe
  (repeat'(first|refine Ctl ?_|((with_reducible refine Kof.use hK ?_);clear hK hE K E)|((with_reducible refine W_cond (fun h=>?_) (fun h=>?_))<;>(try(exfalso;assumption)))|(((with_reducible refine G_region fun K E hK hE=>?_))<;>(try simp(disch:=assumption) only[go_sem,seval, *]))))
  refine call_ex can40 wa (fun a h=>?_)
  obtain⟨u3,K3,ns3⟩:=a
  have h3:=Lib.hid (OpF.trans (ns:=ns) h HKP.out ⟨[],(List.append_nil _).symm⟩)
  clear h wa
  simp only[go_sem,seval]
  (repeat'(first|refine Ctl ?_|((with_reducible refine Kof.use hK ?_);clear hK hE K E)))
  (refine W_ret res15 hQ ?_)
  exact⟨_,_,Wk.refl _,Fg.refl _,mkA3 (K3,ns3) rfl h3.out⟩
abbrev BF:=(Nat→Bool)→Bool
def Is (n:Nat)(ns:List Tr)(g:BF)(k:Nat):Prop:=treeT n g∈ns∧ixF n ns g=k
structure Ch (s:St) (K:OB) (q c n B:Nat) (ns:List Tr) (ds:List (List UInt8×Nat)) (at_:List (List Nat)) (s':St) (K':OB) (ns':List Tr) (N':Nat):Prop where
 cm:CMem s' K' q c n B ns' ds at_
 kp:OKeep s s' K K'
 pre:∃l,ns'=ns++l
 cnt:CntN ns' N'
abbrev OiA:=St×OB×List Tr×Nat
structure OiR (s:St) (K:OB) (q c n B:Nat) (ns:List Tr) (ds:List (List UInt8×Nat)) (at_:List (List Nat)) (ns':List Tr) (N2:Nat) (g:BF) (a:OiA):Prop where
 ch:Ch s K q c n B ns ds at_ a.1 a.2.1 a.2.2.1 N2
 is:Is n a.2.2.1 g a.2.2.2
 on:∀f k,Is n ns' f k→Is n a.2.2.1 f k
section
variable {s : St} {K : OB} {q c n B : Nat} {ns : List Tr} {ds : List (List UInt8 × Nat)} {at_ : List (List Nat)} {s' : St} {K' : OB} {ns' : List Tr} {N' N2 : Nat} {f g : BF} {kf kg k : Nat} {S : List Nat}
theorem Ch.refl (h:CMem s K q c n B ns ds at_)(hc:CntN ns N'):Ch s K q c n B ns ds at_ s K ns N':=⟨h,.refl _ _,⟨[],by simp⟩,hc⟩
theorem Ch.mono (h:Ch s K q c n B ns ds at_ s' K' ns' N')(hN:N'≤N2):Ch s K q c n B ns ds at_ s' K' ns' N2:=⟨h.cm,h.kp,h.pre,h.cnt.mono hN⟩
theorem Is.on {ns1:List Tr}(h:Is n ns' f k)(hp:∃l,ns1=ns'++l):Is n ns1 f k:=by
 obtain⟨a,b⟩:=sub_of hp h.1
 exact⟨a,(show ixF n ns1 f=ixF n ns' f from b).trans h.2⟩
theorem Ch.fin (h:Ch s K q c n B ns ds at_ s' K' ns' N')(hi:Is n ns' g k):OpF s K n B ns N' g (s',K',ns')∧ixF n ns' g=k:=⟨⟨h.cm.om,h.pre,hi.1,h.cnt,h.kp⟩,hi.2⟩
variable (hc : Ch s K q c n B ns ds at_ s' K' ns' N') (hS : ∀ v, v ∈ S → v < n) (hk : S.length ≤ k) (hf : Is n ns' f kf) (hg : Is n ns' g kg) (df : DepF S f) (dg : DepF S g)
include hc hS hk hf df
include hg dg
end
theorem Is.zero {s:St}{K:OB}{n B:Nat}{ns:List Tr}(h:OMem s K n B ns):Is n ns (fun _=>false) 0:=⟨h.c0.1.1,h.c0.1.2⟩
theorem Is.one {s:St}{K:OB}{n B:Nat}{ns:List Tr}(h:OMem s K n B ns):Is n ns (fun _=>true) 1:=⟨h.c0.2.1,h.c0.2.2⟩
def addP (w:Nat)(more:Int):Nat:=(more % 2 ^ w).toNat
theorem addP_lt (w:Nat)(more:Int):addP w more<2 ^ w:=by
 unfold addP
 have h1:=Int.emod_lt_of_pos more (show (0:Int)<2 ^ w by exact Int.pow_pos (by omega))
 have h2:=Int.emod_nonneg more (show (2:Int) ^ w≠0 by exact Int.ne_of_gt (Int.pow_pos (by omega)))
 have hp:((2:Int) ^ w)=((2 ^ w:Nat):Int):=by simp
 rw[hp]at h1 h2
 omega
theorem and_low {w:Nat}(hw:w≤61)(more:Int):vint .and .i64 more (IntKind.i64.wrap (((2 ^ w:Nat):Int) - 1))=some (.int .i64 (addP w more:Nat)):=by
 have hp:((2:Int) ^ w)=((2 ^ w:Nat):Int):=by simp
 have hle:2 ^ w≤2 ^ 61:=Nat.pow_le_pow_right (by omega) hw
 have hpos:0<2 ^ w:=Nat.two_pow_pos w
 have e:IntKind.i64.wrap (((2 ^ w:Nat):Int) - 1)=2 ^ w - 1:=by
  rw[hp]
  generalize 2 ^ w=P at *
  rw[wrap_i64 (by omega) (by omega)]
 show some (VV.int .i64 (bAnd .i64 more _))=_
 rw[e,bAnd_low more w (by omega)]
 unfold addP
 have h2:=Int.emod_nonneg more (show (2:Int) ^ w≠0 by exact Int.ne_of_gt (Int.pow_pos (by omega)))
 congr 2
 omega
end Go.Proofs.YtndlnadbnganeaaGreatDoor
