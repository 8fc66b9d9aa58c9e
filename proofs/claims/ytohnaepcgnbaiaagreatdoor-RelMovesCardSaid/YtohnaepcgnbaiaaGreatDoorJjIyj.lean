/- Walks of functions that the claim reaches, and plain facts of them. Conditions: those in the statements. -/
import Derived.Test.YtohnaepcgnbaiaaGreatDoorJjItj
import Derived.Test.YtohnaepcgnbaiaaGreatDoorJjSoundFj
set_option linter.unusedSimpArgs false
set_option linter.unusedVariables false
set_option maxRecDepth 100000
namespace Go.Proofs.YtohnaepcgnbaiaaGreatDoor
open Go.RowKit
theorem OpF.trans {s s1:St}{K K1:OB}{n B N2:Nat}{ns ns1:List Tr}{g:(Nat→Bool)→Bool}{a:IteA}(h:OpF s1 K1 n B ns1 N2 g a)(hk:OKeep s s1 K K1)(hp:∃l,ns1=ns++l):OpF s K n B ns N2 g a:=by
 obtain⟨l,rfl⟩:=hp
 obtain⟨l2,e⟩:=h.pre
 exact⟨h.m,⟨l++l2,by rw[e,List.append_assoc]⟩,h.mem,h.cnt,hk.trans h.k⟩
theorem pre_trans {a b c:List Tr}(h:∃l,b=a++l)(k:∃l,c=b++l):∃l,c=a++l:=by
 obtain⟨l,rfl⟩:=h
 obtain⟨m,rfl⟩:=k
 exact⟨l++m,List.append_assoc _ _ _⟩
structure LeI (s:St) (K:OB) (q c n B:Nat) (ns:List Tr) (ds:List (List UInt8×Nat)) (at_:List (List Nat)) (vs:List Nat) (k N i:Nat) (s':St) (K':OB) (ns':List Tr) (g:(Nat→Bool)→Bool):Prop where
 m:CMem s' K' q c n B ns' ds at_
 kp:OKeep s s' K K'
 pre:∃l,ns'=ns++l
 mem:treeT n g∈ns'
 cnt:CntN ns' (N+i * 2 ^ vs.length)
 dep:DepF vs g
 fin:leG (zipB k i (vs.drop i)) g=fun x=>decide (k≤numA vs x)
theorem DepF.and {S:List Nat}{f g:(Nat→Bool)→Bool}(hf:DepF S f)(hg:DepF S g):DepF S fun x=>f x && g x:=fun x y e=>by simp only[hf x y e,hg x y e]
theorem DepF.or {S:List Nat}{f g:(Nat→Bool)→Bool}(hf:DepF S f)(hg:DepF S g):DepF S fun x=>f x || g x:=fun x y e=>by simp only[hf x y e,hg x y e]
theorem DepF.diff {S:List Nat}{f g:(Nat→Bool)→Bool}(hf:DepF S f)(hg:DepF S g):DepF S fun x=>f x && !g x:=fun x y e=>by simp only[hf x y e,hg x y e]
theorem DepF.xor {S:List Nat}{f g:(Nat→Bool)→Bool}(hf:DepF S f)(hg:DepF S g):DepF S fun x=>f x ^^ g x:=fun x y e=>by simp only[hf x y e,hg x y e]
theorem DepF.not {S:List Nat}{f:(Nat→Bool)→Bool}(hf:DepF S f):DepF S fun x=>!f x:=fun x y e=>by simp only[hf x y e]
theorem DepF.lit {S:List Nat}{v:Nat}(h:v∈S)(b:Bool):DepF S fun x=>x v == b:=fun x y e=>by simp only[e v h]
theorem LeI.next {s:St}{K:OB}{q c n B:Nat}{ns:List Tr}{ds:List (List UInt8×Nat)}{at_:List (List Nat)}{vs:List Nat}{k N i v w M:Nat}{s':St}{K':OB}{ns':List Tr}{g g':(Nat→Bool)→Bool}{u1 u2:St}{K1 K2:OB}{ns1 ns2:List Tr}
  (I:LeI s K q c n B ns ds at_ vs k N i s' K' ns' g) (hvi:vs[i]?=some v) (hw:vs.length=w) (hM:M=N+i * 2 ^ w) (h1:OpF s' K' n B ns' (M+1) (fun x=>x v == true) (u1,K1,ns1))
  (h2:OpF u1 K1 n B ns1 (M+1+(2 ^ w - 1)) g' (u2,K2,ns2)) (hg:g'=fun x=>if k.testBit i=true then(x v == true) && g x else(x v == true) || g x) (hdep:DepF vs g'):LeI s K q c n B ns ds at_ vs k N (i+1) u2 K2 ns2 g':=by
 have hpw:0<2 ^ w:=Nat.two_pow_pos w
 refine⟨(I.m.keep h1.m h1.k).keep h2.m h2.k,I.kp.trans (h1.k.trans h2.k),pre_trans I.pre (pre_trans h1.pre h2.pre),h2.mem,h2.cnt.mono ?_,hdep,?_⟩
 ·rw[hw,hM,Nat.add_mul,Nat.one_mul]
  omega
 ·have hl:=(List.getElem?_eq_some_iff.1 hvi).1
  have e:vs.drop i=v::vs.drop (i+1):=by
   rw[List.drop_eq_getElem_cons hl]
   congr 1
   rw[List.getElem?_eq_getElem hl]at hvi
   injection hvi
  have h3:=I.fin
  rw[e]at h3
  simp only[zipB,leG]at h3
  rw[← h3,hg]
  congr 1
  funext x
  cases x v<;>cases k.testBit i<;>simp
set_option maxHeartbeats 8000000 in
theorem Cleast_S {s:St}{KK:OB}{q c n B d k N:Nat}{vs:List Nat}{ns:List Tr}{ds:List (List UInt8×Nat)}{at_:List (List Nat)}(hC:CMem s KK q c n B ns ds at_)(hd:at_[d]?=some vs)(hv:∀v,v∈vs→v<n)(hw:vs.length≤62)(hk:k<2 ^ vs.length)(hc:CntN ns N)(hB:N+vs.length * 2 ^ vs.length≤B) :
  OpFC 117 [.ptr c 0,.int .i64 d,.int .i64 k] s KK n B ns (N+vs.length * 2 ^ vs.length) (fun x=>decide (k≤numA vs x)):=by
 have w0:=fun s=>Bput_S s k vs.length hw hk
 have c0:=hC.om.c0.2
 have I0:LeI s KK q c n B ns ds at_ vs k N 0 s KK ns (fun _=>true):=⟨hC,.refl _ _,⟨[],by simp⟩,c0.1,by simpa using hc,fun _ _ _=>rfl,by rw[List.drop_zero];funext x;exact leG_ge hk⟩
 have e8:=c0.2
 have hat:=atC_at hd
 have hln:(natsL vs).length=vs.length:=natsL_len
 have hl2:(bitsL k vs.length).length=vs.length:=bitsL_len
 have hco:=hC.co
 have hb1:=fun(j:Nat) (h:j<vs.length)=>bitsL_at (n:=k) h
 have hb2:=fun(j v:Nat) (h:vs[j]?=some v)=>natsL_at h
 have HW:=Lib.hid hw
 have HI:=Lib.hid I0
 have HB:=Lib.hid hB
 have HV:=Lib.hid hv
 have HB1:=Lib.hid hb1
 have HB2:=Lib.hid hb2
 unfold OpFC
 clear I0 hC hd hv hk hc hB c0 hb1 hb2
 generalize bitsL k vs.length=L at *
 generalize hAA:atC at_=A at *
 have HAA:=Lib.hid hAA
 clear hAA
 generalize natsL vs=V at *
 generalize hwl:vs.length=w at *
 have HWL:=Lib.hid hwl
 clear hwl
 have hd0:(0:Int)≤d:=Int.natCast_nonneg _
 refine G_enter Tryz.func117 rfl Tryz.ntmps117 rfl fun Q hQ hQe=>?_
 (repeat'(first|refine Ctl ?_|((with_reducible refine Kof.use hK ?_);clear hK hE K E)|(((with_reducible first|refine G_region fun K E hK hE=>?_|refine call_ret can81 (w0 _) ?_))<;>(try simp(disch:=assumption) only[go_sem,seval,hat,hln,hl2, *]))))
 refine G_loop (fun m env s'=>∃(i:Nat) (K':OB) (ns':List Tr) (g:(Nat→Bool)→Bool),i≤w∧m+i=w∧Hid (LeI s KK q c n B ns ds at_ vs k N i s' K' ns' g)∧s' c=.obj 132 [.ptr q 0,.lst (domsC ds) .no,.lst A .no]∧env 0=.ptr c 0∧env 1=.int .i64 d∧env 8=.int .i64 (ixF n ns' g:Nat)∧env 28=.lst L .no∧env 29=.int .i64 w∧env 30=.int .i64 i) w ?_ ?_
 ·exact⟨_,Fg.refl _,0,KK,ns,fun _=>true,by omega,by omega,HI,hco,z_sl,z_sl,by(rw[e8];((try simp(disch:=assumption) only[go_sem,seval, *])<;>rfl)),z_sl,z_sl,z_sl⟩
 ·rintro m env s' ⟨i,K',ns',g,hi,hm,II,hcs,e0,e1,e8,e28,e29,e30⟩
  have I:=II.out
  by_cases h5:i<w
  ·obtain⟨v,hvi⟩:∃v,vs[i]?=some v:=⟨_,List.getElem?_eq_getElem (by rw[HWL.out];exact h5)⟩
   have hvm:=List.mem_of_getElem? hvi
   have hpw:0<2 ^ w:=Nat.two_pow_pos w
   have hroom:N+i * 2 ^ w+2 ^ w≤B:=by
    have h1:i * 2 ^ w+2 ^ w=(i+1) * 2 ^ w:=by rw[Nat.add_mul,Nat.one_mul]
    have h2:(i+1) * 2 ^ w≤w * 2 ^ w:=Nat.mul_le_mul_right _ h5
    have:=HB.out
    omega
   have hcnt:=I.cnt
   rw[HWL.out]at hcnt
   have wl:=Clit_S I.m (HV.out v hvm) true hcnt (by omega)
   have hx1:=HB1.out i h5
   have hx2:=HB2.out i v hvi
   have HVI:=Lib.hid hvi
   have HVM:=Lib.hid hvm
   have HCNT:=Lib.hid hcnt
   have HR:=Lib.hid hroom
   have HPW:=Lib.hid hpw
   have hkc:=I.m.co
   unfold OpFC at wl
   clear I hcnt hvi hvm hroom hkc hpw
   generalize htb:k.testBit i=tb at *
   have HTB:=Lib.hid htb
   clear htb
   cases tb
   case false=>
    (repeat'(first|refine Ctl ?_|((with_reducible refine Kof.use hK ?_);clear hK hE K E)|((with_reducible refine W_cond (fun h=>?_) (fun h=>?_))<;>(try(exfalso;assumption)))|(((with_reducible refine G_region fun K E hK hE=>?_))<;>(try simp(disch:=assumption) only[go_sem,seval,hat,hx1,hx2,hln,hl2, *]))))
    refine call_ex can89 wl (fun a h=>?_)
    obtain⟨u1,K1,ns1⟩:=a
    have I:=II.out
    have hm1:=I.m.keep h.m h.k
    have mg:=sub_of h.pre I.mem
    have dl:DepF vs fun x:Nat→Bool=>x v == true:=.lit HVM.out true
    have hgn:Hang n g:=I.dep.hang HV.out
    have hln':Hang n fun x:Nat→Bool=>x v == true:=dl.hang HV.out
    dsimp only at h mg hm1 ⊢
    have wq:=Qops_S u1 q K1.o K1.s.p hm1.qo
    have hcs1:=hm1.co
    have hsub:SubN (treeT n fun x=>(x v == true) || g x) (2 ^ w - 1):=by
     have:=subN_tree (S:=vs) HV.out (dl.or I.dep) (Nat.le_refl vs.length)
     rw[HWL.out]at this
     exact this
    have wo:=OOr_F hm1.om hln' hgn h.mem mg.1 h.cnt hsub (by have:=HR.out;have:=HPW.out;omega)
    have e8':ixF n ns1 g=ixF n ns' g:=mg.2
    rw[e8']at wo
    have hdep:=dl.or I.dep
    have N1:=fun u2 K2 ns2 h2=>LeI.next (u2:=u2) (K2:=K2) (ns2:=ns2) I HVI.out HWL.out rfl h h2 (by rw[HTB.out];rfl) hdep
    have HN1:=Lib.hid N1
    have hm1':=Lib.hid hm1
    unfold OpFC at wo
    clear N1 hdep e8' hsub hm1 mg dl hgn hln' I h wl
    generalize hA2:atC at_=A2 at hcs1
    obtain rfl:A2=A:=hA2.symm.trans HAA.out
    clear hA2
    simp only[go_sem,seval]
    (repeat'(first|refine Ctl ?_|((with_reducible refine Kof.use hK ?_);clear hK hE K E)|((with_reducible refine W_cond (fun h=>?_) (fun h=>?_))<;>(try(exfalso;assumption)))|(((with_reducible first|refine G_region fun K E hK hE=>?_|refine call_ret can39 (wq) ?_))<;>(try simp(disch:=assumption) only[go_sem,seval, *]))))
    refine call_ex can49 wo (fun a h=>?_)
    obtain⟨u2,K2,ns2⟩:=a
    have h3:=HN1.out u2 K2 ns2 h
    have h4:=h3.m.co
    rw[HAA.out]at h4
    have H3:=Lib.hid h3
    clear h h3 wo
    dsimp only
    simp only[go_sem,seval]
    (repeat'(first|refine Ctl ?_|((with_reducible refine Kof.use hK ?_);clear hK hE K E)|((with_reducible refine W_cond (fun h=>?_) (fun h=>?_))<;>(try(exfalso;assumption)))|(((with_reducible refine G_region fun K E hK hE=>?_))<;>(try simp(disch:=omega) only[go_sem,seval, *]))))
    exact⟨_,Fg.refl _,m - 1,by omega,i+1,K2,ns2,_,by omega,by omega,H3,h4,z_sl,z_sl,z_sl,z_sl,z_sl,z_sl⟩
   case true=>
    (repeat'(first|refine Ctl ?_|((with_reducible refine Kof.use hK ?_);clear hK hE K E)|((with_reducible refine W_cond (fun h=>?_) (fun h=>?_))<;>(try(exfalso;assumption)))|(((with_reducible refine G_region fun K E hK hE=>?_))<;>(try simp(disch:=assumption) only[go_sem,seval,hat,hx1,hx2,hln,hl2, *]))))
    refine call_ex can89 wl (fun a h=>?_)
    obtain⟨u1,K1,ns1⟩:=a
    have I:=II.out
    have hm1:=I.m.keep h.m h.k
    have mg:=sub_of h.pre I.mem
    have dl:DepF vs fun x:Nat→Bool=>x v == true:=.lit HVM.out true
    have hgn:Hang n g:=I.dep.hang HV.out
    have hln':Hang n fun x:Nat→Bool=>x v == true:=dl.hang HV.out
    dsimp only at h mg hm1 ⊢
    have wq:=Qops_S u1 q K1.o K1.s.p hm1.qo
    have hcs1:=hm1.co
    have hsub:SubN (treeT n fun x=>(x v == true) && g x) (2 ^ w - 1):=by
     have:=subN_tree (S:=vs) HV.out (dl.and I.dep) (Nat.le_refl vs.length)
     rw[HWL.out]at this
     exact this
    have wo:=OAnd_F hm1.om hln' hgn h.mem mg.1 h.cnt hsub (by have:=HR.out;have:=HPW.out;omega)
    have e8':ixF n ns1 g=ixF n ns' g:=mg.2
    rw[e8']at wo
    have hdep:=dl.and I.dep
    have N1:=fun u2 K2 ns2 h2=>LeI.next (u2:=u2) (K2:=K2) (ns2:=ns2) I HVI.out HWL.out rfl h h2 (by rw[HTB.out];rfl) hdep
    have HN1:=Lib.hid N1
    have hm1':=Lib.hid hm1
    unfold OpFC at wo
    clear N1 hdep e8' hsub hm1 mg dl hgn hln' I h wl
    generalize hA2:atC at_=A2 at hcs1
    obtain rfl:A2=A:=hA2.symm.trans HAA.out
    clear hA2
    simp only[go_sem,seval]
    (repeat'(first|refine Ctl ?_|((with_reducible refine Kof.use hK ?_);clear hK hE K E)|((with_reducible refine W_cond (fun h=>?_) (fun h=>?_))<;>(try(exfalso;assumption)))|(((with_reducible first|refine G_region fun K E hK hE=>?_|refine call_ret can39 (wq) ?_))<;>(try simp(disch:=assumption) only[go_sem,seval, *]))))
    refine call_ex can40 wo (fun a h=>?_)
    obtain⟨u2,K2,ns2⟩:=a
    have h3:=HN1.out u2 K2 ns2 h
    have h4:=h3.m.co
    rw[HAA.out]at h4
    have H3:=Lib.hid h3
    clear h h3 wo
    dsimp only
    simp only[go_sem,seval]
    (repeat'(first|refine Ctl ?_|((with_reducible refine Kof.use hK ?_);clear hK hE K E)|((with_reducible refine W_cond (fun h=>?_) (fun h=>?_))<;>(try(exfalso;assumption)))|(((with_reducible refine G_region fun K E hK hE=>?_))<;>(try simp(disch:=omega) only[go_sem,seval, *]))))
    exact⟨_,Fg.refl _,m - 1,by omega,i+1,K2,ns2,_,by omega,by omega,H3,h4,z_sl,z_sl,z_sl,z_sl,z_sl,z_sl⟩
  ·obtain rfl:i=w:=by omega
   have hI:=II.out
   have hg:=hI.fin
   rw[List.drop_eq_nil_of_le (by rw[HWL.out];exact Nat.le_refl _)]at hg
   have hg2:g=fun x=>decide (k≤numA vs x):=hg
   have hcn:=hI.cnt
   rw[HWL.out]at hcn
   have HR:Hid (OpF s KK n B ns (N+i * 2 ^ i) (fun x=>decide (k≤numA vs x)) (s',K',ns')):=Lib.hid ⟨hI.m.om,hI.pre,hg2 ▸ hI.mem,hcn,hI.kp⟩
   rw[hg2]at e8
   clear I hI hg hg2 hcn
   (repeat'(first|refine Ctl ?_|((with_reducible refine Kof.use hK ?_);clear hK hE K E)|((with_reducible refine W_cond (fun h=>?_) (fun h=>?_))<;>(try(exfalso;assumption)))|(((with_reducible refine G_region fun K E hK hE=>?_))<;>(try simp(disch:=assumption) only[go_sem,seval, *]))))
   (refine W_ret res117 hQ ?_)
   exact⟨_,_,Wk.refl _,Fg.refl _,mkA3 (K',ns') rfl HR.out⟩
def btwF (vs:List Nat)(lo hi:Nat)(x:Nat→Bool):Bool:=decide (lo≤numA vs x) && decide (numA vs x≤hi)
set_option maxHeartbeats 8000000 in
theorem Cbtw_S {s:St}{KK:OB}{q c n B d lo hi N:Nat}{vs:List Nat}{ns:List Tr}{ds:List (List UInt8×Nat)}{at_:List (List Nat)}(hC:CMem s KK q c n B ns ds at_)(hd:at_[d]?=some vs)(hv:∀v,v∈vs→v<n)(hw:vs.length≤61)(hk:lo<2 ^ vs.length)(hk2:hi<2 ^ vs.length)(hc:CntN ns N)(hB:N+(2 * vs.length+1) * 2 ^ vs.length≤B) :
  OpFC 87 [.ptr c 0,.int .i64 d,.int .i64 lo,.int .i64 hi] s KK n B ns (N+(2 * vs.length+1) * 2 ^ vs.length) (btwF vs lo hi):=by
 have hpw:0<2 ^ vs.length:=Nat.two_pow_pos _
 have hB1:N+vs.length * 2 ^ vs.length+(vs.length * 2 ^ vs.length+2 ^ vs.length)=N+(2 * vs.length+1) * 2 ^ vs.length:=by
  rw[Nat.add_mul,Nat.mul_assoc,Nat.one_mul]
  omega
 have w1:=Cleast_S hC hd hv (by omega) hk hc (by omega)
 have d1:DepF vs fun x=>decide (lo≤numA vs x):=fun x y e=>by simp only[numA_congr e]
 have hat:=atC_at hd
 have hln:(natsL vs).length=vs.length:=natsL_len
 have hco:=hC.co
 have hsh:=shl_one (k:=vs.length) (by omega)
 have hadd:IntKind.i64.wrap ((hi+1:Nat):Int)=((hi+1:Nat):Int):=by
  have:2 ^ vs.length≤2 ^ 61:=Nat.pow_le_pow_right (by omega) hw
  generalize 2 ^ vs.length=P at *
  rw[wrap_i64 (by omega) (by omega)]
 have HB1:=Lib.hid hB1
 have HB:=Lib.hid hB
 have HD:=Lib.hid hd
 have HV:=Lib.hid hv
 have HW:=Lib.hid hw
 have HC:=Lib.hid hC
 have HCN:=Lib.hid hc
 have HD1:=Lib.hid d1
 have hd0:(0:Int)≤d:=Int.natCast_nonneg _
 by_cases h5:hi+1<2 ^ vs.length
 ·have h6:¬ ((hi+1:Nat):Int)≥((2 ^ vs.length:Nat):Int):=by omega
  have HK2:=Lib.hid h5
  unfold OpFC at w1 ⊢
  clear hC hd hv hw hk hk2 hc hB hB1 hpw d1 h5
  generalize hPP:((2 ^ vs.length:Nat):Int)=P at hsh h6
  obtain⟨hi1,hHH⟩:∃z,z=((hi+1:Nat):Int):=⟨_,rfl⟩
  rw[← hHH]at hadd h6
  replace hHH:=hHH.symm
  have HHH:=Lib.hid hHH
  obtain⟨w,hLL⟩:∃w,w=vs.length:=⟨_,rfl⟩
  rw[← hLL]at hsh hln
  generalize hAA:atC at_=A at *
  have HAA:=Lib.hid hAA
  clear hPP hLL hAA
  refine G_enter Tryz.func87 rfl Tryz.ntmps87 rfl fun Q hQ hQe=>?_
  (repeat'(first|refine Ctl ?_|((with_reducible refine Kof.use hK ?_);clear hK hE K E)|(((with_reducible refine G_region fun K E hK hE=>?_))<;>(try simp(disch:=assumption) only[go_sem,seval, *]))))
  refine call_ex can117 w1 (fun a h=>?_)
  obtain⟨u1,K1,ns1⟩:=a
  have hm1:=HC.out.keep h.m h.k
  dsimp only at hm1 h ⊢
  have hcs1:=hm1.co
  rw[HAA.out]at hcs1
  have w2:=Cleast_S hm1 HD.out HV.out (by have:=HW.out;omega) HK2.out h.cnt (by have:=HB.out;have:=HB1.out;have:0<2 ^ vs.length:=Nat.two_pow_pos _;omega)
  unfold OpFC at w2
  rw[HHH.out]at w2
  have H1:=Lib.hid (And.intro h hm1)
  clear h hm1 w1
  simp only[go_sem,seval]
  (repeat'(first|refine Ctl ?_|((with_reducible refine Kof.use hK ?_);clear hK hE K E)|((with_reducible refine W_cond (fun h=>?_) (fun h=>?_))<;>(try(exfalso;assumption)))|(((with_reducible refine G_region fun K E hK hE=>?_))<;>(try simp(disch:=assumption) only[go_sem,seval,hat,hln,hsh,hadd, *]))))
  refine call_ex can117 w2 (fun a h2=>?_)
  obtain⟨u2,K2,ns2⟩:=a
  obtain⟨h,hm1⟩:=H1.out
  have hm2:=hm1.keep h2.m h2.k
  have mg:=sub_of h2.pre h.mem
  dsimp only at hm2 h2 mg ⊢
  have hcs2:=hm2.co
  rw[HAA.out]at hcs2
  have wq:=Qops_S u2 q K2.o K2.s.p hm2.qo
  have d2:DepF vs fun x=>decide (hi+1≤numA vs x):=fun x y e=>by simp only[numA_congr e]
  have hdd:=HD1.out.diff d2
  have hcn:=h2.cnt
  have wo:=ODiff_F hm2.om (HD1.out.hang HV.out) (d2.hang HV.out) mg.1 h2.mem hcn (subN_tree HV.out hdd (Nat.le_refl _)) (by have:=HB.out;have:=HB1.out;have:0<2 ^ vs.length:=Nat.two_pow_pos _;omega)
  have e1:(ixF n ns2 fun x=>decide (lo≤numA vs x))=ixF n ns1 fun x=>decide (lo≤numA vs x):=mg.2
  have e2:(fun x=>decide (lo≤numA vs x) && !decide (hi+1≤numA vs x))=btwF vs lo hi:=by
   funext x
   simp only[btwF]
   congr 1
   rw[Bool.eq_iff_iff]
   simp
   omega
  rw[e1,e2]at wo
  unfold OpFC at wo
  have HN:Hid (∀a,OpF u2 K2 n B ns2 (N+vs.length * 2 ^ vs.length+vs.length * 2 ^ vs.length+(2 ^ vs.length - 1)) (btwF vs lo hi) a→OpF s KK n B ns (N+(2 * vs.length+1) * 2 ^ vs.length) (btwF vs lo hi) a):=Lib.hid fun a h3=>by
   obtain⟨a1,a2,a3,a4,a5⟩:=OpF.trans h3 (h.k.trans h2.k) (pre_trans h.pre h2.pre)
   exact⟨a1,a2,a3,a4.mono (by have:=HB1.out;have:0<2 ^ vs.length:=Nat.two_pow_pos _;omega),a5⟩
  clear h hm1 h2 hm2 mg d2 hdd hcn e1 e2 w2
  simp only[go_sem,seval]
  (repeat'(first|refine Ctl ?_|((with_reducible refine Kof.use hK ?_);clear hK hE K E)|((with_reducible refine W_cond (fun h=>?_) (fun h=>?_))<;>(try(exfalso;assumption)))|(((with_reducible first|refine G_region fun K E hK hE=>?_|refine call_ret can39 (wq) ?_))<;>(try simp(disch:=assumption) only[go_sem,seval, *]))))
  refine call_ex can51 wo (fun a h=>?_)
  obtain⟨u3,K3,ns3⟩:=a
  have h3:=Lib.hid (HN.out _ h)
  clear h wo
  simp only[go_sem,seval]
  (repeat'(first|refine Ctl ?_|((with_reducible refine Kof.use hK ?_);clear hK hE K E)))
  (refine W_ret res87 hQ ?_)
  exact⟨_,_,Wk.refl _,Fg.refl _,mkA3 (K3,ns3) rfl h3.out⟩
 ·have h6:((hi+1:Nat):Int)≥((2 ^ vs.length:Nat):Int):=by omega
  have e2:(fun x=>decide (lo≤numA vs x))=btwF vs lo hi:=by
   funext x
   simp only[btwF]
   have:=numA_lt vs x
   have:numA vs x≤hi:=by omega
   simp[this]
  rw[e2]at w1
  unfold OpFC at w1 ⊢
  have HB1':Hid (N+vs.length * 2 ^ vs.length≤N+(2 * vs.length+1) * 2 ^ vs.length):=Lib.hid (by omega)
  clear hC hd hv hw hk hk2 hc hB hB1 hpw d1 h5 e2
  generalize hPP:((2 ^ vs.length:Nat):Int)=P at hsh h6
  obtain⟨hi1,hHH⟩:∃z,z=((hi+1:Nat):Int):=⟨_,rfl⟩
  rw[← hHH]at hadd h6
  replace hHH:=hHH.symm
  obtain⟨w,hLL⟩:∃w,w=vs.length:=⟨_,rfl⟩
  rw[← hLL]at hsh hln
  generalize hAA:atC at_=A at *
  have HAA:=Lib.hid hAA
  clear hPP hLL hAA
  refine G_enter Tryz.func87 rfl Tryz.ntmps87 rfl fun Q hQ hQe=>?_
  (repeat'(first|refine Ctl ?_|((with_reducible refine Kof.use hK ?_);clear hK hE K E)|(((with_reducible refine G_region fun K E hK hE=>?_))<;>(try simp(disch:=assumption) only[go_sem,seval, *]))))
  refine call_ex can117 w1 (fun a h=>?_)
  obtain⟨u1,K1,ns1⟩:=a
  have hm1:=HC.out.keep h.m h.k
  dsimp only at hm1 h ⊢
  have hcs1:=hm1.co
  rw[HAA.out]at hcs1
  have H1:Hid (OpF s KK n B ns (N+(2 * vs.length+1) * 2 ^ vs.length) (btwF vs lo hi) (u1,K1,ns1)):=Lib.hid ⟨h.m,h.pre,h.mem,h.cnt.mono HB1'.out,h.k⟩
  clear h hm1 w1
  simp only[go_sem,seval]
  (repeat'(first|refine Ctl ?_|((with_reducible refine Kof.use hK ?_);clear hK hE K E)|((with_reducible refine W_cond (fun h=>?_) (fun h=>?_))<;>(try(exfalso;assumption)))|(((with_reducible refine G_region fun K E hK hE=>?_))<;>(try simp(disch:=assumption) only[go_sem,seval,hat,hln,hsh,hadd, *]))))
  (refine W_ret res87 hQ ?_)
  exact⟨_,_,Wk.refl _,Fg.refl _,mkA3 (K1,ns1) rfl H1.out⟩
def badD (m:Nat)(z:Int):Bool:=decide (z<0) || decide ((m:Int)≤z)
def fixB (p:Int→Bool):List Int→Nat→Int
 |[],_=>-1
 |z::zs,i=>if p z=true then i else fixB p zs (i+1)
theorem fixB_any (p:Int→Bool):∀(zs:List Int) (i:Nat),decide (0≤fixB p zs i)=zs.any p
 |[],i=>by simp[fixB]
 |z::zs,i=>by
  have ih:=fixB_any p zs (i+1)
  by_cases h:p z=true
  ·have e:fixB p (z::zs) i=(i:Int):=if_pos h
   rw[e,List.any_cons]
   simp[h]
  ·have e:fixB p (z::zs) i=fixB p zs (i+1):=if_neg h
   rw[e,ih,List.any_cons]
   simp[h]
theorem natsL_ints (ks:List Nat):natsL ks=intsL (ks.map fun(k:Nat)=>(k:Int)):=by simp[natsL,intsL,List.map_map]
set_option maxHeartbeats 4000000 in
theorem Chas1_S (s:St)(bx c:Nat)(q:VV)(D A:List (List VV))(o1 o2:Own)(z:Int)(hb:s bx=.obj 63 [.ptr c 0])(hc:s c=.obj 132 [q,.lst D o1,.lst A o2]) :
  SRet Tryz.prog 110 [.int .i64 z,.ptr bx 0] s (.bool (badD D.length z)) s:=by
 unfold badD
 generalize hm:D.length=m at *
 by_cases h1:z<0
 ·have e:(decide (z<0) || decide ((m:Int)≤z))=true:=by simp[h1]
  rw[e]
  clear e
  refine G_enter Tryz.func110 rfl Tryz.ntmps110 rfl fun Q hQ hQe=>?_
  (repeat'(first|refine Ctl ?_|((with_reducible refine Kof.use hK ?_);clear hK hE K E)|(((with_reducible refine G_region fun K E hK hE=>?_))<;>(try simp(disch:=assumption) only[go_sem,seval, *]))))
  all_goals(refine W_ret res110 hQ ?_)
  all_goals(refine⟨_,_,Wk.of_eq ?_,?_,rfl,rfl⟩)
  all_goals first|rfl|(exact z_fg)
 ·have e:(decide (z<0) || decide ((m:Int)≤z))=decide ((m:Int)≤z):=by simp[h1]
  rw[e]
  clear e
  refine G_enter Tryz.func110 rfl Tryz.ntmps110 rfl fun Q hQ hQe=>?_
  (repeat'(first|refine Ctl ?_|((with_reducible refine Kof.use hK ?_);clear hK hE K E)|(((with_reducible refine G_region fun K E hK hE=>?_))<;>(try simp(disch:=assumption) only[go_sem,seval, *]))))
  all_goals(refine W_ret res110 hQ ?_)
  all_goals(refine⟨_,_,Wk.of_eq ?_,?_,rfl,rfl⟩)
  all_goals first|rfl|(exact z_fg)
set_option maxHeartbeats 4000000 in
theorem CixF_S (s:St)(bx c:Nat)(q:VV)(D A:List (List VV))(o1 o2 o3:Own)(zs:List Int)(hz:zs.length≤1000000)(hb:s bx=.obj 63 [.ptr c 0])(hc:s c=.obj 132 [q,.lst D o1,.lst A o2]) :
  SRet Tryz.prog 74 [.lst (intsL zs) o3,.fn 110 [.ptr bx 0]] s (.int .i64 (fixB (badD D.length) zs 0)) s:=by
 have w1:=fun z=>Chas1_S s bx c q D A o1 o2 z hb hc
 have hl:(intsL zs).length=zs.length:=intsL_len
 have hat:=fun(i:Nat) (z:Int) (h:zs[i]?=some z)=>intsL_at h
 generalize badD D.length=p at *
 have HA:=Lib.hid hat
 clear hat
 obtain⟨R,hR⟩:∃R,fixB p zs 0=R:=⟨_,rfl⟩
 rw[hR]
 have h0:Hid (fixB p (zs.drop 0) 0=R):=Lib.hid (by rw[List.drop_zero];exact hR)
 clear hR
 generalize intsL zs=L at *
 refine G_enter Tryz.func74 rfl Tryz.ntmps74 rfl fun Q hQ hQe=>?_
 (repeat'(first|refine Ctl ?_|((with_reducible refine Kof.use hK ?_);clear hK hE K E)|(((with_reducible refine G_region fun K E hK hE=>?_))<;>(try simp(disch:=assumption) only[go_sem,seval,hl, *]))))
 refine L_loop (fun m env s'=>∃(i:Nat),i≤zs.length∧m+i=zs.length∧Hid (fixB p (zs.drop i) i=R)∧s'=s∧env 0=.lst L o3∧env 1=.fn 110 [.ptr bx 0]∧env 7=.int .i64 zs.length∧env 8=.int .i64 i) zs.length
  ⟨0,by omega,by omega,h0,rfl,z_sl,z_sl,z_sl,z_sl⟩ ?_
 rintro m env s' ⟨i,hi,hm,HR,rfl,e0,e1,e7,e8⟩
 by_cases h2:i<zs.length
 ·have hx:=List.getElem?_eq_getElem h2
  have hd:=List.drop_eq_getElem_cons h2
  have hr:=HR.out
  rw[hd]at hr
  generalize zs[i]=z at *
  have hx2:=HA.out i z hx
  have w2:=w1 z
  simp only[fixB]at hr
  clear hd hx w1
  cases hp:p z
  ·rw[hp,if_neg (by simp)]at hr
   have HR2:=Lib.hid hr
   rw[hp]at w2
   clear hr hp
   (repeat'(first|refine Ctl ?_|((with_reducible refine Kof.use hK ?_);clear hK hE K E)|((with_reducible refine W_cond (fun h=>?_) (fun h=>?_))<;>(try(exfalso;assumption)))|(((with_reducible first|refine G_region fun K E hK hE=>?_|refine call_ret can110 (w2) ?_))<;>(try simp(disch:=omega) only[go_sem,seval,hx2, *]))))
   all_goals exact⟨m - 1,by omega,i+1,by omega,by omega,HR2,rfl,z_sl,z_sl,z_sl,z_sl⟩
  ·rw[hp,if_pos rfl]at hr
   subst hr
   rw[hp]at w2
   clear hp
   (repeat'(first|refine Ctl ?_|((with_reducible refine Kof.use hK ?_);clear hK hE K E)|((with_reducible refine W_cond (fun h=>?_) (fun h=>?_))<;>(try(exfalso;assumption)))|(((with_reducible first|refine G_region fun K E hK hE=>?_|refine call_ret can110 (w2) ?_))<;>(try simp(disch:=assumption) only[go_sem,seval,hx2, *]))))
   all_goals(refine W_ret res74 hQ ?_)
   all_goals(refine⟨_,_,Wk.of_eq ?_,?_,rfl,rfl⟩)
   all_goals first|rfl|(exact z_fg)
 ·have hr:=HR.out
  rw[List.drop_eq_nil_of_le (by omega)]at hr
  simp only[fixB]at hr
  subst hr
  clear HR h0
  (repeat'(first|refine Ctl ?_|((with_reducible refine Kof.use hK ?_);clear hK hE K E)|((with_reducible refine W_cond (fun h=>?_) (fun h=>?_))<;>(try(exfalso;assumption)))|(((with_reducible refine G_region fun K E hK hE=>?_))<;>(try simp(disch:=assumption) only[go_sem,seval, *]))))
  all_goals(refine W_ret res74 hQ ?_)
  all_goals(refine⟨_,_,Wk.of_eq ?_,?_,rfl,rfl⟩)
  all_goals first|rfl|(exact z_fg)
set_option maxHeartbeats 4000000 in
theorem Chas_S (s:St)(c:Nat)(q:VV)(D A:List (List VV))(o1 o2 o3:Own)(zs:List Int)(hz:zs.length≤1000000)(hc:s c=.obj 132 [q,.lst D o1,.lst A o2]) :
  SRet Tryz.prog 73 [.ptr c 0,.lst (intsL zs) o3] s (.bool (!zs.any (badD D.length))) s:=by
 have w0:=fun(t:St) (bx:Nat) (hb:t bx=.obj 63 [.ptr c 0]) (hc:t c=.obj 132 [q,.lst D o1,.lst A o2])=>CixF_S t bx c q D A o1 o2 o3 zs hz hb hc
 have hE:=fixB_any (badD D.length) zs 0
 generalize fixB (badD D.length) zs 0=R at *
 rw[← hE]
 clear hE
 have w1:∀(t:St) (bx:Nat) (hb:t bx=.obj 63 [.ptr c 0]) (hc:t c=.obj 132 [q,.lst D o1,.lst A o2]),SRet Tryz.prog 109 [.lst (intsL zs) o3,.fn 110 [.ptr bx 0]] t (.bool (decide (0≤R))) t:=fun t bx hb hc=>by
  have w:=w0 t bx hb hc
  clear w0 hz hb hc
  generalize intsL zs=L at *
  refine G_enter Tryz.func109 rfl Tryz.ntmps109 rfl fun Q hQ hQe=>?_
  (repeat'(first|refine Ctl ?_|((with_reducible refine Kof.use hK ?_);clear hK hE K E)|(((with_reducible first|refine G_region fun K E hK hE=>?_|refine call_ret can74 (w) ?_))<;>(try simp(disch:=assumption) only[go_sem,seval, *]))))
  all_goals(refine W_ret res109 hQ ?_)
  all_goals(refine⟨_,_,Wk.of_eq ?_,?_,rfl,rfl⟩)
  all_goals first|rfl|(exact z_fg)
 have hcf:s c≠.free:=by rw[hc];simp
 clear w0 hz
 generalize intsL zs=L at *
 refine G_enter Tryz.func73 rfl Tryz.ntmps73 rfl fun Q hQ hQe=>?_
 (repeat'(first|refine Ctl ?_|((with_reducible refine Kof.use hK ?_);clear hK hE K E)|((with_reducible refine W_cond (fun h=>?_) (fun h=>?_))<;>(try(exfalso;assumption)))|((first|(with_reducible first|refine G_region fun K E hK hE=>?_|refine call_ret can109 (w1 _ _ z_sl z_sl) ?_)|((with_reducible refine W_fresh (fun b hb=>?_));(try(obtain⟨_,_⟩:=nef hb hcf))))<;>(try simp(disch:=assumption) only[go_sem,seval, *]))))
 all_goals(refine W_ret res73 hQ ?_)
 all_goals(refine⟨_,_,Wk.of_eq ?_,?_,rfl,rfl⟩)
 all_goals first|rfl|(exact z_fg)
theorem mm_int (b:Bool)(x y:Int):vminmax b (.int .i64 x) (.int .i64 y)=some (.int .i64 (if b then max x y else min x y)):=by
 cases b
 ·simp only[vminmax,if_true,Bool.false_eq_true,if_false]
  congr 2
  split<;>omega
 ·simp only[vminmax,if_true]
  congr 2
  split<;>omega
structure DOk (n:Nat) (ds:List (List UInt8×Nat)) (at_:List (List Nat)):Prop where
 len:at_.length=ds.length
 lt:∀l,l∈at_→∀v,v∈l→v<n
 nd:at_.flatten.Nodup
 w:∀(d:Nat) x l,ds[d]?=some x→at_[d]?=some l→1≤x.2∧x.2≤2 ^ l.length∧x.2≤1073741824∧l.length≤30
 m:ds.length≤32
theorem DOk.get {n:Nat}{ds:List (List UInt8×Nat)}{at_:List (List Nat)}(h:DOk n ds at_){d:Nat}(hd:d<ds.length):∃nm sz l,ds[d]?=some (nm,sz)∧at_[d]?=some l∧1≤sz∧sz≤2 ^ l.length∧sz≤1073741824∧l.length≤30∧∀v,v∈l→v<n:=by
 have h1:=List.getElem?_eq_getElem hd
 have h2:=List.getElem?_eq_getElem (show d<at_.length by rw[h.len];exact hd)
 obtain⟨a,b,c,e⟩:=h.w d _ _ h1 h2
 exact⟨_,_,_,h1,h2,a,b,c,e,h.lt _ (List.getElem_mem _)⟩
theorem badD_nat {m d:Nat}:badD m (d:Int)=!decide (d<m):=by
 unfold badD
 have h1:decide ((d:Int)<0)=false:=by simp
 rw[h1,Bool.false_or]
 by_cases h:d<m
 ·simp[h]
 ·simp[h];omega
set_option maxHeartbeats 8000000 in
theorem Crng_S {s:St}{KK:OB}{q c n B d N:Nat}{lo hi:Nat}{nm:List UInt8}{sz:Nat}{vs:List Nat}{ns:List Tr}{ds:List (List UInt8×Nat)}{at_:List (List Nat)}(hC:CMem s KK q c n B ns ds at_)(hD:DOk n ds at_)(hds:ds[d]?=some (nm,sz))(hd:at_[d]?=some vs)(h1:lo≤hi)(h2:hi<sz)(hc:CntN ns N)(hB:N+(2 * vs.length+1) * 2 ^ vs.length≤B) :
  OpFC 68 [.ptr c 0,.int .i64 d,.int .i64 lo,.int .i64 hi] s KK n B ns (N+(2 * vs.length+1) * 2 ^ vs.length) (btwF vs lo hi):=by
 obtain⟨w1,w2,w3,w4⟩:=hD.w d _ _ hds hd
 dsimp only at w1 w2 w3
 have wb:=Cbtw_S (lo:=lo) (hi:=hi) hC hd (hD.lt _ (List.mem_of_getElem? hd)) (by omega) (by omega) (by omega) hc hB
 have wh:=Chas_S s c _ _ _ _ _ .full [(d:Int)] (by simp) hC.co
 have hdl:d<ds.length:=(List.getElem?_eq_some_iff.1 hds).1
 have hany:([(d:Int)]).any (badD (domsC ds).length)=false:=by
  rw[domsC_len,List.any_cons,List.any_nil,badD_nat]
  simp[hdl]
 rw[hany]at wh
 simp only[intsL,List.map_cons,List.map_nil,Bool.not_false]at wh
 have hco:=hC.co
 have hdc:=domsC_at hds
 have m1:=mm_int false lo hi
 have m2:=mm_int true lo hi
 simp only[if_true,Bool.false_eq_true,if_false]at m1 m2
 rw[show min (lo:Int) hi=lo by omega]at m1
 rw[show max (lo:Int) hi=hi by omega]at m2
 have h3:¬ (lo:Int)<0:=by omega
 have h4:¬ (hi:Int)≥sz:=by omega
 have h5:¬ (lo:Int) > hi:=by omega
 unfold OpFC at wb ⊢
 clear hC hD hds hd h1 h2 hc hB w1 w2 w3 w4 hdl hany
 dsimp only at hdc
 generalize domsC ds=D at *
 generalize atC at_=A at *
 have hd0:(0:Int)≤d:=Int.natCast_nonneg _
 refine G_enter Tryz.func68 rfl Tryz.ntmps68 rfl fun Q hQ hQe=>?_
 (repeat'(first|refine Ctl ?_|((with_reducible refine Kof.use hK ?_);clear hK hE K E)|((with_reducible refine W_cond (fun h=>?_) (fun h=>?_))<;>(try(exfalso;assumption)))|(((with_reducible first|refine G_region fun K E hK hE=>?_|refine call_ret can73 (wh) ?_))<;>(try simp(disch:=assumption) only[go_sem,seval,hdc,m1,m2, *]))))
 refine call_ex can87 wb (fun a h=>?_)
 obtain⟨u1,K1,ns1⟩:=a
 have HR:=Lib.hid h
 clear h wb
 simp only[go_sem,seval]
 (repeat'(first|refine Ctl ?_|((with_reducible refine Kof.use hK ?_);clear hK hE K E)))
 (refine W_ret res68 hQ ?_)
 exact⟨_,_,Wk.refl _,Fg.refl _,mkA3 (K1,ns1) rfl HR.out⟩
set_option maxHeartbeats 8000000 in
structure FG where
 f:FuncId
 caps:List VV
 g:(Nat→Bool)→Bool
structure AlI (s:St) (K:OB) (Z:Nat→Prop) (q c n B m k:Nat) (ns:List Tr) (ds:List (List UInt8×Nat)) (at_:List (List Nat)) (S:List Nat) (L:List FG) (N i:Nat) (s':St) (K':OB) (ns':List Tr) (g:(Nat→Bool)→Bool):Prop where
 cm:CMem s' K' q c n B ns' ds at_
 kp:OKeep s s' K K'
 pre:∃l,ns'=ns++l
 mem:treeT n g∈ns'
 cnt:CntN ns' (N+i * (m+2 ^ k))
 dep:DepF S g
 fin:g=fun x=>(L.take i).all fun e=>e.g x
theorem AlI.next {s:St}{K:OB}{Z:Nat→Prop}{q c n B m k:Nat}{ns:List Tr}{ds:List (List UInt8×Nat)}{at_:List (List Nat)}{S:List Nat}{L:List FG}{N i:Nat}{s':St}{K':OB}{ns':List Tr}{g:(Nat→Bool)→Bool}{u1 u2:St}{K1 K2:OB}{ns1 ns2:List Tr}{e:FG}
  (I:AlI s K Z q c n B m k ns ds at_ S L N i s' K' ns' g) (he:L[i]?=some e) (h1:OpF s' K' n B ns' (N+i * (m+2 ^ k)+m) e.g (u1,K1,ns1)) (h2:OpF u1 K1 n B ns1 (N+i * (m+2 ^ k)+m+(2 ^ k - 1)) (fun x=>g x && e.g x) (u2,K2,ns2)) (hd:DepF S e.g) :
  AlI s K Z q c n B m k ns ds at_ S L N (i+1) u2 K2 ns2 (fun x=>g x && e.g x):=by
 have hpw:0<2 ^ k:=Nat.two_pow_pos k
 refine⟨(I.cm.keep h1.m h1.k).keep h2.m h2.k,I.kp.trans (h1.k.trans h2.k),pre_trans I.pre (pre_trans h1.pre h2.pre),h2.mem,h2.cnt.mono ?_,I.dep.and hd,?_⟩
 ·rw[Nat.add_mul,Nat.one_mul]
  omega
 ·funext x
  rw[I.fin,List.take_add_one,he]
  simp
theorem OpFC.mono {f:FuncId}{xs:List VV}{s:St}{K:OB}{n B N1 N2:Nat}{ns:List Tr}{g:(Nat→Bool)→Bool}(h:OpFC f xs s K n B ns N1 g)(hN:N1≤N2):OpFC f xs s K n B ns N2 g:=by
 refine SCalls.mono (h:=h) ?_
 rintro w u ⟨a,rfl,rfl,h1,h2,h3,h4,h5⟩
 exact⟨a,rfl,rfl,h1,h2,h3,h4.mono hN,h5⟩
abbrev clT:TypeId:=155
structure EqI (s:St) (c o q:Nat) (KK:OB) (b3 b4 b5 b8 a b2 i:Nat) (s':St) (ow:Own) (bs:List Nat):Prop where
 keep:∀z,s z≠.free→s' z=s z
 h3:s' b3=.obj 63 [.ptr c 0]
 h4:s' b4=.obj 3 [.int .i64 a]
 h5:s' b5=.obj 3 [.int .i64 b2]
 h8:s' b8=.obj 57 [.ptr KK.o 0]
 bx:∀j x,bs[j]?=some x→s' x=.obj 3 [.int .i64 (j:Nat)]
 len:bs.length=i
 own:(i=0∧ow=.full)∨∃y,ow=.at_ y∧s' y=.vec clT 1 (i+1)∧s y=.free
theorem own_step {S:St}{o o2:Own}{n:Nat}{T:TypeId}(h:OwnOk (S.disown o) o2 (n+1)) :
  ∃y2,o2=.at_ y2∧((S.disown o).own o2 T 1 (n+1)) y2=.vec T 1 (n+1)∧(∀z,S z≠.free→(∀y,o=.at_ y→z≠y)→((S.disown o).own o2 T 1 (n+1)) z=S z)∧(S y2=.free∨o=.at_ y2):=by
 cases o2 with
 |no=>exact h.elim
 |full=>exact absurd h (by simp[OwnOk])
 |at_ y2=>
  have h2:(S.disown o) y2=.free:=h
  refine⟨y2,rfl,St.set_same _ _ _,fun z hz hy=>?_,?_⟩
  ·have e1:(S.disown o) z=S z:=by
    cases o with
    |at_ y=>exact St.set_other _ _ (hy y rfl)
    |_=>rfl
   have e2:z≠y2:=fun e=>by rw[← e,e1]at h2;exact hz h2
   exact(St.set_other _ _ e2).trans e1
  ·cases o with
   |at_ y=>
    by_cases e:y2=y
    ·exact .inr (by rw[e])
    ·left
     have:(S.set y .free) y2=.free:=h2
     rwa [St.set_other _ _ e]at this
   |_=>exact .inl h2
theorem EqI.step {s:St}{c o q:Nat}{KK:OB}{b3 b4 b5 b8 a b2 i:Nat}{s' S u:St}{ow ow2:Own}{bs:List Nat}{b:Nat}(h:EqI s c o q KK b3 b4 b5 b8 a b2 i s' ow bs)(hb:s' b=.free)(hS:S=s'.set b (.obj 3 [.int .i64 (i:Nat)]))
  (hu:∀z,S z≠.free→(∀y,ow=.at_ y→z≠y)→u z=S z) (hy:∃y2,ow2=.at_ y2∧u y2=.vec clT 1 (i+1+1)∧(S y2=.free∨ow=.at_ y2)):EqI s c o q KK b3 b4 b5 b8 a b2 (i+1) u ow2 (bs++[b]):=by
 have old:∀z,s' z≠.free→(∀T sz n,s' z≠.vec T sz n)→u z=s' z:=fun z hz hv=>by
  have e:S z=s' z:=by rw[hS];exact St.set_other _ _ (nef hb hz).1
  rw[← e]
  refine hu z (by rw[e];exact hz) fun y hy e2=>?_
  rcases h.own with ⟨_,h1⟩|⟨y',h1,h2,_⟩
  ·rw[h1]at hy;cases hy
  ·rw[h1]at hy
   injection hy with hy
   rw[e2,← hy]at hv
   exact hv _ _ _ h2
 obtain⟨y2,e1,e2,e3⟩:=hy
 refine⟨fun z hz=>?_,(old _ (by rw[h.h3];simp) (by rw[h.h3];simp)).trans h.h3,(old _ (by rw[h.h4];simp) (by rw[h.h4];simp)).trans h.h4,(old _ (by rw[h.h5];simp) (by rw[h.h5];simp)).trans h.h5,(old _ (by rw[h.h8];simp) (by rw[h.h8];simp)).trans h.h8,fun j x hj=>?_,by rw[List.length_append,h.len];rfl,.inr ⟨y2,e1,e2,?_⟩⟩
 ·have hk:=h.keep z hz
  have e:S z=s' z:=by rw[hS];exact St.set_other _ _ (nef hb (by rw[hk];exact hz)).1
  rw[← hk,← e]
  refine hu z (by rw[e,hk];exact hz) fun y hy e2=>?_
  rcases h.own with ⟨_,h1⟩|⟨y',h1,_,h3⟩
  ·rw[h1]at hy;cases hy
  ·rw[h1]at hy
   injection hy with hy
   rw[e2,← hy]at hz
   exact hz h3
 ·rcases Nat.lt_or_ge j bs.length with hl|hl
  ·rw[List.getElem?_append_left hl]at hj
   have h1:=h.bx j x hj
   exact(old _ (by rw[h1];simp) (by rw[h1];simp)).trans h1
  ·rw[List.getElem?_append_right hl]at hj
   have hj0:j - bs.length=0:=by
    have:=(List.getElem?_eq_some_iff.1 hj).1
    simp at this
    exact this
   rw[hj0]at hj
   simp at hj
   subst hj
   have hji:j=i:=by rw[← h.len];omega
   have hSb:S b=.obj 3 [.int .i64 (i:Nat)]:=by rw[hS];exact St.set_same _ _ _
   rw[hji,← hSb]
   refine hu b (by rw[hSb];simp) fun y hy e2=>?_
   rcases h.own with ⟨_,h1⟩|⟨y',h1,h2,h3⟩
   ·rw[h1]at hy;cases hy
   ·rw[h1]at hy
    injection hy with hy
    rw[e2,← hy,h2]at hb
    cases hb
 ·rcases e3 with e|e
  ·by_cases hf:s y2=.free
   ·exact hf
   ·have hk:=h.keep y2 hf
    have e4:S y2=s' y2:=by rw[hS];exact St.set_other _ _ (nef hb (by rw[hk];exact hf)).1
    rw[e4,hk]at e
    exact absurd e hf
  ·rcases h.own with ⟨_,h1⟩|⟨y',h1,_,h3⟩
   ·rw[h1]at e;cases e
   ·rw[h1]at e
    injection e with e
    rw[← e]
    exact h3
abbrev BF:=(Nat→Bool)→Bool
def Is (n:Nat)(ns:List Tr)(g:BF)(k:Nat):Prop:=treeT n g∈ns∧ixF n ns g=k
structure Ch (s:St) (K:OB) (q c n B:Nat) (ns:List Tr) (ds:List (List UInt8×Nat)) (at_:List (List Nat)) (s':St) (K':OB) (ns':List Tr) (N':Nat):Prop where
 cm:CMem s' K' q c n B ns' ds at_
 kp:OKeep s s' K K'
 pre:∃l,ns'=ns++l
 cnt:CntN ns' N'
abbrev OiA:=St×OB×List Tr×Nat
structure OiR (s:St) (K:OB) (q c n B:Nat) (ns:List Tr) (ds:List (List UInt8×Nat)) (at_:List (List Nat)) (ns':List Tr) (N2:Nat) (g:BF) (a:OiA):Prop where
 ch:Ch s K q c n B ns ds at_ a.1 a.2.1 a.2.2.1 N2
 is:Is n a.2.2.1 g a.2.2.2
 on:∀f k,Is n ns' f k→Is n a.2.2.1 f k
section
variable {s : St} {K : OB} {q c n B : Nat} {ns : List Tr} {ds : List (List UInt8 × Nat)} {at_ : List (List Nat)} {s' : St} {K' : OB} {ns' : List Tr} {N' N2 : Nat} {f g : BF} {kf kg k : Nat} {S : List Nat}
theorem Ch.refl (h:CMem s K q c n B ns ds at_)(hc:CntN ns N'):Ch s K q c n B ns ds at_ s K ns N':=⟨h,.refl _ _,⟨[],by simp⟩,hc⟩
theorem Ch.mono (h:Ch s K q c n B ns ds at_ s' K' ns' N')(hN:N'≤N2):Ch s K q c n B ns ds at_ s' K' ns' N2:=⟨h.cm,h.kp,h.pre,h.cnt.mono hN⟩
theorem Is.on {ns1:List Tr}(h:Is n ns' f k)(hp:∃l,ns1=ns'++l):Is n ns1 f k:=by
 obtain⟨a,b⟩:=sub_of hp h.1
 exact⟨a,(show ixF n ns1 f=ixF n ns' f from b).trans h.2⟩
theorem Ch.fin (h:Ch s K q c n B ns ds at_ s' K' ns' N')(hi:Is n ns' g k):OpF s K n B ns N' g (s',K',ns')∧ixF n ns' g=k:=⟨⟨h.cm.om,h.pre,hi.1,h.cnt,h.kp⟩,hi.2⟩
variable (hc : Ch s K q c n B ns ds at_ s' K' ns' N') (hS : ∀ v, v ∈ S → v < n) (hk : S.length ≤ k) (hf : Is n ns' f kf) (hg : Is n ns' g kg) (df : DepF S f) (dg : DepF S g)
include hc hS hk hf df
include hg dg
end
theorem Is.zero {s:St}{K:OB}{n B:Nat}{ns:List Tr}(h:OMem s K n B ns):Is n ns (fun _=>false) 0:=⟨h.c0.1.1,h.c0.1.2⟩
theorem Is.one {s:St}{K:OB}{n B:Nat}{ns:List Tr}(h:OMem s K n B ns):Is n ns (fun _=>true) 1:=⟨h.c0.2.1,h.c0.2.2⟩
def addP (w:Nat)(more:Int):Nat:=(more % 2 ^ w).toNat
theorem addP_lt (w:Nat)(more:Int):addP w more<2 ^ w:=by
 unfold addP
 have h1:=Int.emod_lt_of_pos more (show (0:Int)<2 ^ w by exact Int.pow_pos (by omega))
 have h2:=Int.emod_nonneg more (show (2:Int) ^ w≠0 by exact Int.ne_of_gt (Int.pow_pos (by omega)))
 have hp:((2:Int) ^ w)=((2 ^ w:Nat):Int):=by simp
 rw[hp]at h1 h2
 omega
theorem and_low {w:Nat}(hw:w≤61)(more:Int):vint .and .i64 more (IntKind.i64.wrap (((2 ^ w:Nat):Int) - 1))=some (.int .i64 (addP w more:Nat)):=by
 have hp:((2:Int) ^ w)=((2 ^ w:Nat):Int):=by simp
 have hle:2 ^ w≤2 ^ 61:=Nat.pow_le_pow_right (by omega) hw
 have hpos:0<2 ^ w:=Nat.two_pow_pos w
 have e:IntKind.i64.wrap (((2 ^ w:Nat):Int) - 1)=2 ^ w - 1:=by
  rw[hp]
  generalize 2 ^ w=P at *
  rw[wrap_i64 (by omega) (by omega)]
 show some (VV.int .i64 (bAnd .i64 more _))=_
 rw[e,bAnd_low more w (by omega)]
 unfold addP
 have h2:=Int.emod_nonneg more (show (2:Int) ^ w≠0 by exact Int.ne_of_gt (Int.pow_pos (by omega)))
 congr 2
 omega
end Go.Proofs.YtohnaepcgnbaiaaGreatDoor
