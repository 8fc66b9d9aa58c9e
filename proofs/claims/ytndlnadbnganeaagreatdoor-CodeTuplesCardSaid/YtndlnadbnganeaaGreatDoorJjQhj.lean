/- Walks of functions that the claim reaches, and plain facts of them. Conditions: those in the statements. -/
import Derived.Test.YtndlnadbnganeaaGreatDoorJjQbj
set_option linter.unusedSimpArgs false
set_option linter.unusedVariables false
set_option maxRecDepth 100000
namespace Go.Proofs.YtndlnadbnganeaaGreatDoor
open Go.RowKit
def carF (a b:List Nat)(p i:Nat)(x:Nat→Bool):Bool:=(sumL a b p x i).1
def outF (a b:List Nat)(p i:Nat)(x:Nat→Bool):Bool:=(sumL a b p x i).2
theorem sumL_dep {S a b:List Nat}{p:Nat}(ha:∀v,v∈a→v∈S)(hb:∀v,v∈b→v∈S){x y:Nat→Bool}(e:∀v,v∈S→x v=y v):∀i,sumL a b p x i=sumL a b p y i
 |0=>rfl
 |i+1=>by simp only[sumL];rw[sumL_dep ha hb e i,bitF_dep ha x y e,bitF_dep hb x y e]
theorem car_next {a b:List Nat}{p i:Nat}:carF a b p (i+1)=if p.testBit i=true then fun x=>bitF a i x || carF a b p i x else fun x=>bitF a i x && carF a b p i x:=by
 funext x
 cases h:p.testBit i<;>simp[carF,sumL,sumS,h]
theorem out_next {a b:List Nat}{p i:Nat}:outF a b p (i+1)=fun x=>outF a b p i x && ((if p.testBit i=true then bitF a i x ^^ carF a b p i x else !(bitF a i x ^^ carF a b p i x)) ^^ bitF b i x):=by
 funext x
 cases h:p.testBit i<;>simp[carF,outF,sumL,sumS,h]
def SumR (k i:Nat):Nat:=i * (8 * 2 ^ k)
set_option maxHeartbeats 16000000 in
theorem Csum_S {s:St}{KK:OB}{q c n B a a2 p w k N:Nat}{va vb:List Nat}{ns:List Tr}{ds:List (List UInt8×Nat)}{at_:List (List Nat)}(hC:CMem s KK q c n B ns ds at_)(ha:at_[a]?=some va)(hb:at_[a2]?=some vb)(hva:∀v,v∈va→v<n)(hvb:∀v,v∈vb→v<n)(hk:(va++vb).length≤k)(hk1:1≤k)(hw:w≤100)(hc:CntN ns N)(hB:N+SumR k w≤B) :
  OpFC 46 [.ptr c 0,.int .i64 a,.int .i64 a2,.lst (bitsL p w) .no] s KK n B ns (N+SumR k w) (outF va vb p w):=by
 have hC0:=Ch.refl hC hc
 have z0:Is n ns (carF va vb p 0) 0:=Is.zero hC.om
 have z1:Is n ns (outF va vb p 0) 1:=Is.one hC.om
 have wq:=Qops_S s q KK.o KK.s.p hC.qo
 have hco:=hC.co
 have hl2:(bitsL p w).length=w:=bitsL_len
 have hb1:=fun(j:Nat) (h:j<w)=>bitsL_at (n:=p) h
 have hS:∀v,v∈va++vb→v<n:=fun v hv=>(List.mem_append.1 hv).elim (hva v) (hvb v)
 have inA:∀v,v∈va→v∈va++vb:=fun v h=>List.mem_append_left _ h
 have inB:∀v,v∈vb→v∈va++vb:=fun v h=>List.mem_append_right _ h
 have dC:∀i,DepF (va++vb) (carF va vb p i):=fun i x y e=>by simp only[carF,sumL_dep inA inB e]
 have dO:∀i,DepF (va++vb) (outF va vb p i):=fun i x y e=>by simp only[outF,sumL_dep inA inB e]
 have HI:=Lib.hid (And.intro hC0 (And.intro z0 z1))
 have HD:=Lib.hid (And.intro dC dO)
 have HA:=Lib.hid (And.intro ha hva)
 have HB:=Lib.hid (And.intro hb hvb)
 have HS:=Lib.hid (And.intro hS (And.intro hk hk1))
 have HIN:=Lib.hid (And.intro inA inB)
 have HRM:=Lib.hid hB
 have HB1:=Lib.hid hb1
 unfold OpFC
 clear hC ha hb hva hvb hk hk1 hc hB hC0 z0 z1 hb1 hS inA inB dC dO
 generalize bitsL p w=L at *
 refine G_enter Tryz.func46 rfl Tryz.ntmps46 rfl fun Q hQ hQe=>?_
 (repeat'(first|refine Ctl ?_|((with_reducible refine Kof.use hK ?_);clear hK hE K E)|(((with_reducible first|refine G_region fun K E hK hE=>?_|refine call_ret can18 (wq) ?_))<;>(try simp(disch:=assumption) only[go_sem,seval,hl2, *]))))
 clear wq hco
 refine G_loop (fun m env s'=>∃(i:Nat) (K':OB) (ns':List Tr) (kc ko:Nat),i≤w∧m+i=w∧Hid (Ch s KK q c n B ns ds at_ s' K' ns' (N+SumR k i)∧Is n ns' (carF va vb p i) kc∧Is n ns' (outF va vb p i) ko)∧env 0=.ptr c 0∧env 1=.int .i64 a∧env 2=.int .i64 a2∧env 10=.ptr KK.o 0∧env 11=.int .i64 kc∧env 12=.int .i64 ko∧env 27=.lst L .no∧env 28=.int .i64 w∧env 29=.int .i64 i) w ?_ ?_
 ·exact⟨_,Fg.refl _,0,KK,ns,0,1,by omega,by omega,Lib.hid ⟨HI.out.1.mono (by omega),HI.out.2⟩,z_sl,z_sl,z_sl,z_sl,z_sl,z_sl,z_sl,z_sl,z_sl⟩
 clear HI
 rintro m env s' ⟨i,K',ns',kc,ko,hi,hm,HE,e0,e1,e2,e10,e11,e12,e27,e28,e29⟩
 by_cases h7:i<w
 ·have hx:=HB1.out i h7
  have hpw:2≤2 ^ k:=by
   have:=Nat.pow_le_pow_right (show 0<2 by omega) HS.out.2.2
   simpa using this
  have hroom:N+SumR k i+8 * 2 ^ k≤B:=by
   have h1:SumR k i+8 * 2 ^ k=SumR k (i+1):=by unfold SumR;rw[Nat.add_mul,Nat.one_mul]
   have h2:SumR k (i+1)≤SumR k w:=Nat.mul_le_mul_right _ h7
   have:=HRM.out
   omega
  have HR:=Lib.hid hroom
  have HPW:=Lib.hid hpw
  have wx:=Cbit_S (j:=i) HE.out.1.cm HA.out.1 HA.out.2 HE.out.1.cnt (by omega)
  replace wx:=wx.toI HE.out.1
  unfold OpI at wx
  clear hroom hpw
  (repeat'(first|refine Ctl ?_|((with_reducible refine Kof.use hK ?_);clear hK hE K E)|((with_reducible refine W_cond (fun h=>?_) (fun h=>?_))<;>(try(exfalso;assumption)))|(((with_reducible refine G_region fun K E hK hE=>?_))<;>(try simp(disch:=assumption) only[go_sem,seval,hx, *]))))
  refine call_ex can75 wx (fun a h=>?_)
  obtain⟨u1,K1,ns1,kx⟩:=a
  dsimp only at h ⊢
  have H1:=Lib.hid (show Ch s KK q c n B ns ds at_ u1 K1 ns1 (N+SumR k i+1)∧Is n ns1 (carF va vb p i) kc∧Is n ns1 (outF va vb p i) ko∧Is n ns1 (bitF va i) kx from ⟨h.ch,h.on _ _ HE.out.2.1,h.on _ _ HE.out.2.2,h.is⟩)
  clear h wx
  have wy:=Cbit_S (j:=i) H1.out.1.cm HB.out.1 HB.out.2 H1.out.1.cnt (by have:=HR.out;have:=HPW.out;omega)
  replace wy:=wy.toI H1.out.1
  unfold OpI at wy
  simp only[go_sem,seval]
  (repeat'(first|refine Ctl ?_|((with_reducible refine Kof.use hK ?_);clear hK hE K E)|(((with_reducible refine G_region fun K E hK hE=>?_))<;>(try simp(disch:=assumption) only[go_sem,seval, *]))))
  refine call_ex can75 wy (fun a h=>?_)
  obtain⟨u2,K2,ns2,ky⟩:=a
  dsimp only at h ⊢
  have H2:=Lib.hid (show Ch s KK q c n B ns ds at_ u2 K2 ns2 (N+SumR k i+1+1)∧Is n ns2 (carF va vb p i) kc∧Is n ns2 (outF va vb p i) ko∧Is n ns2 (bitF va i) kx∧Is n ns2 (bitF vb i) ky from ⟨h.ch,h.on _ _ H1.out.2.1,h.on _ _ H1.out.2.2.1,h.on _ _ H1.out.2.2.2,h.is⟩)
  clear h wy
  have ws:=Xor_I H2.out.1 HS.out.1 HS.out.2.1 H2.out.2.2.2.1 H2.out.2.1 (bitF_dep HIN.out.1) (HD.out.1 i) (by have:=HR.out;have:=HPW.out;omega)
  unfold OpI at ws
  simp only[go_sem,seval]
  (repeat'(first|refine Ctl ?_|((with_reducible refine Kof.use hK ?_);clear hK hE K E)|((with_reducible refine W_cond (fun h=>?_) (fun h=>?_))<;>(try(exfalso;assumption)))|(((with_reducible refine G_region fun K E hK hE=>?_))<;>(try simp(disch:=assumption) only[go_sem,seval, *]))))
  refine call_ex can39 ws (fun a h=>?_)
  obtain⟨u3,K3,ns3,ks⟩:=a
  dsimp only at h ⊢
  have H3:=Lib.hid (show Ch s KK q c n B ns ds at_ u3 K3 ns3 (N+SumR k i+1+1+2 * 2 ^ k)∧Is n ns3 (carF va vb p i) kc∧Is n ns3 (outF va vb p i) ko∧Is n ns3 (bitF va i) kx∧Is n ns3 (bitF vb i) ky∧Is n ns3 (fun x=>bitF va i x ^^ carF va vb p i x) ks from ⟨h.ch,h.on _ _ H2.out.2.1,h.on _ _ H2.out.2.2.1,h.on _ _ H2.out.2.2.2.1,h.on _ _ H2.out.2.2.2.2,h.is⟩)
  clear h ws
  have dS:DepF (va++vb) (fun x=>bitF va i x ^^ carF va vb p i x):=DepF.xor (bitF_dep HIN.out.1) (HD.out.1 i)
  have HDS:=Lib.hid dS
  clear dS
  cases htb:p.testBit i
  ·rw[htb]at hx
   have HTB:=Lib.hid htb
   clear htb
   have wn:=And_I H3.out.1 HS.out.1 HS.out.2.1 H3.out.2.2.2.1 H3.out.2.1 (bitF_dep HIN.out.1) (HD.out.1 i) (by have:=HR.out;have:=HPW.out;omega)
   unfold OpI at wn
   simp only[go_sem,seval]
   (repeat'(first|refine Ctl ?_|((with_reducible refine Kof.use hK ?_);clear hK hE K E)|((with_reducible refine W_cond (fun h=>?_) (fun h=>?_))<;>(try(exfalso;assumption)))|(((with_reducible refine G_region fun K E hK hE=>?_))<;>(try simp(disch:=assumption) only[go_sem,seval, *]))))
   refine call_ex can23 wn (fun a h=>?_)
   obtain⟨u4,K4,ns4,kn⟩:=a
   dsimp only at h ⊢
   have H4:=Lib.hid (show Ch s KK q c n B ns ds at_ u4 K4 ns4 (N+SumR k i+1+1+2 * 2 ^ k+2 ^ k)∧Is n ns4 (outF va vb p i) ko∧Is n ns4 (bitF vb i) ky∧Is n ns4 (fun x=>bitF va i x ^^ carF va vb p i x) ks∧Is n ns4 (fun x=>bitF va i x && carF va vb p i x) kn from ⟨h.ch,h.on _ _ H3.out.2.2.1,h.on _ _ H3.out.2.2.2.2.1,h.on _ _ H3.out.2.2.2.2.2,h.is⟩)
   clear h wn
   simp only[go_sem,seval]
   have wt:=Not_I H4.out.1 HS.out.1 HS.out.2.1 H4.out.2.2.2.1 HDS.out (by have:=HR.out;have:=HPW.out;omega)
   unfold OpI at wt
   (repeat'(first|refine Ctl ?_|((with_reducible refine Kof.use hK ?_);clear hK hE K E)|((with_reducible refine W_cond (fun h=>?_) (fun h=>?_))<;>(try(exfalso;assumption)))|(((with_reducible refine G_region fun K E hK hE=>?_))<;>(try simp(disch:=assumption) only[go_sem,seval, *]))))
   refine call_ex can76 wt (fun a h=>?_)
   obtain⟨u5,K5,ns5,kt⟩:=a
   dsimp only at h ⊢
   have H5:=Lib.hid (show Ch s KK q c n B ns ds at_ u5 K5 ns5 (N+SumR k i+1+1+2 * 2 ^ k+2 ^ k+2 ^ k)∧Is n ns5 (outF va vb p i) ko∧Is n ns5 (bitF vb i) ky∧Is n ns5 (fun x=>bitF va i x && carF va vb p i x) kn∧Is n ns5 (fun x=>!(bitF va i x ^^ carF va vb p i x)) kt from ⟨h.ch,h.on _ _ H4.out.2.1,h.on _ _ H4.out.2.2.1,h.on _ _ H4.out.2.2.2.2,h.is⟩)
   clear h wt
   simp only[go_sem,seval]
   have wm:=Xor_I H5.out.1 HS.out.1 HS.out.2.1 H5.out.2.2.2.2 H5.out.2.2.1 HDS.out.not (bitF_dep HIN.out.2) (by have:=HR.out;have:=HPW.out;omega)
   unfold OpI at wm
   (repeat'(first|refine Ctl ?_|((with_reducible refine Kof.use hK ?_);clear hK hE K E)|((with_reducible refine W_cond (fun h=>?_) (fun h=>?_))<;>(try(exfalso;assumption)))|(((with_reducible refine G_region fun K E hK hE=>?_))<;>(try simp(disch:=assumption) only[go_sem,seval, *]))))
   refine call_ex can39 wm (fun a h=>?_)
   obtain⟨u6,K6,ns6,km⟩:=a
   dsimp only at h ⊢
   have H6:=Lib.hid (show Ch s KK q c n B ns ds at_ u6 K6 ns6 (N+SumR k i+1+1+2 * 2 ^ k+2 ^ k+2 ^ k+2 * 2 ^ k)∧Is n ns6 (outF va vb p i) ko∧Is n ns6 (fun x=>bitF va i x && carF va vb p i x) kn∧Is n ns6 (fun x=>(!(bitF va i x ^^ carF va vb p i x)) ^^ bitF vb i x) km from ⟨h.ch,h.on _ _ H5.out.2.1,h.on _ _ H5.out.2.2.2.1,h.is⟩)
   clear h wm
   have wo:=And_I H6.out.1 HS.out.1 HS.out.2.1 H6.out.2.1 H6.out.2.2.2 (HD.out.2 i) (HDS.out.not.xor (bitF_dep HIN.out.2)) (by have:=HR.out;have:=HPW.out;omega)
   unfold OpI at wo
   simp only[go_sem,seval]
   (repeat'(first|refine Ctl ?_|((with_reducible refine Kof.use hK ?_);clear hK hE K E)|((with_reducible refine W_cond (fun h=>?_) (fun h=>?_))<;>(try(exfalso;assumption)))|(((with_reducible refine G_region fun K E hK hE=>?_))<;>(try simp(disch:=assumption) only[go_sem,seval, *]))))
   refine call_ex can23 wo (fun a h=>?_)
   obtain⟨u7,K7,ns7,kr⟩:=a
   dsimp only at h ⊢
   have HF:Hid (Ch s KK q c n B ns ds at_ u7 K7 ns7 (N+SumR k (i+1))∧Is n ns7 (carF va vb p (i+1)) kn∧Is n ns7 (outF va vb p (i+1)) kr):=Lib.hid ⟨h.ch.mono (by unfold SumR;rw[Nat.add_mul,Nat.one_mul];have:=HPW.out;omega),by rw[car_next,HTB.out];exact h.on _ _ H6.out.2.2.1,by rw[out_next,HTB.out];exact h.is⟩
   clear h wo
   simp only[go_sem,seval]
   (repeat'(first|refine Ctl ?_|((with_reducible refine Kof.use hK ?_);clear hK hE K E)|((with_reducible refine W_cond (fun h=>?_) (fun h=>?_))<;>(try(exfalso;assumption)))|(((with_reducible refine G_region fun K E hK hE=>?_))<;>(try simp(disch:=omega) only[go_sem,seval, *]))))
   exact⟨_,Fg.refl _,m - 1,by omega,i+1,K7,ns7,kn,kr,by omega,by omega,HF,z_sl,z_sl,z_sl,z_sl,z_sl,z_sl,z_sl,z_sl,z_sl⟩
  ·rw[htb]at hx
   have HTB:=Lib.hid htb
   clear htb
   have wn:=Or_I H3.out.1 HS.out.1 HS.out.2.1 H3.out.2.2.2.1 H3.out.2.1 (bitF_dep HIN.out.1) (HD.out.1 i) (by have:=HR.out;have:=HPW.out;omega)
   unfold OpI at wn
   simp only[go_sem,seval]
   (repeat'(first|refine Ctl ?_|((with_reducible refine Kof.use hK ?_);clear hK hE K E)|((with_reducible refine W_cond (fun h=>?_) (fun h=>?_))<;>(try(exfalso;assumption)))|(((with_reducible refine G_region fun K E hK hE=>?_))<;>(try simp(disch:=assumption) only[go_sem,seval, *]))))
   refine call_ex can19 wn (fun a h=>?_)
   obtain⟨u4,K4,ns4,kn⟩:=a
   dsimp only at h ⊢
   have H4:=Lib.hid (show Ch s KK q c n B ns ds at_ u4 K4 ns4 (N+SumR k i+1+1+2 * 2 ^ k+2 ^ k)∧Is n ns4 (outF va vb p i) ko∧Is n ns4 (bitF vb i) ky∧Is n ns4 (fun x=>bitF va i x ^^ carF va vb p i x) ks∧Is n ns4 (fun x=>bitF va i x || carF va vb p i x) kn from ⟨h.ch,h.on _ _ H3.out.2.2.1,h.on _ _ H3.out.2.2.2.2.1,h.on _ _ H3.out.2.2.2.2.2,h.is⟩)
   clear h wn
   simp only[go_sem,seval]
   have wm:=Xor_I H4.out.1 HS.out.1 HS.out.2.1 H4.out.2.2.2.1 H4.out.2.2.1 HDS.out (bitF_dep HIN.out.2) (by have:=HR.out;have:=HPW.out;omega)
   unfold OpI at wm
   (repeat'(first|refine Ctl ?_|((with_reducible refine Kof.use hK ?_);clear hK hE K E)|((with_reducible refine W_cond (fun h=>?_) (fun h=>?_))<;>(try(exfalso;assumption)))|(((with_reducible refine G_region fun K E hK hE=>?_))<;>(try simp(disch:=assumption) only[go_sem,seval, *]))))
   refine call_ex can39 wm (fun a h=>?_)
   obtain⟨u6,K6,ns6,km⟩:=a
   dsimp only at h ⊢
   have H6:=Lib.hid (show Ch s KK q c n B ns ds at_ u6 K6 ns6 (N+SumR k i+1+1+2 * 2 ^ k+2 ^ k+2 * 2 ^ k)∧Is n ns6 (outF va vb p i) ko∧Is n ns6 (fun x=>bitF va i x || carF va vb p i x) kn∧Is n ns6 (fun x=>(bitF va i x ^^ carF va vb p i x) ^^ bitF vb i x) km from ⟨h.ch,h.on _ _ H4.out.2.1,h.on _ _ H4.out.2.2.2.2,h.is⟩)
   clear h wm
   have wo:=And_I H6.out.1 HS.out.1 HS.out.2.1 H6.out.2.1 H6.out.2.2.2 (HD.out.2 i) (HDS.out.xor (bitF_dep HIN.out.2)) (by have:=HR.out;have:=HPW.out;omega)
   unfold OpI at wo
   simp only[go_sem,seval]
   (repeat'(first|refine Ctl ?_|((with_reducible refine Kof.use hK ?_);clear hK hE K E)|((with_reducible refine W_cond (fun h=>?_) (fun h=>?_))<;>(try(exfalso;assumption)))|(((with_reducible refine G_region fun K E hK hE=>?_))<;>(try simp(disch:=assumption) only[go_sem,seval, *]))))
   refine call_ex can23 wo (fun a h=>?_)
   obtain⟨u7,K7,ns7,kr⟩:=a
   dsimp only at h ⊢
   have HF:Hid (Ch s KK q c n B ns ds at_ u7 K7 ns7 (N+SumR k (i+1))∧Is n ns7 (carF va vb p (i+1)) kn∧Is n ns7 (outF va vb p (i+1)) kr):=Lib.hid ⟨h.ch.mono (by unfold SumR;rw[Nat.add_mul,Nat.one_mul];have:=HPW.out;omega),by rw[car_next,HTB.out];exact h.on _ _ H6.out.2.2.1,by rw[out_next,HTB.out];exact h.is⟩
   clear h wo
   simp only[go_sem,seval]
   (repeat'(first|refine Ctl ?_|((with_reducible refine Kof.use hK ?_);clear hK hE K E)|((with_reducible refine W_cond (fun h=>?_) (fun h=>?_))<;>(try(exfalso;assumption)))|(((with_reducible refine G_region fun K E hK hE=>?_))<;>(try simp(disch:=omega) only[go_sem,seval, *]))))
   exact⟨_,Fg.refl _,m - 1,by omega,i+1,K7,ns7,kn,kr,by omega,by omega,HF,z_sl,z_sl,z_sl,z_sl,z_sl,z_sl,z_sl,z_sl,z_sl⟩
 ·obtain rfl:i=w:=by omega
  have hf:=HE.out.1.fin HE.out.2.2
  have HF:=Lib.hid hf
  clear hf HE
  (repeat'(first|refine Ctl ?_|((with_reducible refine Kof.use hK ?_);clear hK hE K E)|((with_reducible refine W_cond (fun h=>?_) (fun h=>?_))<;>(try(exfalso;assumption)))|(((with_reducible refine G_region fun K E hK hE=>?_))<;>(try simp(disch:=assumption) only[go_sem,seval, *]))))
  (refine W_ret res46 hQ ?_)
  exact⟨_,_,Wk.refl _,Fg.refl _,mkA3 (K',ns') (by rw[HF.out.2]) HF.out.1⟩
def addLo (more:Int):Int:=max 0 (-more)
def addHi (sa sb:Nat)(more:Int):Int:=min ((sa:Int) - 1) ((sb:Int) - 1 - more)
def addP (w:Nat)(more:Int):Nat:=(more % 2 ^ w).toNat
theorem addP_lt (w:Nat)(more:Int):addP w more<2 ^ w:=by
 unfold addP
 have h1:=Int.emod_lt_of_pos more (show (0:Int)<2 ^ w by exact Int.pow_pos (by omega))
 have h2:=Int.emod_nonneg more (show (2:Int) ^ w≠0 by exact Int.ne_of_gt (Int.pow_pos (by omega)))
 have hp:((2:Int) ^ w)=((2 ^ w:Nat):Int):=by simp
 rw[hp]at h1 h2
 omega
theorem and_low {w:Nat}(hw:w≤61)(more:Int):vint .and .i64 more (IntKind.i64.wrap (((2 ^ w:Nat):Int) - 1))=some (.int .i64 (addP w more:Nat)):=by
 have hp:((2:Int) ^ w)=((2 ^ w:Nat):Int):=by simp
 have hle:2 ^ w≤2 ^ 61:=Nat.pow_le_pow_right (by omega) hw
 have hpos:0<2 ^ w:=Nat.two_pow_pos w
 have e:IntKind.i64.wrap (((2 ^ w:Nat):Int) - 1)=2 ^ w - 1:=by
  rw[hp]
  generalize 2 ^ w=P at *
  rw[wrap_i64 (by omega) (by omega)]
 show some (VV.int .i64 (bAnd .i64 more _))=_
 rw[e,bAnd_low more w (by omega)]
 unfold addP
 have h2:=Int.emod_nonneg more (show (2:Int) ^ w≠0 by exact Int.ne_of_gt (Int.pow_pos (by omega)))
 congr 2
 omega
set_option maxHeartbeats 16000000 in
theorem Cadd_S {s:St}{KK:OB}{q c n B a a2 sa sb N k:Nat}{more:Int}{nma nmb:List UInt8}{va vb:List Nat}{ns:List Tr}{ds:List (List UInt8×Nat)}{at_:List (List Nat)}(hC:CMem s KK q c n B ns ds at_)(hD:DOk n ds at_)(hda:ds[a]?=some (nma,sa))(hdb:ds[a2]?=some (nmb,sb))(ha:at_[a]?=some va)(hb:at_[a2]?=some vb)(hne:¬ a=a2)(hm1:-1073741824≤more)(hm2:more≤1073741824)(hlh:addLo more≤addHi sa sb more)(hk:(va++vb).length≤k)(hk1:1≤k)(hc:CntN ns N)
  (hB:N+((2 * va.length+1) * 2 ^ va.length+SumR k (max va.length vb.length)+2 ^ k)≤B) :
  OpFC 24 [.ptr c 0,.int .i64 a,.int .i64 a2,.int .i64 more] s KK n B ns (N+((2 * va.length+1) * 2 ^ va.length+SumR k (max va.length vb.length)+2 ^ k)) (fun x=>btwF va (addLo more).toNat (addHi sa sb more).toNat x && outF va vb (addP (max va.length vb.length) more) (max va.length vb.length) x):=by
 have wh:=Chas_S s c _ _ _ _ _ .full [(a:Int),(a2:Int)] (by simp) hC.co
 have hal:a<ds.length:=(List.getElem?_eq_some_iff.1 hda).1
 have hbl:a2<ds.length:=(List.getElem?_eq_some_iff.1 hdb).1
 have hany:([(a:Int),(a2:Int)]).any (badD (domsC ds).length)=false:=by
  rw[domsC_len,List.any_cons,List.any_cons,List.any_nil,badD_nat,badD_nat]
  simp[hal,hbl]
 rw[hany]at wh
 simp only[intsL,List.map_cons,List.map_nil,Bool.not_false]at wh
 obtain⟨w1,w2,w3,w4⟩:=hD.w a _ _ hda ha
 obtain⟨y1,y2,y3,y4⟩:=hD.w a2 _ _ hdb hb
 dsimp only at w1 w2 w3 y1 y2 y3
 have hva:=hD.lt _ (List.mem_of_getElem? ha)
 have hvb:=hD.lt _ (List.mem_of_getElem? hb)
 have hpk:0<2 ^ k:=Nat.two_pow_pos k
 have l0:(0:Int)≤addLo more:=by unfold addLo;omega
 have l1:addHi sa sb more<sa:=by unfold addHi;omega
 have eLo:(((addLo more).toNat:Nat):Int)=addLo more:=by omega
 have eHi:(((addHi sa sb more).toNat:Nat):Int)=addHi sa sb more:=by omega
 have wb:=(Cbtw_S (lo:=(addLo more).toNat) (hi:=(addHi sa sb more).toNat) hC ha hva (by omega) (by omega) (by omega) hc (by omega)).toI (Ch.refl hC hc)
 rw[eLo,eHi]at wb
 have wp:=fun s=>Bput_S s (addP (max va.length vb.length) more) (max va.length vb.length) (by omega) (addP_lt _ _)
 have hand:=and_low (w:=max va.length vb.length) (by omega) more
 have hshl:=shl_one (k:=max va.length vb.length) (by omega)
 have hco:=hC.co
 have hca:=domsC_at hda
 have hcb:=domsC_at hdb
 have hat:=atC_at ha
 have hbt:=atC_at hb
 have hln:(natsL va).length=va.length:=natsL_len
 have hlm:(natsL vb).length=vb.length:=natsL_len
 have hne2:¬ (a:Int)=(a2:Int):=by omega
 have m1:vminmax true (.int .i64 0) (.int .i64 (0 - more))=some (.int .i64 (addLo more)):=by rw[mm_int,Int.zero_sub];rfl
 have m2:vminmax false (.int .i64 ((sa:Int) - 1)) (.int .i64 ((sb:Int) - 1 - more))=some (.int .i64 (addHi sa sb more)):=by rw[mm_int];rfl
 have m3:vminmax true (.int .i64 (va.length:Int)) (.int .i64 (vb.length:Int))=some (.int .i64 ((max va.length vb.length:Nat):Int)):=by
  rw[mm_int]
  simp
  omega
 have g1:IntKind.i64.wrap (0 - more)=0 - more:=wrap_i64 (by omega) (by omega)
 have g2:IntKind.i64.wrap ((sa:Int) - 1)=(sa:Int) - 1:=wrap_i64 (by omega) (by omega)
 have g3:IntKind.i64.wrap ((sb:Int) - 1)=(sb:Int) - 1:=wrap_i64 (by omega) (by omega)
 have g4:IntKind.i64.wrap ((sb:Int) - 1 - more)=(sb:Int) - 1 - more:=wrap_i64 (by omega) (by omega)
 have hc1:¬ more < -1073741824:=by omega
 have hc2:¬ more > 1073741824:=by omega
 have hc3:¬ addLo more > addHi sa sb more:=by omega
 have HC:=Lib.hid (And.intro ha (And.intro hb (And.intro hva hvb)))
 have HK:=Lib.hid (And.intro hk hk1)
 have HRM:=Lib.hid hB
 have HW:=Lib.hid (And.intro w4 y4)
 unfold OpI at wb
 unfold OpFC
 clear hC hD hda hdb ha hb hne hm1 hm2 hlh hk hk1 hc hB hal hbl hany w1 w2 w3 w4 y1 y2 y3 y4 hva hvb hpk l0 l1 eLo eHi
 dsimp only at hca hcb
 obtain⟨W,hW⟩:∃W,W=max va.length vb.length:=⟨_,rfl⟩
 rw[← hW]at wp hand hshl m3
 obtain⟨P,hP⟩:∃P,P=addP W more:=⟨_,rfl⟩
 rw[← hP]at wp hand
 obtain⟨lo,hLo⟩:∃z,z=addLo more:=⟨_,rfl⟩
 rw[← hLo]at wb m1 hc3
 obtain⟨hi,hHi⟩:∃z,z=addHi sa sb more:=⟨_,rfl⟩
 rw[← hHi]at wb m2 hc3
 have HWP:=Lib.hid (And.intro hW (And.intro hP (And.intro hLo hHi)))
 clear hW hP hLo hHi
 obtain⟨D,hDD⟩:∃D,D=domsC ds:=⟨_,rfl⟩
 obtain⟨A,hAA⟩:∃A,A=atC at_:=⟨_,rfl⟩
 rw[← hDD]at hco hca hcb
 rw[← hAA]at hco hat hbt
 have HDA:=Lib.hid (And.intro hDD hAA)
 obtain⟨la,hla⟩:∃l,l=va.length:=⟨_,rfl⟩
 obtain⟨lb,hlb⟩:∃l,l=vb.length:=⟨_,rfl⟩
 rw[← hla]at hln m3
 rw[← hlb]at hlm m3
 clear hla hlb hDD hAA
 generalize ((2 ^ W:Nat):Int)=PW at *
 have ha0:(0:Int)≤a:=Int.natCast_nonneg _
 have hb0:(0:Int)≤a2:=Int.natCast_nonneg _
 refine G_enter Tryz.func24 rfl Tryz.ntmps24 rfl fun Q hQ hQe=>?_
 (repeat'(first|refine Ctl ?_|(with_reducible first|(refine Kof.use hK ?_;clear hK hE K E)|(refine Kof.use hKh ?_;clear hKh Kh)|refine G_plan 3 [] [0,1,2,3,4,5,6,7,8,9,10,11,12,13,14,15,16,17,18,19,20,21,22,23,24,25] hQe fun K E hK hE=>?_)|((with_reducible refine W_cond (fun h=>?_) (fun h=>?_))<;>(try(exfalso;assumption)))|(((with_reducible first|refine G_region fun K E hK hE=>?_|refine call_ret can30 (wh) ?_|refine P_fin fun Kh hKh=>?_))<;>(try simp(disch:=assumption) only[go_sem,seval,hca,hcb,m1,m2,g1,g2,g3,g4, *]))))
 refine call_ex can31 wb (fun a h=>?_)
 obtain⟨u1,K1,ns1,k1⟩:=a
 obtain⟨hch,his,hon⟩:=h
 dsimp only at hch his hon ⊢
 have hpk:0<2 ^ k:=Nat.two_pow_pos k
 have hcs1:=hch.cm.co
 rw[← HDA.out.1,← HDA.out.2]at hcs1
 have wS:=(Csum_S (p:=P) (w:=W) hch.cm HC.out.1 HC.out.2.1 HC.out.2.2.1 HC.out.2.2.2 HK.out.1 HK.out.2 (by have:=HW.out;have:=HWP.out.1;omega) hch.cnt (by rw[HWP.out.1];have:=HRM.out;omega)).toI hch
 unfold OpI at wS
 have H1:=Lib.hid his
 clear hch his hon wb hpk
 simp only[go_sem,seval]
 (repeat'(first|refine Ctl ?_|(with_reducible first|(refine Kof.use hK ?_;clear hK hE K E)|(refine Kof.use hKh ?_;clear hKh Kh)|refine G_plan 9 [] [0,1,2,3,4,5,6,7,8,9,10,11,12,13,14,15,16,17] hQe fun K E hK hE=>?_)|((with_reducible refine W_cond (fun h=>?_) (fun h=>?_))<;>(try(exfalso;assumption)))|(((with_reducible first|refine G_region fun K E hK hE=>?_|refine call_ret can41 (wp _) ?_|refine P_fin fun Kh hKh=>?_))<;>(try simp(disch:=assumption) only[go_sem,seval,hat,hbt,hln,hlm,m3,hshl,hand, *]))))
 refine call_ex can46 wS (fun a h=>?_)
 obtain⟨u2,K2,ns2,k2⟩:=a
 obtain⟨hch,his,hon⟩:=h
 dsimp only at hch his hon ⊢
 have hcs2:=hch.cm.co
 rw[← HDA.out.1,← HDA.out.2]at hcs2
 have hpk:0<2 ^ k:=Nat.two_pow_pos k
 have wq:=Qops_S u2 q K2.o K2.s.p hch.cm.qo
 rw[hch.kp.o]at wq
 have inA:∀v,v∈va→v∈va++vb:=fun v h=>List.mem_append_left _ h
 have inB:∀v,v∈vb→v∈va++vb:=fun v h=>List.mem_append_right _ h
 have wo:=And_I (S:=va++vb) (k:=k) hch (fun v hv=>(List.mem_append.1 hv).elim (HC.out.2.2.1 v) (HC.out.2.2.2 v)) HK.out.1 (hon _ _ H1.out) his (fun x y e=>by simp only[btwF,numA_congr fun v hv=>e v (inA v hv)]) (fun x y e=>by simp only[outF,sumL_dep inA inB e]) (by have:=HRM.out;have:=HWP.out.1;subst this;omega)
 unfold OpI at wo
 clear hch his hon wS hpk inA inB
 simp only[go_sem,seval]
 (repeat'(first|refine Ctl ?_|((with_reducible refine Kof.use hK ?_);clear hK hE K E)|((with_reducible refine W_cond (fun h=>?_) (fun h=>?_))<;>(try(exfalso;assumption)))|(((with_reducible first|refine G_region fun K E hK hE=>?_|refine call_ret can18 (wq) ?_))<;>(try simp(disch:=assumption) only[go_sem,seval, *]))))
 refine call_ex can23 wo (fun a h=>?_)
 obtain⟨u3,K3,ns3,k3⟩:=a
 obtain⟨hch,his,hon⟩:=h
 dsimp only at hch his hon ⊢
 have hf:=(hch.mono (N2:=N+((2 * va.length+1) * 2 ^ va.length+SumR k (max va.length vb.length)+2 ^ k)) (by have:=HWP.out.1;subst this;omega)).fin his
 rw[HWP.out.2.1,HWP.out.1,HWP.out.2.2.1,HWP.out.2.2.2]at hf
 have HF:=Lib.hid hf
 clear hf hch his hon wo
 simp only[go_sem,seval]
 (repeat'(first|refine Ctl ?_|((with_reducible refine Kof.use hK ?_);clear hK hE K E)))
 (refine W_ret res24 hQ ?_)
 exact⟨_,_,Wk.refl _,Fg.refl _,mkA3 (K3,ns3) (by rw[HF.out.2]) HF.out.1⟩
set_option maxHeartbeats 16000000 in
theorem Cadd0_S {s:St}{KK:OB}{q c n B a a2:Nat}{more:Int}{ns:List Tr}{ds:List (List UInt8×Nat)}{at_:List (List Nat)}(hC:CMem s KK q c n B ns ds at_)(R:Int)
  (hx:(¬ (a<ds.length∧a2<ds.length)∨a=a2∨more < -1073741824∨more > 1073741824)∧R=1∨(a<ds.length∧a2<ds.length∧¬ a=a2∧-1073741824≤more∧more≤1073741824)∧R=0∧∃x y,ds[a]?=some x∧ds[a2]?=some y∧x.2≤1073741824∧y.2≤1073741824∧addHi x.2 y.2 more<addLo more) :
  SRet Tryz.prog 24 [.ptr c 0,.int .i64 a,.int .i64 a2,.int .i64 more] s (.tup [.int .i64 0,.int .i64 R]) s:=by
 have wh:=Chas_S s c _ _ _ _ _ .full [(a:Int),(a2:Int)] (by simp) hC.co
 have hany:([(a:Int),(a2:Int)]).any (badD (domsC ds).length)=!decide (a<ds.length∧a2<ds.length):=by
  rw[domsC_len,List.any_cons,List.any_cons,List.any_nil,badD_nat,badD_nat]
  by_cases h1:a<ds.length<;>by_cases h2:a2<ds.length<;>simp[h1,h2]
 rw[hany]at wh
 simp only[intsL,List.map_cons,List.map_nil,Bool.not_not]at wh
 have hco:=hC.co
 have ha0:(0:Int)≤a:=Int.natCast_nonneg _
 have hb0:(0:Int)≤a2:=Int.natCast_nonneg _
 rcases hx with ⟨hx,rfl⟩|⟨⟨i1,i2,i3,i4,i5⟩,rfl,x,y,h1,h2,h3,h4,h5⟩
 ·by_cases hin:a<ds.length∧a2<ds.length
  ·rw[decide_eq_true hin]at wh
   replace hx:=hx.resolve_left (fun h=>h hin)
   clear hC hany hin
   generalize domsC ds=D at *
   generalize atC at_=A at *
   by_cases e:a=a2
   ·subst e
    clear hx
    refine G_enter Tryz.func24 rfl Tryz.ntmps24 rfl fun Q hQ hQe=>?_
    (repeat'(first|refine Ctl ?_|((with_reducible refine Kof.use hK ?_);clear hK hE K E)|((with_reducible refine W_cond (fun h=>?_) (fun h=>?_))<;>(try(exfalso;assumption)))|(((with_reducible first|refine G_region fun K E hK hE=>?_|refine call_ret can30 (wh) ?_))<;>(try simp(disch:=assumption) only[go_sem,seval, *]))))
    all_goals(refine W_ret res24 hQ ?_)
    all_goals(refine⟨_,_,Wk.of_eq ?_,?_,rfl,rfl⟩)
    all_goals first|rfl|(exact z_fg)
   ·replace hx:=hx.resolve_left e
    replace e:¬ (a:Int)=(a2:Int):=by omega
    by_cases e1:more < -1073741824
    ·clear hx
     refine G_enter Tryz.func24 rfl Tryz.ntmps24 rfl fun Q hQ hQe=>?_
     (repeat'(first|refine Ctl ?_|((with_reducible refine Kof.use hK ?_);clear hK hE K E)|((with_reducible refine W_cond (fun h=>?_) (fun h=>?_))<;>(try(exfalso;assumption)))|(((with_reducible first|refine G_region fun K E hK hE=>?_|refine call_ret can30 (wh) ?_))<;>(try simp(disch:=assumption) only[go_sem,seval, *]))))
     all_goals(refine W_ret res24 hQ ?_)
     all_goals(refine⟨_,_,Wk.of_eq ?_,?_,rfl,rfl⟩)
     all_goals first|rfl|(exact z_fg)
    ·have e2:more > 1073741824:=hx.resolve_left e1
     clear hx
     refine G_enter Tryz.func24 rfl Tryz.ntmps24 rfl fun Q hQ hQe=>?_
     (repeat'(first|refine Ctl ?_|((with_reducible refine Kof.use hK ?_);clear hK hE K E)|((with_reducible refine W_cond (fun h=>?_) (fun h=>?_))<;>(try(exfalso;assumption)))|(((with_reducible first|refine G_region fun K E hK hE=>?_|refine call_ret can30 (wh) ?_))<;>(try simp(disch:=assumption) only[go_sem,seval, *]))))
     all_goals(refine W_ret res24 hQ ?_)
     all_goals(refine⟨_,_,Wk.of_eq ?_,?_,rfl,rfl⟩)
     all_goals first|rfl|(exact z_fg)
  ·rw[decide_eq_false hin]at wh
   clear hC hany hin hx
   generalize domsC ds=D at *
   generalize atC at_=A at *
   refine G_enter Tryz.func24 rfl Tryz.ntmps24 rfl fun Q hQ hQe=>?_
   (repeat'(first|refine Ctl ?_|((with_reducible refine Kof.use hK ?_);clear hK hE K E)|((with_reducible refine W_cond (fun h=>?_) (fun h=>?_))<;>(try(exfalso;assumption)))|(((with_reducible first|refine G_region fun K E hK hE=>?_|refine call_ret can30 (wh) ?_))<;>(try simp(disch:=assumption) only[go_sem,seval, *]))))
   all_goals(refine W_ret res24 hQ ?_)
   all_goals(refine⟨_,_,Wk.of_eq ?_,?_,rfl,rfl⟩)
   all_goals first|rfl|(exact z_fg)
 ·rw[decide_eq_true ⟨i1,i2⟩]at wh
  have hca:=domsC_at h1
  have hcb:=domsC_at h2
  obtain⟨nx,sa⟩:=x
  obtain⟨ny,sb⟩:=y
  dsimp only at hca hcb h3 h4 h5
  have m1:vminmax true (.int .i64 0) (.int .i64 (0 - more))=some (.int .i64 (addLo more)):=by rw[mm_int,Int.zero_sub];rfl
  have m2:vminmax false (.int .i64 ((sa:Int) - 1)) (.int .i64 ((sb:Int) - 1 - more))=some (.int .i64 (addHi sa sb more)):=by rw[mm_int];rfl
  have g1:IntKind.i64.wrap (0 - more)=0 - more:=wrap_i64 (by omega) (by omega)
  have g2:IntKind.i64.wrap ((sa:Int) - 1)=(sa:Int) - 1:=wrap_i64 (by omega) (by omega)
  have g3:IntKind.i64.wrap ((sb:Int) - 1)=(sb:Int) - 1:=wrap_i64 (by omega) (by omega)
  have g4:IntKind.i64.wrap ((sb:Int) - 1 - more)=(sb:Int) - 1 - more:=wrap_i64 (by omega) (by omega)
  have hc1:¬ more < -1073741824:=by omega
  have hc2:¬ more > 1073741824:=by omega
  have hc3:addLo more > addHi sa sb more:=by omega
  have hne2:¬ (a:Int)=(a2:Int):=by omega
  clear hC hany h1 h2 h3 h4 h5 i1 i2 i3 i4 i5
  generalize addLo more=lo at *
  generalize addHi sa sb more=hi at *
  generalize domsC ds=D at *
  generalize atC at_=A at *
  refine G_enter Tryz.func24 rfl Tryz.ntmps24 rfl fun Q hQ hQe=>?_
  (repeat'(first|refine Ctl ?_|(with_reducible first|(refine Kof.use hK ?_;clear hK hE K E)|(refine Kof.use hKh ?_;clear hKh Kh)|refine G_plan 3 [] [0,1,2,3,4,5,6,7,8,9,10,11,12,13,14,15,16,17,18,19,20,21,22,23,24,25] hQe fun K E hK hE=>?_)|((with_reducible refine W_cond (fun h=>?_) (fun h=>?_))<;>(try(exfalso;assumption)))|(((with_reducible first|refine G_region fun K E hK hE=>?_|refine call_ret can30 (wh) ?_|refine P_fin fun Kh hKh=>?_))<;>(try simp(disch:=assumption) only[go_sem,seval,hca,hcb,m1,m2,g1,g2,g3,g4, *]))))
  all_goals(refine W_ret res24 hQ ?_)
  all_goals(refine⟨_,_,Wk.of_eq ?_,?_,rfl,rfl⟩)
  all_goals first|rfl|(exact z_fg)
end Go.Proofs.YtndlnadbnganeaaGreatDoor
