/- Walks of functions that the claim reaches, and plain facts of them. Conditions: those in the statements. -/
import Derived.Test.YtndlnadbnganeaaGreatDoorJnIt
import Derived.Test.YtndlnadbnganeaaGreatDoorJnHej
import Derived.Test.YtndlnadbnganeaaGreatDoorJnGpj
set_option linter.unusedSimpArgs false
set_option linter.unusedVariables false
set_option maxRecDepth 100000
namespace Go.Proofs.YtndlnadbnganeaaGreatDoor
open Go.RowKit
structure OpQ (s:St) (K:OB) (n B:Nat) (ns:List Tr) (T:Tr) (a:IteA):Prop where
 m:OMem a.1 a.2.1 n B a.2.2
 e:ExtN ns a.2.2 T
 k:OKeep s a.1 K a.2.1
def OpC (f:FuncId)(xs:List VV)(s:St)(K:OB)(n B:Nat)(ns:List Tr)(T:Tr):Prop:=
 SCalls Tryz.prog f xs s fun w u=>∃a:IteA,w=.ret (.tup [.int .i64 (ixN a.2.2 T:Nat),.int .i64 0])∧u=a.1∧OpQ s K n B ns T a
theorem mkA3 {α β γ:Type}{w:SEnd}{F:α×β×γ→VV}{R:α×β×γ→Prop}{s:α}(b:β×γ)(hw:w=.ret (F (s,b)))(hR:R (s,b)):∃a:α×β×γ,w=.ret (F a)∧s=a.1∧R a:=⟨(s,b),hw,rfl,hR⟩
set_option maxHeartbeats 4000000 in
theorem OIte_S {s:St}{KK:OB}{n B:Nat}{ns:List Tr}(hO:OMem s KK n B ns){ta tb tc:Tr}(ha:ta∈ns)(hb:tb∈ns)(hc:tc∈ns)(hF:FitN ns (iteT n ta tb tc) B) :
  OpC 44 [.ptr KK.o 0,.int .i64 (ixN ns ta:Nat),.int .i64 (ixN ns tb:Nat),.int .i64 (ixN ns tc:Nat)] s KK n B ns (iteT n ta tb tc):=by
 have hN:=hO.st.ok
 have w1:=Omay_S s KK n B ns hO [ixN ns ta,ixN ns tb,ixN ns tc] (fun k hk=>by
  simp only[List.mem_cons,List.not_mem_nil,or_false]at hk
  rcases hk with rfl|rfl|rfl
  ·exact ixN_lt ha
  ·exact ixN_lt hb
  ·exact ixN_lt hc) (by simp) .full
 simp only[natsL,List.map_cons,List.map_nil]at w1
 have w2:=fun(u:St) (K1:OB) (h:OMem1 u K1 n B ns)=>Oite_S n 0 u K1 ns ta tb tc (by omega) h ha hb hc (hN.ok _ ha) (hN.ok _ hb) (hN.ok _ hc) hF
 unfold IteC at w2
 unfold OpC
 have W2:=Lib.hid w2
 clear w2 hF hN ha hb hc hO
 generalize ixN ns ta=ka at *
 generalize ixN ns tb=kb at *
 generalize ixN ns tc=kc at *
 refine G_enter Tryz.func44 rfl Tryz.ntmps44 rfl fun Q hQ hQe=>?_
 (repeat'(first|refine Ctl ?_|((with_reducible refine Kof.use hK ?_);clear hK hE K E)|(((with_reducible refine G_region fun K E hK hE=>?_))<;>(try simp(disch:=assumption) only[go_sem,seval, *]))))
 refine call_ex can67 w1 (fun a h=>?_)
 obtain⟨u1,K1⟩:=a
 obtain⟨m1,k1,e1⟩:=h
 dsimp only at m1 k1 e1 ⊢
 have w2:=W2.out u1 K1 m1
 rw[k1.o]at w2
 have HK:=Lib.hid k1
 clear w1 k1 m1
 simp only[go_sem,seval]
 (repeat'(first|refine Ctl ?_|((with_reducible refine Kof.use hK ?_);clear hK hE K E)|((with_reducible refine W_cond (fun h=>?_) (fun h=>?_))<;>(try(exfalso;assumption)))|(((with_reducible refine G_region fun K E hK hE=>?_))<;>(try simp(disch:=assumption) only[go_sem,seval, *]))))
 refine call_ex can68 w2 (fun a h=>?_)
 obtain⟨u2,K2,ns2⟩:=a
 obtain⟨m2,x2,k2,c2⟩:=h
 dsimp only at m2 x2 k2 ⊢
 have HR:Hid (OpQ s KK n B ns (iteT n ta tb tc) (u2,K2,ns2)):=Lib.hid ⟨.inr m2,x2,HK.out.trans k2⟩
 clear m2 x2 k2 w2
 simp only[go_sem,seval]
 (repeat'(first|refine Ctl ?_|((with_reducible refine Kof.use hK ?_);clear hK hE K E)))
 (refine W_ret res44 hQ ?_)
 exact⟨_,_,Wk.refl _,Fg.refl _,mkA3 (K2,ns2) rfl HR.out⟩
set_option maxHeartbeats 4000000 in
theorem OAnd_S {s:St}{KK:OB}{n B:Nat}{ns:List Tr}(hO:OMem s KK n B ns){ta tb:Tr}(ha:ta∈ns)(hb:tb∈ns)(hF:FitN ns (iteT n ta tb (.lf false)) B) :
  OpC 23 [.ptr KK.o 0,.int .i64 (ixN ns ta:Nat),.int .i64 (ixN ns tb:Nat)] s KK n B ns (iteT n ta tb (.lf false)):=by
 have h0:=hO.st.ok.lf false
 have h1:=hO.st.ok.lf true
 have w1:=OIte_S hO ha hb h0.1 hF
 simp only[h0.2,h1.2,Bool.false_eq_true,if_true,if_false]at w1
 unfold OpC at w1 ⊢
 clear hF hO h0 h1 ha hb
 generalize ixN ns ta=ka at *
 generalize ixN ns tb=kb at *
 refine G_enter Tryz.func23 rfl Tryz.ntmps23 rfl fun Q hQ hQe=>?_
 (repeat'(first|refine Ctl ?_|((with_reducible refine Kof.use hK ?_);clear hK hE K E)|(((with_reducible refine G_region fun K E hK hE=>?_))<;>(try simp(disch:=assumption) only[go_sem,seval,Int.natCast_zero,Int.natCast_one,Int.ofNat_zero, *]))))
 refine call_ex can44 w1 (fun a h=>?_)
 obtain⟨u2,K2,ns2⟩:=a
 have HR:=Lib.hid h
 clear h w1
 simp only[go_sem,seval]
 (repeat'(first|refine Ctl ?_|((with_reducible refine Kof.use hK ?_);clear hK hE K E)))
 (refine W_ret res23 hQ ?_)
 exact⟨_,_,Wk.refl _,Fg.refl _,mkA3 (K2,ns2) rfl HR.out⟩
set_option maxHeartbeats 4000000 in
theorem OOr_S {s:St}{KK:OB}{n B:Nat}{ns:List Tr}(hO:OMem s KK n B ns){ta tb:Tr}(ha:ta∈ns)(hb:tb∈ns)(hF:FitN ns (iteT n ta (.lf true) tb) B) :
  OpC 19 [.ptr KK.o 0,.int .i64 (ixN ns ta:Nat),.int .i64 (ixN ns tb:Nat)] s KK n B ns (iteT n ta (.lf true) tb):=by
 have h0:=hO.st.ok.lf false
 have h1:=hO.st.ok.lf true
 have w1:=OIte_S hO ha h1.1 hb hF
 simp only[h0.2,h1.2,Bool.false_eq_true,if_true,if_false]at w1
 unfold OpC at w1 ⊢
 clear hF hO h0 h1 ha hb
 generalize ixN ns ta=ka at *
 generalize ixN ns tb=kb at *
 refine G_enter Tryz.func19 rfl Tryz.ntmps19 rfl fun Q hQ hQe=>?_
 (repeat'(first|refine Ctl ?_|((with_reducible refine Kof.use hK ?_);clear hK hE K E)|(((with_reducible refine G_region fun K E hK hE=>?_))<;>(try simp(disch:=assumption) only[go_sem,seval,Int.natCast_zero,Int.natCast_one,Int.ofNat_zero, *]))))
 refine call_ex can44 w1 (fun a h=>?_)
 obtain⟨u2,K2,ns2⟩:=a
 have HR:=Lib.hid h
 clear h w1
 simp only[go_sem,seval]
 (repeat'(first|refine Ctl ?_|((with_reducible refine Kof.use hK ?_);clear hK hE K E)))
 (refine W_ret res19 hQ ?_)
 exact⟨_,_,Wk.refl _,Fg.refl _,mkA3 (K2,ns2) rfl HR.out⟩
set_option maxHeartbeats 4000000 in
theorem ODiff_S {s:St}{KK:OB}{n B:Nat}{ns:List Tr}(hO:OMem s KK n B ns){ta tb:Tr}(ha:ta∈ns)(hb:tb∈ns)(hF:FitN ns (iteT n tb (.lf false) ta) B) :
  OpC 61 [.ptr KK.o 0,.int .i64 (ixN ns ta:Nat),.int .i64 (ixN ns tb:Nat)] s KK n B ns (iteT n tb (.lf false) ta):=by
 have h0:=hO.st.ok.lf false
 have h1:=hO.st.ok.lf true
 have w1:=OIte_S hO hb h0.1 ha hF
 simp only[h0.2,h1.2,Bool.false_eq_true,if_true,if_false]at w1
 unfold OpC at w1 ⊢
 clear hF hO h0 h1 ha hb
 generalize ixN ns ta=ka at *
 generalize ixN ns tb=kb at *
 refine G_enter Tryz.func61 rfl Tryz.ntmps61 rfl fun Q hQ hQe=>?_
 (repeat'(first|refine Ctl ?_|((with_reducible refine Kof.use hK ?_);clear hK hE K E)|(((with_reducible refine G_region fun K E hK hE=>?_))<;>(try simp(disch:=assumption) only[go_sem,seval,Int.natCast_zero,Int.natCast_one,Int.ofNat_zero, *]))))
 refine call_ex can44 w1 (fun a h=>?_)
 obtain⟨u2,K2,ns2⟩:=a
 have HR:=Lib.hid h
 clear h w1
 simp only[go_sem,seval]
 (repeat'(first|refine Ctl ?_|((with_reducible refine Kof.use hK ?_);clear hK hE K E)))
 (refine W_ret res61 hQ ?_)
 exact⟨_,_,Wk.refl _,Fg.refl _,mkA3 (K2,ns2) rfl HR.out⟩
theorem FitN.of2 {ns ns1:List Tr}{R T:Tr}{N m1 m2 B:Nat}(h:CntN ns N)(h1:SubN R m1)(h2:SubN T m2)(he:ExtN ns ns1 R)(hB:N+m1+m2≤B):FitN ns1 T B:=.of (h.ext h1 he) h2 hB
set_option maxHeartbeats 4000000 in
theorem OXor_S {s:St}{KK:OB}{n B:Nat}{ns:List Tr}(hO:OMem s KK n B ns){ta tb:Tr}(ha:ta∈ns)(hb:tb∈ns){N m1 m2:Nat}(hc:CntN ns N)(h1:SubN (iteT n tb (.lf false) (.lf true)) m1)
  (h2:SubN (iteT n ta (iteT n tb (.lf false) (.lf true)) tb) m2) (hB:N+m1+m2≤B) :
  SCalls Tryz.prog 39 [.ptr KK.o 0,.int .i64 (ixN ns ta:Nat),.int .i64 (ixN ns tb:Nat)] s fun w u=>∃a:IteA,w=.ret (.tup [.int .i64 (ixN a.2.2 (iteT n ta (iteT n tb (.lf false) (.lf true)) tb):Nat),.int .i64 0])∧u=a.1 ∧
   OMem a.1 a.2.1 n B a.2.2∧(∃l,a.2.2=ns++l)∧iteT n ta (iteT n tb (.lf false) (.lf true)) tb∈a.2.2∧CntN a.2.2 (N+m1+m2)∧OKeep s a.1 KK a.2.1:=by
 have hN:=hO.st.ok
 have l0:=hN.lf false
 have l1:=hN.lf true
 have w1:=Omay_S s KK n B ns hO [ixN ns ta,ixN ns tb] (fun k hk=>by
  simp only[List.mem_cons,List.not_mem_nil,or_false]at hk
  rcases hk with rfl|rfl
  ·exact ixN_lt ha
  ·exact ixN_lt hb) (by simp) .full
 simp only[natsL,List.map_cons,List.map_nil]at w1
 have w2:=fun(u:St) (K1:OB) (h:OMem1 u K1 n B ns)=>Oite_S n 0 u K1 ns tb (.lf false) (.lf true) (by omega) h hb l0.1 l1.1 (hN.ok _ hb) trivial trivial (.of hc h1 (by omega))
 have w3:=fun(u:St) (K1:OB) (ns1:List Tr) (h:OMem1 u K1 n B ns1) (x:ExtN ns ns1 (iteT n tb (.lf false) (.lf true)))=>Oite_S n 0 u K1 ns1 ta (iteT n tb (.lf false) (.lf true)) tb (by omega) h (x.sub ha).1 x.mem (x.sub hb).1 (hN.ok _ ha) iteT_ok (hN.ok _ hb) (.of2 hc h1 h2 x hB)
 unfold IteC at w2 w3
 rw[l0.2,l1.2]at w2
 simp only[Bool.false_eq_true,if_true,if_false]at w2
 have W2:=Lib.hid w2
 have W3:=Lib.hid w3
 have HA:=Lib.hid ha
 have HB:=Lib.hid hb
 have HC:=Lib.hid hc
 have H1:=Lib.hid h1
 have H2:=Lib.hid h2
 clear w2 w3 hN ha hb hO l0 l1 hc h1 h2 hB
 generalize hka:ixN ns ta=ka at *
 generalize hkb:ixN ns tb=kb at *
 have HKA:=Lib.hid hka
 have HKB:=Lib.hid hkb
 clear hka hkb
 refine G_enter Tryz.func39 rfl Tryz.ntmps39 rfl fun Q hQ hQe=>?_
 (repeat'(first|refine Ctl ?_|((with_reducible refine Kof.use hK ?_);clear hK hE K E)|(((with_reducible refine G_region fun K E hK hE=>?_))<;>(try simp(disch:=assumption) only[go_sem,seval, *]))))
 refine call_ex can67 w1 (fun a h=>?_)
 obtain⟨u1,K1⟩:=a
 obtain⟨m1,k1,e1⟩:=h
 dsimp only at m1 k1 e1 ⊢
 have w2:=W2.out u1 K1 m1
 have k1o:=k1.o
 rw[k1o]at w2
 have HK:=Lib.hid k1
 clear w1 k1 m1
 simp only[go_sem,seval]
 (repeat'(first|refine Ctl ?_|((with_reducible refine Kof.use hK ?_);clear hK hE K E)|((with_reducible refine W_cond (fun h=>?_) (fun h=>?_))<;>(try(exfalso;assumption)))|(((with_reducible refine G_region fun K E hK hE=>?_))<;>(try simp(disch:=assumption) only[go_sem,seval,Int.natCast_zero,Int.natCast_one, *]))))
 refine call_ex can68 w2 (fun a h=>?_)
 obtain⟨u2,K2,ns2⟩:=a
 obtain⟨m2,x2,k2,c2⟩:=h
 dsimp only at m2 x2 k2 ⊢
 have w3:=W3.out u2 K2 ns2 m2 x2
 rw[(x2.sub HA.out).2,(x2.sub HB.out).2,HKA.out,HKB.out,k2.o,k1o]at w3
 have HX:=Lib.hid (And.intro x2 k2)
 clear m2 x2 k2 w2 k1o
 generalize ixN ns2 (iteT n tb (.lf false) (.lf true))=kn at *
 simp only[go_sem,seval]
 (repeat'(first|refine Ctl ?_|((with_reducible refine Kof.use hK ?_);clear hK hE K E)|((with_reducible refine W_cond (fun h=>?_) (fun h=>?_))<;>(try(exfalso;assumption)))|(((with_reducible refine G_region fun K E hK hE=>?_))<;>(try simp(disch:=assumption) only[go_sem,seval, *]))))
 refine call_ex can68 w3 (fun a h=>?_)
 obtain⟨u3,K3,ns3⟩:=a
 obtain⟨m3,x3,k3,c3⟩:=h
 dsimp only at m3 x3 k3 ⊢
 obtain⟨x2,k2⟩:=HX.out
 have HR:=Lib.hid (And.intro m3 (And.intro x3 (And.intro k3 (And.intro x2 k2))))
 clear m3 x3 k3 x2 k2 w3
 simp only[go_sem,seval]
 (repeat'(first|refine Ctl ?_|((with_reducible refine Kof.use hK ?_);clear hK hE K E)))
 (refine W_ret res39 hQ ?_)
 obtain⟨m3,x3,k3,x2,k2⟩:=HR.out
 refine⟨_,_,Wk.refl _,Fg.refl _,mkA3 (K3,ns3) rfl ⟨.inr m3,?_,x3.mem,(HC.out.ext H1.out x2).ext H2.out x3,(HK.out.trans k2).trans k3⟩⟩
 obtain⟨p2,e2⟩:=x2.pre
 obtain⟨p3,e3⟩:=x3.pre
 exact⟨p2++p3,by rw[e3,e2,List.append_assoc]⟩
noncomputable def ixF (n:Nat)(ns:List Tr)(g:(Nat→Bool)→Bool):Nat:=ixN ns (treeT n g)
structure OpF (s:St) (K:OB) (n B:Nat) (ns:List Tr) (N':Nat) (g:(Nat→Bool)→Bool) (a:IteA):Prop where
 m:OMem a.1 a.2.1 n B a.2.2
 pre:∃l,a.2.2=ns++l
 mem:treeT n g∈a.2.2
 cnt:CntN a.2.2 N'
 k:OKeep s a.1 K a.2.1
def OpFC (f:FuncId)(xs:List VV)(s:St)(K:OB)(n B:Nat)(ns:List Tr)(N':Nat)(g:(Nat→Bool)→Bool):Prop:=
 SCalls Tryz.prog f xs s fun w u=>∃a:IteA,w=.ret (.tup [.int .i64 (ixF n a.2.2 g:Nat),.int .i64 0])∧u=a.1∧OpF s K n B ns N' g a
theorem OpC.toF {f:FuncId}{xs:List VV}{s:St}{K:OB}{n B N m:Nat}{ns:List Tr}{T:Tr}{g:(Nat→Bool)→Bool}(h:OpC f xs s K n B ns T)(hT:T=treeT n g)(hc:CntN ns N)(hm:SubN (treeT n g) m):OpFC f xs s K n B ns (N+m) g:=by
 subst hT
 refine SCalls.mono (h:=h) ?_
 rintro w u ⟨a,rfl,rfl,h1,h2,h3⟩
 exact⟨a,rfl,rfl,h1,h2.pre,h2.mem,hc.ext hm h2,h3⟩
theorem sub_of {ns ns':List Tr}(h:∃l,ns'=ns++l){t:Tr}(ht:t∈ns):t∈ns'∧ixN ns' t=ixN ns t:=by
 obtain⟨l,rfl⟩:=h
 exact⟨List.mem_append_left _ ht,ixN_app ht⟩
section
variable {s : St} {K : OB} {n B N m : Nat} {ns : List Tr} {f g : (Nat → Bool) → Bool}
theorem OAnd_F (hO:OMem s K n B ns)(hf:Hang n f)(hg:Hang n g)(mf:treeT n f∈ns)(mg:treeT n g∈ns)(hc:CntN ns N)(hm:SubN (treeT n fun x=>f x && g x) m)(hB:N+m≤B) :
  OpFC 23 [.ptr K.o 0,.int .i64 (ixF n ns f:Nat),.int .i64 (ixF n ns g:Nat)] s K n B ns (N+m) (fun x=>f x && g x):=by
 have hT:iteT n (treeT n f) (treeT n g) (.lf false)=treeT n fun x=>f x && g x:=by
  rw[← treeT_const (n:=n) false,iteT_tree hf hg (fun _ _ _=>rfl)]
  exact treeT_congr fun x=>by cases f x<;>rfl
 exact(OAnd_S hO mf mg (by rw[hT];exact .of hc hm hB)).toF hT hc hm
theorem OOr_F (hO:OMem s K n B ns)(hf:Hang n f)(hg:Hang n g)(mf:treeT n f∈ns)(mg:treeT n g∈ns)(hc:CntN ns N)(hm:SubN (treeT n fun x=>f x || g x) m)(hB:N+m≤B) :
  OpFC 19 [.ptr K.o 0,.int .i64 (ixF n ns f:Nat),.int .i64 (ixF n ns g:Nat)] s K n B ns (N+m) (fun x=>f x || g x):=by
 have hT:iteT n (treeT n f) (.lf true) (treeT n g)=treeT n fun x=>f x || g x:=by
  rw[← treeT_const (n:=n) true,iteT_tree hf (fun _ _ _=>rfl) hg]
  exact treeT_congr fun x=>by cases f x<;>rfl
 exact(OOr_S hO mf mg (by rw[hT];exact .of hc hm hB)).toF hT hc hm
theorem ODiff_F (hO:OMem s K n B ns)(hf:Hang n f)(hg:Hang n g)(mf:treeT n f∈ns)(mg:treeT n g∈ns)(hc:CntN ns N)(hm:SubN (treeT n fun x=>f x && !g x) m)(hB:N+m≤B) :
  OpFC 61 [.ptr K.o 0,.int .i64 (ixF n ns f:Nat),.int .i64 (ixF n ns g:Nat)] s K n B ns (N+m) (fun x=>f x && !g x):=by
 have hT:iteT n (treeT n g) (.lf false) (treeT n f)=treeT n fun x=>f x && !g x:=by
  rw[← treeT_const (n:=n) false,iteT_tree hg (fun _ _ _=>rfl) hf]
  exact treeT_congr fun x=>by cases g x<;>cases f x<;>rfl
 exact(ODiff_S hO mf mg (by rw[hT];exact .of hc hm hB)).toF hT hc hm
theorem OXor_F {m1 m2:Nat}(hO:OMem s K n B ns)(hf:Hang n f)(hg:Hang n g)(mf:treeT n f∈ns)(mg:treeT n g∈ns)(hc:CntN ns N)(h1:SubN (treeT n fun x=>!g x) m1)(h2:SubN (treeT n fun x=>f x ^^ g x) m2)(hB:N+m1+m2≤B) :
  OpFC 39 [.ptr K.o 0,.int .i64 (ixF n ns f:Nat),.int .i64 (ixF n ns g:Nat)] s K n B ns (N+m1+m2) (fun x=>f x ^^ g x):=by
 have hT1:iteT n (treeT n g) (.lf false) (.lf true)=treeT n fun x=>!g x:=by
  rw[← treeT_const (n:=n) true,← treeT_const (n:=n) false,iteT_tree hg (fun _ _ _=>rfl) (fun _ _ _=>rfl)]
  exact treeT_congr fun x=>by cases g x<;>rfl
 have hng:Hang n fun x=>!g x:=fun x y e=>by simp only;rw[hg x y e]
 have hT2:iteT n (treeT n f) (iteT n (treeT n g) (.lf false) (.lf true)) (treeT n g)=treeT n fun x=>f x ^^ g x:=by
  rw[hT1,iteT_tree hf hng hg]
  exact treeT_congr fun x=>by cases f x<;>cases g x<;>rfl
 have w:=OXor_S hO mf mg hc (by rw[hT1];exact h1) (by rw[hT2];exact h2) hB
 rw[hT2]at w
 refine SCalls.mono (h:=w) ?_
 rintro w u ⟨a,rfl,rfl,h1,h2,h3,h4,h5⟩
 exact⟨a,rfl,rfl,h1,h2,h3,h4,h5⟩
end
theorem OMem.mk {s u:St}{K:OB}{K':SB}{n B:Nat}{ns ns':List Tr}{T:Tr}(hO:OMem s K n B ns)(m3:SMem u K' n B ns')(x3:ExtN ns ns' T)(k3:SKeep s u K.s K'):OMem u ⟨K',K.o,K.c⟩ n B ns':=by
 have so:¬ K.s.has K.o:=by
  obtain⟨d,c,e⟩:=hO.op
  obtain⟨mk,hm⟩:=hO.st.mem
  obtain⟨ps,ht,_⟩:=hO.st.tab
  rintro(e1|e1|e1|e1)
  ·have:=hm.o;rw[← e1,e]at this;cases this
  ·have:=hm.r;rw[← e1,e]at this;cases this
  ·have:=ht.tab.o;rw[← e1,e]at this;cases this
  ·have:=ht.tab.r;rw[← e1,e]at this;cases this
 have fo:s K.o≠.free:=hO.live (.inr (.inl rfl))
 rcases hO with h|h
 ·exact .inl ⟨m3,(k3.out _ fo so).trans (h.ob.trans (by rw[k3.p])),h.c⟩
 ·obtain⟨xs,e,hx⟩:=h.ca
  exact .inr ⟨m3,(k3.out _ fo so).trans (h.ob.trans (by rw[k3.p])),⟨xs,(k3.out _ (by rw[e];simp) h.sep.1).trans e,hx.ext x3⟩⟩
theorem Nmk_F {s:St}{K:OB}{n B N m v:Nat}{ns:List Tr}{f g:(Nat→Bool)→Bool}{S:List Nat}(hO:OMem s K n B ns)(hf:DepF S f)(hg:DepF S g)(hS:∀w,w∈S→v<w∧w<n)(hv:v<n)(mf:treeT n f∈ns)(mg:treeT n g∈ns)(hc:CntN ns N)
  (hm:SubN (treeT n fun x=>if x v=true then g x else f x) m) (hB:N+m≤B) :
  OpFC 43 [.ptr K.s.p 0,.int .i64 v,.int .i64 (ixF n ns f:Nat),.int .i64 (ixF n ns g:Nat)] s K n B ns (N+m) (fun x=>if x v=true then g x else f x):=by
 have ok:∀{h:(Nat→Bool)→Bool},DepF S h→OkT n (v+1) (treeT n h):=fun {h} hd=>by
  have hk:n - (n - (v+1))=v+1:=by omega
  have h1:OkT n (v+1) (treeF n (n - (v+1)) h):=by
   have:=treeF_ok (n:=n) (k:=n - (v+1)) (g:=h) (by omega)
   rwa [hk]at this
  have h2:treeT n h=treeF n (n - (v+1)) h:=treeT_eq h1 fun x=>treeF_ev x (by omega) fun x y e=>hd x y fun w hw=>e w (by have:=hS w hw;omega) (hS w hw).2
  rw[h2];exact h1
 have hT:mkT v (treeT n f) (treeT n g)=treeT n fun x=>if x v=true then g x else f x:=by
  refine(treeT_eq (mkT_ok (Nat.zero_le v) hv (ok hf) (ok hg)) fun x=>?_).symm
  rw[mkT_ev,treeT_ev (hf.hang fun w hw=>(hS w hw).2),treeT_ev (hg.hang fun w hw=>(hS w hw).2)]
 have w:=Nmk_S hO.st mf mg (ok hf) (ok hg) hv (by rw[hT];exact .of hc hm hB)
 rw[hT]at w
 refine SCalls.mono (h:=w) ?_
 rintro w u ⟨⟨u,K',ns'⟩,rfl,rfl,h1,h2,h3⟩
 exact⟨(u,⟨K',K.o,K.c⟩,ns'),rfl,rfl,hO.mk h1 h2 h3,h2.pre,h2.mem,hc.ext hm h2,h3.toO⟩
theorem OMem.c0 {s:St}{K:OB}{n B:Nat}{ns:List Tr}(hO:OMem s K n B ns):(treeT n (fun _=>false)∈ns∧ixF n ns (fun _=>false)=0)∧(treeT n (fun _=>true)∈ns∧ixF n ns (fun _=>true)=1):=by
 unfold ixF
 rw[treeT_const,treeT_const]
 exact⟨hO.st.ok.lf false,hO.st.ok.lf true⟩
set_option maxHeartbeats 4000000 in
theorem Onew_S {s:St}{KS:SB}{n B:Nat}{ns:List Tr}(hS:SMem s KS n B ns) :
  SCalls Tryz.prog 48 [.ptr KS.p 0] s fun w u=>∃a:St×Nat,w=.ret (.tup [.ptr a.2 0,.int .i64 0])∧u=a.1∧OMem a.1 ⟨KS,a.2,a.2⟩ n B ns∧s a.2=.free∧∀z,s z≠.free→a.1 z=s z:=by
 obtain⟨mk,hm⟩:=hS.mem
 have hl:=hS.ok.len
 have w1:=Nlen_S s KS.p KS.g KS.q n B ns mk 0 hm
 have hl2:¬ ((ns.length:Nat):Int)=0:=by omega
 have HS:=Lib.hid hS
 clear hm hl hS
 generalize hlen:ns.length=l at *
 have HL:=Lib.hid hlen
 clear hlen
 refine G_enter Tryz.func48 rfl Tryz.ntmps48 rfl fun Q hQ hQe=>?_
 (repeat'(first|refine Ctl ?_|((with_reducible refine Kof.use hK ?_);clear hK hE K E)|((with_reducible refine W_cond (fun h=>?_) (fun h=>?_))<;>(try(exfalso;assumption)))|((first|(with_reducible first|refine G_region fun K E hK hE=>?_|refine call_ret can78 (w1) ?_)|((with_reducible refine W_fresh (fun b hb=>?_))))<;>(try simp(disch:=assumption) only[go_sem,seval, *]))))
 (refine W_ret res48 hQ ?_)
 have hk:∀z,s z≠.free→(s.set b (.obj 116 (opsC KS.p 0 0 (.lst [] .full)))) z=s z:=fun z hz=>St.set_other _ _ (nef hb hz).1
 exact⟨_,_,Wk.refl _,Fg.refl _,mkA b rfl ⟨.inl ⟨HS.out.keep fun z hz=>hk z (HS.out.live hz),St.set_same _ _ _,rfl⟩,hb,hk⟩⟩
set_option maxHeartbeats 4000000 in
theorem Ostore_S (s:St)(o p:Nat)(d:Int)(c:VV)(h:s o=.obj 116 (opsC p d 0 c)) :
  SRet Tryz.prog 33 [.ptr o 0] s (.ptr p 0) s:=by
 unfold opsC at h
 refine G_enter Tryz.func33 rfl Tryz.ntmps33 rfl fun Q hQ hQe=>?_
 (repeat'(first|refine Ctl ?_|((with_reducible refine Kof.use hK ?_);clear hK hE K E)|((with_reducible refine W_cond (fun h=>?_) (fun h=>?_))<;>(try(exfalso;assumption)))|(((with_reducible refine G_region fun K E hK hE=>?_))<;>(try simp(disch:=assumption) only[go_sem,seval, *]))))
 all_goals(refine W_ret res33 hQ ?_)
 all_goals(refine⟨_,_,Wk.of_eq ?_,?_,rfl,rfl⟩)
 all_goals first|rfl|(exact z_fg)
set_option maxHeartbeats 4000000 in
theorem Qnew_S (s:St)(o p:Nat)(d:Int)(c:VV)(h:s o=.obj 116 (opsC p d 0 c)) :
  SCalls Tryz.prog 49 [.ptr o 0] s fun w u=>∃q,w=.ret (.tup [.ptr q 0,.int .i64 0])∧u=s.set q (.obj 83 [.ptr o 0,.ptr p 0])∧s q=.free:=by
 have w1:=Ostore_S s o p d c h
 refine G_enter Tryz.func49 rfl Tryz.ntmps49 rfl fun Q hQ hQe=>?_
 (repeat'(first|refine Ctl ?_|((with_reducible refine Kof.use hK ?_);clear hK hE K E)|((with_reducible refine W_cond (fun h=>?_) (fun h=>?_))<;>(try(exfalso;assumption)))|((first|(with_reducible first|refine G_region fun K E hK hE=>?_|refine call_ret can33 (w1) ?_)|((with_reducible refine W_fresh (fun b hb=>?_))))<;>(try simp(disch:=assumption) only[go_sem,seval, *]))))
 all_goals(refine W_ret res49 hQ ?_)
 exact⟨_,_,Wk.refl _,Fg.refl _,b,rfl,rfl,hb⟩
set_option maxHeartbeats 4000000 in
theorem Qops_S (s:St)(q o p:Nat)(h:s q=.obj 83 [.ptr o 0,.ptr p 0]) :
  SRet Tryz.prog 18 [.ptr q 0] s (.ptr o 0) s:=by
 refine G_enter Tryz.func18 rfl Tryz.ntmps18 rfl fun Q hQ hQe=>?_
 (repeat'(first|refine Ctl ?_|((with_reducible refine Kof.use hK ?_);clear hK hE K E)|((with_reducible refine W_cond (fun h=>?_) (fun h=>?_))<;>(try(exfalso;assumption)))|(((with_reducible refine G_region fun K E hK hE=>?_))<;>(try simp(disch:=assumption) only[go_sem,seval, *]))))
 all_goals(refine W_ret res18 hQ ?_)
 all_goals(refine⟨_,_,Wk.of_eq ?_,?_,rfl,rfl⟩)
 all_goals first|rfl|(exact z_fg)
def bitsC (n w i:Nat):List VV:=(List.range w).map fun k=>.bool (decide (k<i) && n.testBit k)
def bitsL (n w:Nat):List (List VV):=(List.range w).map fun k=>[.bool (n.testBit k)]
theorem bitsC_len {n w i:Nat}:(bitsC n w i).length=w:=by simp[bitsC]
theorem bitsL_len {n w:Nat}:(bitsL n w).length=w:=by simp[bitsL]
theorem bitsL_at {n w k:Nat}(h:k<w):(bitsL n w)[k]?=some [.bool (n.testBit k)]:=by simp[bitsL,h]
theorem bitsC_new {n w:Nat}:List.replicate w (VV.bool false)=bitsC n w 0:=by
 apply List.ext_getElem
 ·simp[bitsC]
 ·intro i h1 h2
  simp[bitsC]
theorem bitsC_set {n w i:Nat}(h:i<w):splice (bitsC n w i) i [.bool (n.testBit i)]=bitsC n w (i+1):=by
 have:splice (bitsC n w i) i [VV.bool (n.testBit i)]=(bitsC n w i).set i (.bool (n.testBit i)):=by
  rw[splice,List.set_eq_take_append_cons_drop,if_pos (by rw[bitsC_len];exact h)]
  simp
 rw[this]
 apply List.ext_getElem
 ·simp[bitsC]
 ·intro j h1 h2
  simp only[bitsC,List.getElem_set,List.getElem_map,List.getElem_range]
  by_cases e:i=j
  ·subst e;simp
  ·rw[if_neg e]
   congr 2
   simp only[decide_eq_decide]
   omega
theorem bitsC_end {n w:Nat}:(bitsC n w w).map (fun y=>[y])=bitsL n w:=by
 simp only[bitsC,bitsL,List.map_map]
 apply List.map_congr_left
 intro k hk
 simp only[List.mem_range]at hk
 simp[hk]
theorem shr_zero {n w:Nat}(h:n<2 ^ w)(hw:w≤62):vint .shr .i64 (n:Int) (w:Int)=some (.int .i64 0):=by
 have hp:((2:Int) ^ w)=((2 ^ w:Nat):Int):=by simp
 have h0:(0:Int)≤(w:Int):=Int.natCast_nonneg _
 simp only[vint,if_pos h0]
 have h1:min ((w:Int).toNat) IntKind.i64.bits=w:=by simp[IntKind.bits];omega
 rw[h1,hp]
 have:((n:Int)).fdiv ((2 ^ w:Nat):Int)=0:=by
  rw[Int.fdiv_eq_ediv_of_nonneg _ (Int.natCast_nonneg _)]
  exact Int.ediv_eq_zero_of_lt (Int.natCast_nonneg _) (by omega)
 rw[this]
theorem shl_one {k:Nat}(hk:k≤62):vint .shl .i64 1 (k:Int)=some (.int .i64 ((2 ^ k:Nat):Int)):=by
 have h0:(0:Int)≤(k:Int):=Int.natCast_nonneg _
 simp only[vint,if_pos h0]
 have h1:min ((k:Int).toNat) IntKind.i64.bits=k:=by simp[IntKind.bits];omega
 have hp:((2:Int) ^ k)=((2 ^ k:Nat):Int):=by simp
 have hle:2 ^ k≤2 ^ 62:=Nat.pow_le_pow_right (by omega) hk
 rw[h1,Int.one_mul,hp]
 generalize 2 ^ k=p at *
 rw[wrap_i64 (by omega) (by omega)]
theorem and_two {n k:Nat}:n &&& 2 ^ k=if n.testBit k=true then 2 ^ k else 0:=by
 apply Nat.eq_of_testBit_eq
 intro i
 rw[Nat.testBit_and,Nat.testBit_two_pow]
 by_cases e:k=i
 ·subst e
  cases h:n.testBit k<;>simp
 ·cases h:n.testBit k<;>simp[Nat.testBit_two_pow,e]
theorem and_bit {n k:Nat}(hn:n<2 ^ 63)(hk:k≤62):∃r:Int,vint .and .i64 (n:Int) ((2 ^ k:Nat):Int)=some (.int .i64 r)∧decide (r=0)=!n.testBit k:=by
 have hle:2 ^ k≤2 ^ 62:=Nat.pow_le_pow_right (by omega) hk
 have hpos:0<2 ^ k:=Nat.two_pow_pos k
 refine⟨_,rfl,?_⟩
 have e:(BitVec.ofInt IntKind.i64.bits (n:Int) &&& BitVec.ofInt IntKind.i64.bits ((2 ^ k:Nat):Int)).toNat=n &&& 2 ^ k:=by
  rw[BitVec.toNat_and]
  simp only[IntKind.bits]
  rw[BitVec.ofInt_natCast,BitVec.ofInt_natCast,BitVec.toNat_ofNat,BitVec.toNat_ofNat,Nat.mod_eq_of_lt (by omega),Nat.mod_eq_of_lt (by omega)]
 unfold bAnd
 rw[e,and_two]
 generalize 2 ^ k=p at *
 cases n.testBit k
 ·simp;rfl
 ·simp only[if_true]
  rw[wrap_i64 (by omega) (by omega)]
  simp
  omega
attribute [-go_sem] p_and p_shl p_shr
set_option maxHeartbeats 4000000 in
theorem Bput_S (s:St)(n w:Nat)(hw:w≤62)(hn:n<2 ^ w) :
  SRet Tryz.prog 41 [.int .i64 n,.int .i64 w] s (.tup [.lst (bitsL n w) .no,.int .i64 0]) s:=by
 have hle:2 ^ w≤2 ^ 62:=Nat.pow_le_pow_right (by omega) hw
 have h1:¬ (w:Int)<0:=by omega
 have h2:¬ (w:Int) > 62:=by omega
 have h3:¬ (n:Int)<0:=by omega
 have h4:=shr_zero hn hw
 have hz:=bitsC_new (n:=n) (w:=w)
 have hE:=bitsC_end (n:=n) (w:=w)
 have hn63:n<2 ^ 63:=by omega
 have HN:=Lib.hid hn63
 clear hn hle hn63
 refine G_enter Tryz.func41 rfl Tryz.ntmps41 rfl fun Q hQ hQe=>?_
 (repeat'(first|refine Ctl ?_|((with_reducible refine Kof.use hK ?_);clear hK hE K E)|((with_reducible refine W_cond (fun h=>?_) (fun h=>?_))<;>(try(exfalso;assumption)))|((first|(with_reducible first|refine G_region fun K E hK hE=>?_|refine W_and ?_)|((with_reducible refine W_fresh (fun b hb=>?_))))<;>(try simp(disch:=assumption) only[go_sem,seval,h4,hz, *]))))
 refine G_loop (fun m env s'=>∃(i:Nat),i≤w∧m+i=w∧s'=s.set b (.obj 4 (bitsC n w i))∧env 0=.int .i64 n∧env 6=.msl b w∧env 26=.int .i64 w∧env 27=.int .i64 i) w ?_ ?_
 ·exact⟨_,Fg.refl _,0,by omega,by omega,rfl,z_sl,z_sl,z_sl,z_sl⟩
 ·rintro m env s' ⟨i,hi,hm,rfl,e0,e6,e26,e27⟩
  by_cases h5:i<w
  ·have a1:=shl_one (k:=i) (by omega)
   obtain⟨r,a2,a3⟩:=and_bit (k:=i) HN.out (by omega)
   have a4:=bitsC_set (n:=n) h5
   have a5:(bitsC n w i).length=w:=bitsC_len
   generalize ((2 ^ i:Nat):Int)=P at *
   generalize n.testBit i=tb at *
   generalize hX:bitsC n w i=X at *
   generalize hY:bitsC n w (i+1)=Y at *
   have HY:=Lib.hid hY
   clear hX hY hE hz
   (repeat'(first|refine Ctl ?_|((with_reducible refine Kof.use hK ?_);clear hK hE K E)|((with_reducible refine W_cond (fun h=>?_) (fun h=>?_))<;>(try(exfalso;assumption)))|(((with_reducible first|refine G_region fun K E hK hE=>?_|refine W_ifS ?_))<;>(try simp(disch:=omega) only[go_sem,seval,a1,a2,a3,a4,a5,Bool.not_not, *]))))
   all_goals exact⟨_,Fg.refl _,m - 1,by omega,i+1,by omega,by omega,by rw[HY.out],z_sl,z_sl,z_sl,z_sl⟩
  ·obtain rfl:i=w:=by omega
   (repeat'(first|(with_reducible refine Kp_atQ 9 ?_)|refine Ctl ?_|((with_reducible refine Kof.use hK ?_);clear hK hE K E)|((with_reducible refine W_cond (fun h=>?_) (fun h=>?_))<;>(try(exfalso;assumption)))|(((with_reducible refine G_region fun K E hK hE=>?_))<;>(try simp(disch:=assumption) only[go_sem,seval,h4,hz, *]))))
   unfold StopQ
   refine Kp_frz 6 b i (St.set_same _ _ _) (z_sl) bitsC_len ?_
   rw[hE,St.set_set,St.set_self _ _ _ hb]
   (repeat'(first|refine Ctl ?_|((with_reducible refine Kof.use hK ?_);clear hK hE K E)|(((with_reducible refine G_region fun K E hK hE=>?_))<;>(try simp(disch:=assumption) only[go_sem,seval, *]))))
   (refine W_ret res41 hQ ?_)
   (refine⟨_,_,Wk.of_eq ?_,?_,rfl,rfl⟩)
   all_goals first|rfl|(exact z_fg)
end Go.Proofs.YtndlnadbnganeaaGreatDoor
namespace Go.Proofs.YtndlnadbnganeaaGreatDoor
open Go.RowKit
def domsC (ds:List (List UInt8×Nat)):List (List VV):=ds.map fun d=>[.str d.1,.int .i64 (d.2:Int)]
def atC (at_:List (List Nat)):List (List VV):=at_.map fun l=>[.lst (natsL l) .no]
theorem atC_at {at_:List (List Nat)}{d:Nat}{l:List Nat}(h:at_[d]?=some l):(atC at_)[d]?=some [.lst (natsL l) .no]:=by simp[atC,h]
theorem atC_len {at_:List (List Nat)}:(atC at_).length=at_.length:=by simp[atC]
theorem domsC_at {ds:List (List UInt8×Nat)}{d:Nat}{x:List UInt8×Nat}(h:ds[d]?=some x):(domsC ds)[d]?=some [.str x.1,.int .i64 (x.2:Int)]:=by simp[domsC,h]
theorem domsC_len {ds:List (List UInt8×Nat)}:(domsC ds).length=ds.length:=by simp[domsC]
structure CMem (s:St) (K:OB) (q c n B:Nat) (ns:List Tr) (ds:List (List UInt8×Nat)) (at_:List (List Nat)):Prop where
 om:OMem s K n B ns
 qo:s q=.obj 83 [.ptr K.o 0,.ptr K.s.p 0]
 co:s c=.obj 63 [.ptr q 0,.lst (domsC ds) .no,.lst (atC at_) .no]
theorem OMem.types {s:St}{K:OB}{n B:Nat}{ns:List Tr}(h:OMem s K n B ns){z:Nat}{T:TypeId}{xs:List VV}(hz:s z=.obj T xs)(h1:T≠129)(h2:T≠184)(h3:T≠116):¬ K.has z:=by
 obtain⟨mk,hm⟩:=h.st.mem
 obtain⟨ps,ht,_⟩:=h.st.tab
 obtain⟨d,c,ho⟩:=h.op
 rintro((e|e|e|e)|e|e)
 ·have:=hm.o;rw[← e,hz]at this;injection this with a;exact h1 a
 ·have:=hm.r;rw[← e,hz]at this;cases this
 ·have:=ht.tab.o;rw[← e,hz]at this;injection this with a;exact h2 a
 ·have:=ht.tab.r;rw[← e,hz]at this;cases this
 ·rw[← e,hz]at ho;injection ho with a;exact h3 a
 ·rcases h with h|h
  ·rw[h.c]at e;have:=h.ob;rw[← e,hz]at this;injection this with a;exact h3 a
  ·obtain⟨xs,he,_⟩:=h.ca;rw[← e,hz]at he;cases he
theorem CMem.nq {s:St}{K:OB}{q c n B:Nat}{ns:List Tr}{ds:List (List UInt8×Nat)}{at_:List (List Nat)}(h:CMem s K q c n B ns ds at_):¬ K.has q∧¬ K.has c∧s q≠.free∧s c≠.free:=
 ⟨h.om.types h.qo (by decide) (by decide) (by decide),h.om.types h.co (by decide) (by decide) (by decide),by rw[h.qo];simp,by rw[h.co];simp⟩
theorem CMem.keep {s u:St}{K K':OB}{q c n B:Nat}{ns ns':List Tr}{ds:List (List UInt8×Nat)}{at_:List (List Nat)}(h:CMem s K q c n B ns ds at_)(hm:OMem u K' n B ns')(hk:OKeep s u K K'):CMem u K' q c n B ns' ds at_:=by
 obtain⟨a,b,d,e⟩:=h.nq
 exact⟨hm,by rw[hk.out _ d a,h.qo,hk.o,hk.p],by rw[hk.out _ e b,h.co]⟩
set_option maxHeartbeats 4000000 in
theorem Clit_S {s:St}{K:OB}{q c n B v:Nat}{ns:List Tr}{ds:List (List UInt8×Nat)}{at_:List (List Nat)}(hC:CMem s K q c n B ns ds at_)(hv:v<n)(b:Bool){N:Nat}(hc:CntN ns N)(hB:N+1≤B) :
  OpFC 38 [.ptr c 0,.int .i64 v,.bool b] s K n B ns (N+1) (fun x=>x v == b):=by
 obtain⟨d,cc,ho⟩:=hC.om.op
 have w1:=Qops_S s q K.o K.s.p hC.qo
 have w2:=Ostore_S s K.o K.s.p d cc ho
 have c0:=hC.om.c0
 have hs1:∀g:(Nat→Bool)→Bool,DepF [v] g→SubN (treeT n g) 1:=fun g hg=>subN_tree (k:=1) (by simpa using hv) hg (by simp)
 have hco:=hC.co
 have hX:OpFC 43 [.ptr K.s.p 0,.int .i64 v,.int .i64 (if b then 0 else 1),.int .i64 (if b then 1 else 0)] s K n B ns (N+1) (fun x=>x v == b):=by
  have w:=Nmk_F (S:=[]) (v:=v) hC.om (f:=fun _=>!b) (g:=fun _=>b) (fun _ _ _=>rfl) (fun _ _ _=>rfl) (by simp) hv (by cases b;exact c0.2.1;exact c0.1.1) (by cases b;exact c0.1.1;exact c0.2.1) hc (hs1 _ fun x y e=>by simp only[e v (by simp)]) hB
  have e1:(fun x:Nat→Bool=>if x v=true then b else !b)=fun x=>x v == b:=by
   funext x
   cases x v<;>cases b<;>rfl
  rw[e1]at w
  cases b
  ·simp only[Bool.not_false]at w
   rw[c0.1.2,c0.2.2]at w
   exact w
  ·simp only[Bool.not_true]at w
   rw[c0.1.2,c0.2.2]at w
   exact w
 unfold OpFC at hX ⊢
 unfold opsC at ho
 clear c0 hs1 hC hv hc hB
 cases b
 all_goals
  simp only[Bool.false_eq_true,if_true,if_false]at hX
  refine G_enter Tryz.func38 rfl Tryz.ntmps38 rfl fun Q hQ hQe=>?_
  (repeat'(first|refine Ctl ?_|((with_reducible refine Kof.use hK ?_);clear hK hE K E)|((with_reducible refine W_cond (fun h=>?_) (fun h=>?_))<;>(try(exfalso;assumption)))|(((with_reducible first|refine G_region fun K E hK hE=>?_|refine call_ret can18 (w1) ?_|refine call_ret can33 (w2) ?_))<;>(try simp(disch:=assumption) only[go_sem,seval, *]))))
  refine call_ex can43 hX (fun a h=>?_)
  obtain⟨u2,K2,ns2⟩:=a
  have HR:=Lib.hid h
  clear h hX
  simp only[go_sem,seval]
  (repeat'(first|refine Ctl ?_|((with_reducible refine Kof.use hK ?_);clear hK hE K E)))
  (refine W_ret res38 hQ ?_)
  exact⟨_,_,Wk.refl _,Fg.refl _,mkA3 (K2,ns2) rfl HR.out⟩
theorem OpF.trans {s s1:St}{K K1:OB}{n B N2:Nat}{ns ns1:List Tr}{g:(Nat→Bool)→Bool}{a:IteA}(h:OpF s1 K1 n B ns1 N2 g a)(hk:OKeep s s1 K K1)(hp:∃l,ns1=ns++l):OpF s K n B ns N2 g a:=by
 obtain⟨l,rfl⟩:=hp
 obtain⟨l2,e⟩:=h.pre
 exact⟨h.m,⟨l++l2,by rw[e,List.append_assoc]⟩,h.mem,h.cnt,hk.trans h.k⟩
theorem pre_trans {a b c:List Tr}(h:∃l,b=a++l)(k:∃l,c=b++l):∃l,c=a++l:=by
 obtain⟨l,rfl⟩:=h
 obtain⟨m,rfl⟩:=k
 exact⟨l++m,List.append_assoc _ _ _⟩
structure LeI (s:St) (K:OB) (q c n B:Nat) (ns:List Tr) (ds:List (List UInt8×Nat)) (at_:List (List Nat)) (vs:List Nat) (k N i:Nat) (s':St) (K':OB) (ns':List Tr) (g:(Nat→Bool)→Bool):Prop where
 m:CMem s' K' q c n B ns' ds at_
 kp:OKeep s s' K K'
 pre:∃l,ns'=ns++l
 mem:treeT n g∈ns'
 cnt:CntN ns' (N+i * 2 ^ vs.length)
 dep:DepF vs g
 fin:leG (zipB k i (vs.drop i)) g=fun x=>decide (k≤numA vs x)
theorem DepF.and {S:List Nat}{f g:(Nat→Bool)→Bool}(hf:DepF S f)(hg:DepF S g):DepF S fun x=>f x && g x:=fun x y e=>by simp only[hf x y e,hg x y e]
theorem DepF.or {S:List Nat}{f g:(Nat→Bool)→Bool}(hf:DepF S f)(hg:DepF S g):DepF S fun x=>f x || g x:=fun x y e=>by simp only[hf x y e,hg x y e]
theorem DepF.diff {S:List Nat}{f g:(Nat→Bool)→Bool}(hf:DepF S f)(hg:DepF S g):DepF S fun x=>f x && !g x:=fun x y e=>by simp only[hf x y e,hg x y e]
theorem DepF.xor {S:List Nat}{f g:(Nat→Bool)→Bool}(hf:DepF S f)(hg:DepF S g):DepF S fun x=>f x ^^ g x:=fun x y e=>by simp only[hf x y e,hg x y e]
theorem DepF.not {S:List Nat}{f:(Nat→Bool)→Bool}(hf:DepF S f):DepF S fun x=>!f x:=fun x y e=>by simp only[hf x y e]
theorem DepF.lit {S:List Nat}{v:Nat}(h:v∈S)(b:Bool):DepF S fun x=>x v == b:=fun x y e=>by simp only[e v h]
theorem LeI.next {s:St}{K:OB}{q c n B:Nat}{ns:List Tr}{ds:List (List UInt8×Nat)}{at_:List (List Nat)}{vs:List Nat}{k N i v w M:Nat}{s':St}{K':OB}{ns':List Tr}{g g':(Nat→Bool)→Bool}{u1 u2:St}{K1 K2:OB}{ns1 ns2:List Tr}
  (I:LeI s K q c n B ns ds at_ vs k N i s' K' ns' g) (hvi:vs[i]?=some v) (hw:vs.length=w) (hM:M=N+i * 2 ^ w) (h1:OpF s' K' n B ns' (M+1) (fun x=>x v == true) (u1,K1,ns1))
  (h2:OpF u1 K1 n B ns1 (M+1+(2 ^ w - 1)) g' (u2,K2,ns2)) (hg:g'=fun x=>if k.testBit i=true then(x v == true) && g x else(x v == true) || g x) (hdep:DepF vs g'):LeI s K q c n B ns ds at_ vs k N (i+1) u2 K2 ns2 g':=by
 have hpw:0<2 ^ w:=Nat.two_pow_pos w
 refine⟨(I.m.keep h1.m h1.k).keep h2.m h2.k,I.kp.trans (h1.k.trans h2.k),pre_trans I.pre (pre_trans h1.pre h2.pre),h2.mem,h2.cnt.mono ?_,hdep,?_⟩
 ·rw[hw,hM,Nat.add_mul,Nat.one_mul]
  omega
 ·have hl:=(List.getElem?_eq_some_iff.1 hvi).1
  have e:vs.drop i=v::vs.drop (i+1):=by
   rw[List.drop_eq_getElem_cons hl]
   congr 1
   rw[List.getElem?_eq_getElem hl]at hvi
   injection hvi
  have h3:=I.fin
  rw[e]at h3
  simp only[zipB,leG]at h3
  rw[← h3,hg]
  congr 1
  funext x
  cases x v<;>cases k.testBit i<;>simp
set_option maxHeartbeats 8000000 in
theorem Cleast_S {s:St}{KK:OB}{q c n B d k N:Nat}{vs:List Nat}{ns:List Tr}{ds:List (List UInt8×Nat)}{at_:List (List Nat)}(hC:CMem s KK q c n B ns ds at_)(hd:at_[d]?=some vs)(hv:∀v,v∈vs→v<n)(hw:vs.length≤62)(hk:k<2 ^ vs.length)(hc:CntN ns N)(hB:N+vs.length * 2 ^ vs.length≤B) :
  OpFC 60 [.ptr c 0,.int .i64 d,.int .i64 k] s KK n B ns (N+vs.length * 2 ^ vs.length) (fun x=>decide (k≤numA vs x)):=by
 have w0:=fun s=>Bput_S s k vs.length hw hk
 have c0:=hC.om.c0.2
 have I0:LeI s KK q c n B ns ds at_ vs k N 0 s KK ns (fun _=>true):=⟨hC,.refl _ _,⟨[],by simp⟩,c0.1,by simpa using hc,fun _ _ _=>rfl,by rw[List.drop_zero];funext x;exact leG_ge hk⟩
 have e8:=c0.2
 have hat:=atC_at hd
 have hln:(natsL vs).length=vs.length:=natsL_len
 have hl2:(bitsL k vs.length).length=vs.length:=bitsL_len
 have hco:=hC.co
 have hb1:=fun(j:Nat) (h:j<vs.length)=>bitsL_at (n:=k) h
 have hb2:=fun(j v:Nat) (h:vs[j]?=some v)=>natsL_at h
 have HW:=Lib.hid hw
 have HI:=Lib.hid I0
 have HB:=Lib.hid hB
 have HV:=Lib.hid hv
 have HB1:=Lib.hid hb1
 have HB2:=Lib.hid hb2
 unfold OpFC
 clear I0 hC hd hv hk hc hB c0 hb1 hb2
 generalize bitsL k vs.length=L at *
 generalize hAA:atC at_=A at *
 have HAA:=Lib.hid hAA
 clear hAA
 generalize natsL vs=V at *
 generalize hwl:vs.length=w at *
 have HWL:=Lib.hid hwl
 clear hwl
 have hd0:(0:Int)≤d:=Int.natCast_nonneg _
 refine G_enter Tryz.func60 rfl Tryz.ntmps60 rfl fun Q hQ hQe=>?_
 (repeat'(first|refine Ctl ?_|((with_reducible refine Kof.use hK ?_);clear hK hE K E)|(((with_reducible first|refine G_region fun K E hK hE=>?_|refine call_ret can41 (w0 _) ?_))<;>(try simp(disch:=assumption) only[go_sem,seval,hat,hln,hl2, *]))))
 refine G_loop (fun m env s'=>∃(i:Nat) (K':OB) (ns':List Tr) (g:(Nat→Bool)→Bool),i≤w∧m+i=w∧Hid (LeI s KK q c n B ns ds at_ vs k N i s' K' ns' g)∧s' c=.obj 63 [.ptr q 0,.lst (domsC ds) .no,.lst A .no]∧env 0=.ptr c 0∧env 1=.int .i64 d∧env 8=.int .i64 (ixF n ns' g:Nat)∧env 28=.lst L .no∧env 29=.int .i64 w∧env 30=.int .i64 i) w ?_ ?_
 ·exact⟨_,Fg.refl _,0,KK,ns,fun _=>true,by omega,by omega,HI,hco,z_sl,z_sl,by(rw[e8];((try simp(disch:=assumption) only[go_sem,seval, *])<;>rfl)),z_sl,z_sl,z_sl⟩
 ·rintro m env s' ⟨i,K',ns',g,hi,hm,II,hcs,e0,e1,e8,e28,e29,e30⟩
  have I:=II.out
  by_cases h5:i<w
  ·obtain⟨v,hvi⟩:∃v,vs[i]?=some v:=⟨_,List.getElem?_eq_getElem (by rw[HWL.out];exact h5)⟩
   have hvm:=List.mem_of_getElem? hvi
   have hpw:0<2 ^ w:=Nat.two_pow_pos w
   have hroom:N+i * 2 ^ w+2 ^ w≤B:=by
    have h1:i * 2 ^ w+2 ^ w=(i+1) * 2 ^ w:=by rw[Nat.add_mul,Nat.one_mul]
    have h2:(i+1) * 2 ^ w≤w * 2 ^ w:=Nat.mul_le_mul_right _ h5
    have:=HB.out
    omega
   have hcnt:=I.cnt
   rw[HWL.out]at hcnt
   have wl:=Clit_S I.m (HV.out v hvm) true hcnt (by omega)
   have hx1:=HB1.out i h5
   have hx2:=HB2.out i v hvi
   have HVI:=Lib.hid hvi
   have HVM:=Lib.hid hvm
   have HCNT:=Lib.hid hcnt
   have HR:=Lib.hid hroom
   have HPW:=Lib.hid hpw
   have hkc:=I.m.co
   unfold OpFC at wl
   clear I hcnt hvi hvm hroom hkc hpw
   generalize htb:k.testBit i=tb at *
   have HTB:=Lib.hid htb
   clear htb
   cases tb
   case false=>
    (repeat'(first|refine Ctl ?_|((with_reducible refine Kof.use hK ?_);clear hK hE K E)|((with_reducible refine W_cond (fun h=>?_) (fun h=>?_))<;>(try(exfalso;assumption)))|(((with_reducible refine G_region fun K E hK hE=>?_))<;>(try simp(disch:=assumption) only[go_sem,seval,hat,hx1,hx2,hln,hl2, *]))))
    refine call_ex can38 wl (fun a h=>?_)
    obtain⟨u1,K1,ns1⟩:=a
    have I:=II.out
    have hm1:=I.m.keep h.m h.k
    have mg:=sub_of h.pre I.mem
    have dl:DepF vs fun x:Nat→Bool=>x v == true:=.lit HVM.out true
    have hgn:Hang n g:=I.dep.hang HV.out
    have hln':Hang n fun x:Nat→Bool=>x v == true:=dl.hang HV.out
    dsimp only at h mg hm1 ⊢
    have wq:=Qops_S u1 q K1.o K1.s.p hm1.qo
    have hcs1:=hm1.co
    have hsub:SubN (treeT n fun x=>(x v == true) || g x) (2 ^ w - 1):=by
     have:=subN_tree (S:=vs) HV.out (dl.or I.dep) (Nat.le_refl vs.length)
     rw[HWL.out]at this
     exact this
    have wo:=OOr_F hm1.om hln' hgn h.mem mg.1 h.cnt hsub (by have:=HR.out;have:=HPW.out;omega)
    have e8':ixF n ns1 g=ixF n ns' g:=mg.2
    rw[e8']at wo
    have hdep:=dl.or I.dep
    have N1:=fun u2 K2 ns2 h2=>LeI.next (u2:=u2) (K2:=K2) (ns2:=ns2) I HVI.out HWL.out rfl h h2 (by rw[HTB.out];rfl) hdep
    have HN1:=Lib.hid N1
    have hm1':=Lib.hid hm1
    unfold OpFC at wo
    clear N1 hdep e8' hsub hm1 mg dl hgn hln' I h wl
    generalize hA2:atC at_=A2 at hcs1
    obtain rfl:A2=A:=hA2.symm.trans HAA.out
    clear hA2
    simp only[go_sem,seval]
    (repeat'(first|refine Ctl ?_|((with_reducible refine Kof.use hK ?_);clear hK hE K E)|((with_reducible refine W_cond (fun h=>?_) (fun h=>?_))<;>(try(exfalso;assumption)))|(((with_reducible first|refine G_region fun K E hK hE=>?_|refine call_ret can18 (wq) ?_))<;>(try simp(disch:=assumption) only[go_sem,seval, *]))))
    refine call_ex can19 wo (fun a h=>?_)
    obtain⟨u2,K2,ns2⟩:=a
    have h3:=HN1.out u2 K2 ns2 h
    have h4:=h3.m.co
    rw[HAA.out]at h4
    have H3:=Lib.hid h3
    clear h h3 wo
    dsimp only
    simp only[go_sem,seval]
    (repeat'(first|refine Ctl ?_|((with_reducible refine Kof.use hK ?_);clear hK hE K E)|((with_reducible refine W_cond (fun h=>?_) (fun h=>?_))<;>(try(exfalso;assumption)))|(((with_reducible refine G_region fun K E hK hE=>?_))<;>(try simp(disch:=omega) only[go_sem,seval, *]))))
    exact⟨_,Fg.refl _,m - 1,by omega,i+1,K2,ns2,_,by omega,by omega,H3,h4,z_sl,z_sl,z_sl,z_sl,z_sl,z_sl⟩
   case true=>
    (repeat'(first|refine Ctl ?_|((with_reducible refine Kof.use hK ?_);clear hK hE K E)|((with_reducible refine W_cond (fun h=>?_) (fun h=>?_))<;>(try(exfalso;assumption)))|(((with_reducible refine G_region fun K E hK hE=>?_))<;>(try simp(disch:=assumption) only[go_sem,seval,hat,hx1,hx2,hln,hl2, *]))))
    refine call_ex can38 wl (fun a h=>?_)
    obtain⟨u1,K1,ns1⟩:=a
    have I:=II.out
    have hm1:=I.m.keep h.m h.k
    have mg:=sub_of h.pre I.mem
    have dl:DepF vs fun x:Nat→Bool=>x v == true:=.lit HVM.out true
    have hgn:Hang n g:=I.dep.hang HV.out
    have hln':Hang n fun x:Nat→Bool=>x v == true:=dl.hang HV.out
    dsimp only at h mg hm1 ⊢
    have wq:=Qops_S u1 q K1.o K1.s.p hm1.qo
    have hcs1:=hm1.co
    have hsub:SubN (treeT n fun x=>(x v == true) && g x) (2 ^ w - 1):=by
     have:=subN_tree (S:=vs) HV.out (dl.and I.dep) (Nat.le_refl vs.length)
     rw[HWL.out]at this
     exact this
    have wo:=OAnd_F hm1.om hln' hgn h.mem mg.1 h.cnt hsub (by have:=HR.out;have:=HPW.out;omega)
    have e8':ixF n ns1 g=ixF n ns' g:=mg.2
    rw[e8']at wo
    have hdep:=dl.and I.dep
    have N1:=fun u2 K2 ns2 h2=>LeI.next (u2:=u2) (K2:=K2) (ns2:=ns2) I HVI.out HWL.out rfl h h2 (by rw[HTB.out];rfl) hdep
    have HN1:=Lib.hid N1
    have hm1':=Lib.hid hm1
    unfold OpFC at wo
    clear N1 hdep e8' hsub hm1 mg dl hgn hln' I h wl
    generalize hA2:atC at_=A2 at hcs1
    obtain rfl:A2=A:=hA2.symm.trans HAA.out
    clear hA2
    simp only[go_sem,seval]
    (repeat'(first|refine Ctl ?_|((with_reducible refine Kof.use hK ?_);clear hK hE K E)|((with_reducible refine W_cond (fun h=>?_) (fun h=>?_))<;>(try(exfalso;assumption)))|(((with_reducible first|refine G_region fun K E hK hE=>?_|refine call_ret can18 (wq) ?_))<;>(try simp(disch:=assumption) only[go_sem,seval, *]))))
    refine call_ex can23 wo (fun a h=>?_)
    obtain⟨u2,K2,ns2⟩:=a
    have h3:=HN1.out u2 K2 ns2 h
    have h4:=h3.m.co
    rw[HAA.out]at h4
    have H3:=Lib.hid h3
    clear h h3 wo
    dsimp only
    simp only[go_sem,seval]
    (repeat'(first|refine Ctl ?_|((with_reducible refine Kof.use hK ?_);clear hK hE K E)|((with_reducible refine W_cond (fun h=>?_) (fun h=>?_))<;>(try(exfalso;assumption)))|(((with_reducible refine G_region fun K E hK hE=>?_))<;>(try simp(disch:=omega) only[go_sem,seval, *]))))
    exact⟨_,Fg.refl _,m - 1,by omega,i+1,K2,ns2,_,by omega,by omega,H3,h4,z_sl,z_sl,z_sl,z_sl,z_sl,z_sl⟩
  ·obtain rfl:i=w:=by omega
   have hI:=II.out
   have hg:=hI.fin
   rw[List.drop_eq_nil_of_le (by rw[HWL.out];exact Nat.le_refl _)]at hg
   have hg2:g=fun x=>decide (k≤numA vs x):=hg
   have hcn:=hI.cnt
   rw[HWL.out]at hcn
   have HR:Hid (OpF s KK n B ns (N+i * 2 ^ i) (fun x=>decide (k≤numA vs x)) (s',K',ns')):=Lib.hid ⟨hI.m.om,hI.pre,hg2 ▸ hI.mem,hcn,hI.kp⟩
   rw[hg2]at e8
   clear I hI hg hg2 hcn
   (repeat'(first|refine Ctl ?_|((with_reducible refine Kof.use hK ?_);clear hK hE K E)|((with_reducible refine W_cond (fun h=>?_) (fun h=>?_))<;>(try(exfalso;assumption)))|(((with_reducible refine G_region fun K E hK hE=>?_))<;>(try simp(disch:=assumption) only[go_sem,seval, *]))))
   (refine W_ret res60 hQ ?_)
   exact⟨_,_,Wk.refl _,Fg.refl _,mkA3 (K',ns') rfl HR.out⟩
def btwF (vs:List Nat)(lo hi:Nat)(x:Nat→Bool):Bool:=decide (lo≤numA vs x) && decide (numA vs x≤hi)
set_option maxHeartbeats 8000000 in
theorem Cbtw_S {s:St}{KK:OB}{q c n B d lo hi N:Nat}{vs:List Nat}{ns:List Tr}{ds:List (List UInt8×Nat)}{at_:List (List Nat)}(hC:CMem s KK q c n B ns ds at_)(hd:at_[d]?=some vs)(hv:∀v,v∈vs→v<n)(hw:vs.length≤61)(hk:lo<2 ^ vs.length)(hk2:hi<2 ^ vs.length)(hc:CntN ns N)(hB:N+(2 * vs.length+1) * 2 ^ vs.length≤B) :
  OpFC 31 [.ptr c 0,.int .i64 d,.int .i64 lo,.int .i64 hi] s KK n B ns (N+(2 * vs.length+1) * 2 ^ vs.length) (btwF vs lo hi):=by
 have hpw:0<2 ^ vs.length:=Nat.two_pow_pos _
 have hB1:N+vs.length * 2 ^ vs.length+(vs.length * 2 ^ vs.length+2 ^ vs.length)=N+(2 * vs.length+1) * 2 ^ vs.length:=by
  rw[Nat.add_mul,Nat.mul_assoc,Nat.one_mul]
  omega
 have w1:=Cleast_S hC hd hv (by omega) hk hc (by omega)
 have d1:DepF vs fun x=>decide (lo≤numA vs x):=fun x y e=>by simp only[numA_congr e]
 have hat:=atC_at hd
 have hln:(natsL vs).length=vs.length:=natsL_len
 have hco:=hC.co
 have hsh:=shl_one (k:=vs.length) (by omega)
 have hadd:IntKind.i64.wrap ((hi+1:Nat):Int)=((hi+1:Nat):Int):=by
  have:2 ^ vs.length≤2 ^ 61:=Nat.pow_le_pow_right (by omega) hw
  generalize 2 ^ vs.length=P at *
  rw[wrap_i64 (by omega) (by omega)]
 have HB1:=Lib.hid hB1
 have HB:=Lib.hid hB
 have HD:=Lib.hid hd
 have HV:=Lib.hid hv
 have HW:=Lib.hid hw
 have HC:=Lib.hid hC
 have HCN:=Lib.hid hc
 have HD1:=Lib.hid d1
 have hd0:(0:Int)≤d:=Int.natCast_nonneg _
 by_cases h5:hi+1<2 ^ vs.length
 ·have h6:¬ ((hi+1:Nat):Int)≥((2 ^ vs.length:Nat):Int):=by omega
  have HK2:=Lib.hid h5
  unfold OpFC at w1 ⊢
  clear hC hd hv hw hk hk2 hc hB hB1 hpw d1 h5
  generalize hPP:((2 ^ vs.length:Nat):Int)=P at hsh h6
  obtain⟨hi1,hHH⟩:∃z,z=((hi+1:Nat):Int):=⟨_,rfl⟩
  rw[← hHH]at hadd h6
  replace hHH:=hHH.symm
  have HHH:=Lib.hid hHH
  obtain⟨w,hLL⟩:∃w,w=vs.length:=⟨_,rfl⟩
  rw[← hLL]at hsh hln
  generalize hAA:atC at_=A at *
  have HAA:=Lib.hid hAA
  clear hPP hLL hAA
  refine G_enter Tryz.func31 rfl Tryz.ntmps31 rfl fun Q hQ hQe=>?_
  (repeat'(first|refine Ctl ?_|((with_reducible refine Kof.use hK ?_);clear hK hE K E)|(((with_reducible refine G_region fun K E hK hE=>?_))<;>(try simp(disch:=assumption) only[go_sem,seval, *]))))
  refine call_ex can60 w1 (fun a h=>?_)
  obtain⟨u1,K1,ns1⟩:=a
  have hm1:=HC.out.keep h.m h.k
  dsimp only at hm1 h ⊢
  have hcs1:=hm1.co
  rw[HAA.out]at hcs1
  have w2:=Cleast_S hm1 HD.out HV.out (by have:=HW.out;omega) HK2.out h.cnt (by have:=HB.out;have:=HB1.out;have:0<2 ^ vs.length:=Nat.two_pow_pos _;omega)
  unfold OpFC at w2
  rw[HHH.out]at w2
  have H1:=Lib.hid (And.intro h hm1)
  clear h hm1 w1
  simp only[go_sem,seval]
  (repeat'(first|refine Ctl ?_|((with_reducible refine Kof.use hK ?_);clear hK hE K E)|((with_reducible refine W_cond (fun h=>?_) (fun h=>?_))<;>(try(exfalso;assumption)))|(((with_reducible refine G_region fun K E hK hE=>?_))<;>(try simp(disch:=assumption) only[go_sem,seval,hat,hln,hsh,hadd, *]))))
  refine call_ex can60 w2 (fun a h2=>?_)
  obtain⟨u2,K2,ns2⟩:=a
  obtain⟨h,hm1⟩:=H1.out
  have hm2:=hm1.keep h2.m h2.k
  have mg:=sub_of h2.pre h.mem
  dsimp only at hm2 h2 mg ⊢
  have hcs2:=hm2.co
  rw[HAA.out]at hcs2
  have wq:=Qops_S u2 q K2.o K2.s.p hm2.qo
  have d2:DepF vs fun x=>decide (hi+1≤numA vs x):=fun x y e=>by simp only[numA_congr e]
  have hdd:=HD1.out.diff d2
  have hcn:=h2.cnt
  have wo:=ODiff_F hm2.om (HD1.out.hang HV.out) (d2.hang HV.out) mg.1 h2.mem hcn (subN_tree HV.out hdd (Nat.le_refl _)) (by have:=HB.out;have:=HB1.out;have:0<2 ^ vs.length:=Nat.two_pow_pos _;omega)
  have e1:(ixF n ns2 fun x=>decide (lo≤numA vs x))=ixF n ns1 fun x=>decide (lo≤numA vs x):=mg.2
  have e2:(fun x=>decide (lo≤numA vs x) && !decide (hi+1≤numA vs x))=btwF vs lo hi:=by
   funext x
   simp only[btwF]
   congr 1
   rw[Bool.eq_iff_iff]
   simp
   omega
  rw[e1,e2]at wo
  unfold OpFC at wo
  have HN:Hid (∀a,OpF u2 K2 n B ns2 (N+vs.length * 2 ^ vs.length+vs.length * 2 ^ vs.length+(2 ^ vs.length - 1)) (btwF vs lo hi) a→OpF s KK n B ns (N+(2 * vs.length+1) * 2 ^ vs.length) (btwF vs lo hi) a):=Lib.hid fun a h3=>by
   obtain⟨a1,a2,a3,a4,a5⟩:=OpF.trans h3 (h.k.trans h2.k) (pre_trans h.pre h2.pre)
   exact⟨a1,a2,a3,a4.mono (by have:=HB1.out;have:0<2 ^ vs.length:=Nat.two_pow_pos _;omega),a5⟩
  clear h hm1 h2 hm2 mg d2 hdd hcn e1 e2 w2
  simp only[go_sem,seval]
  (repeat'(first|refine Ctl ?_|((with_reducible refine Kof.use hK ?_);clear hK hE K E)|((with_reducible refine W_cond (fun h=>?_) (fun h=>?_))<;>(try(exfalso;assumption)))|(((with_reducible first|refine G_region fun K E hK hE=>?_|refine call_ret can18 (wq) ?_))<;>(try simp(disch:=assumption) only[go_sem,seval, *]))))
  refine call_ex can61 wo (fun a h=>?_)
  obtain⟨u3,K3,ns3⟩:=a
  have h3:=Lib.hid (HN.out _ h)
  clear h wo
  simp only[go_sem,seval]
  (repeat'(first|refine Ctl ?_|((with_reducible refine Kof.use hK ?_);clear hK hE K E)))
  (refine W_ret res31 hQ ?_)
  exact⟨_,_,Wk.refl _,Fg.refl _,mkA3 (K3,ns3) rfl h3.out⟩
 ·have h6:((hi+1:Nat):Int)≥((2 ^ vs.length:Nat):Int):=by omega
  have e2:(fun x=>decide (lo≤numA vs x))=btwF vs lo hi:=by
   funext x
   simp only[btwF]
   have:=numA_lt vs x
   have:numA vs x≤hi:=by omega
   simp[this]
  rw[e2]at w1
  unfold OpFC at w1 ⊢
  have HB1':Hid (N+vs.length * 2 ^ vs.length≤N+(2 * vs.length+1) * 2 ^ vs.length):=Lib.hid (by omega)
  clear hC hd hv hw hk hk2 hc hB hB1 hpw d1 h5 e2
  generalize hPP:((2 ^ vs.length:Nat):Int)=P at hsh h6
  obtain⟨hi1,hHH⟩:∃z,z=((hi+1:Nat):Int):=⟨_,rfl⟩
  rw[← hHH]at hadd h6
  replace hHH:=hHH.symm
  obtain⟨w,hLL⟩:∃w,w=vs.length:=⟨_,rfl⟩
  rw[← hLL]at hsh hln
  generalize hAA:atC at_=A at *
  have HAA:=Lib.hid hAA
  clear hPP hLL hAA
  refine G_enter Tryz.func31 rfl Tryz.ntmps31 rfl fun Q hQ hQe=>?_
  (repeat'(first|refine Ctl ?_|((with_reducible refine Kof.use hK ?_);clear hK hE K E)|(((with_reducible refine G_region fun K E hK hE=>?_))<;>(try simp(disch:=assumption) only[go_sem,seval, *]))))
  refine call_ex can60 w1 (fun a h=>?_)
  obtain⟨u1,K1,ns1⟩:=a
  have hm1:=HC.out.keep h.m h.k
  dsimp only at hm1 h ⊢
  have hcs1:=hm1.co
  rw[HAA.out]at hcs1
  have H1:Hid (OpF s KK n B ns (N+(2 * vs.length+1) * 2 ^ vs.length) (btwF vs lo hi) (u1,K1,ns1)):=Lib.hid ⟨h.m,h.pre,h.mem,h.cnt.mono HB1'.out,h.k⟩
  clear h hm1 w1
  simp only[go_sem,seval]
  (repeat'(first|refine Ctl ?_|((with_reducible refine Kof.use hK ?_);clear hK hE K E)|((with_reducible refine W_cond (fun h=>?_) (fun h=>?_))<;>(try(exfalso;assumption)))|(((with_reducible refine G_region fun K E hK hE=>?_))<;>(try simp(disch:=assumption) only[go_sem,seval,hat,hln,hsh,hadd, *]))))
  (refine W_ret res31 hQ ?_)
  exact⟨_,_,Wk.refl _,Fg.refl _,mkA3 (K1,ns1) rfl H1.out⟩
def badD (m:Nat)(z:Int):Bool:=decide (z<0) || decide ((m:Int)≤z)
def fixB (p:Int→Bool):List Int→Nat→Int
 |[],_=>-1
 |z::zs,i=>if p z=true then i else fixB p zs (i+1)
theorem fixB_any (p:Int→Bool):∀(zs:List Int) (i:Nat),decide (0≤fixB p zs i)=zs.any p
 |[],i=>by simp[fixB]
 |z::zs,i=>by
  have ih:=fixB_any p zs (i+1)
  by_cases h:p z=true
  ·have e:fixB p (z::zs) i=(i:Int):=if_pos h
   rw[e,List.any_cons]
   simp[h]
  ·have e:fixB p (z::zs) i=fixB p zs (i+1):=if_neg h
   rw[e,ih,List.any_cons]
   simp[h]
theorem natsL_ints (ks:List Nat):natsL ks=intsL (ks.map fun(k:Nat)=>(k:Int)):=by simp[natsL,intsL,List.map_map]
set_option maxHeartbeats 4000000 in
theorem Chas1_S (s:St)(bx c:Nat)(q:VV)(D A:List (List VV))(o1 o2:Own)(z:Int)(hb:s bx=.obj 23 [.ptr c 0])(hc:s c=.obj 63 [q,.lst D o1,.lst A o2]) :
  SRet Tryz.prog 59 [.int .i64 z,.ptr bx 0] s (.bool (badD D.length z)) s:=by
 unfold badD
 generalize hm:D.length=m at *
 by_cases h1:z<0
 ·have e:(decide (z<0) || decide ((m:Int)≤z))=true:=by simp[h1]
  rw[e]
  clear e
  refine G_enter Tryz.func59 rfl Tryz.ntmps59 rfl fun Q hQ hQe=>?_
  (repeat'(first|refine Ctl ?_|((with_reducible refine Kof.use hK ?_);clear hK hE K E)|(((with_reducible refine G_region fun K E hK hE=>?_))<;>(try simp(disch:=assumption) only[go_sem,seval, *]))))
  all_goals(refine W_ret res59 hQ ?_)
  all_goals(refine⟨_,_,Wk.of_eq ?_,?_,rfl,rfl⟩)
  all_goals first|rfl|(exact z_fg)
 ·have e:(decide (z<0) || decide ((m:Int)≤z))=decide ((m:Int)≤z):=by simp[h1]
  rw[e]
  clear e
  refine G_enter Tryz.func59 rfl Tryz.ntmps59 rfl fun Q hQ hQe=>?_
  (repeat'(first|refine Ctl ?_|((with_reducible refine Kof.use hK ?_);clear hK hE K E)|(((with_reducible refine G_region fun K E hK hE=>?_))<;>(try simp(disch:=assumption) only[go_sem,seval, *]))))
  all_goals(refine W_ret res59 hQ ?_)
  all_goals(refine⟨_,_,Wk.of_eq ?_,?_,rfl,rfl⟩)
  all_goals first|rfl|(exact z_fg)
set_option maxHeartbeats 4000000 in
theorem CixF_S (s:St)(bx c:Nat)(q:VV)(D A:List (List VV))(o1 o2 o3:Own)(zs:List Int)(hz:zs.length≤1000000)(hb:s bx=.obj 23 [.ptr c 0])(hc:s c=.obj 63 [q,.lst D o1,.lst A o2]) :
  SRet Tryz.prog 88 [.lst (intsL zs) o3,.fn 59 [.ptr bx 0]] s (.int .i64 (fixB (badD D.length) zs 0)) s:=by
 have w1:=fun z=>Chas1_S s bx c q D A o1 o2 z hb hc
 have hl:(intsL zs).length=zs.length:=intsL_len
 have hat:=fun(i:Nat) (z:Int) (h:zs[i]?=some z)=>intsL_at h
 generalize badD D.length=p at *
 have HA:=Lib.hid hat
 clear hat
 obtain⟨R,hR⟩:∃R,fixB p zs 0=R:=⟨_,rfl⟩
 rw[hR]
 have h0:Hid (fixB p (zs.drop 0) 0=R):=Lib.hid (by rw[List.drop_zero];exact hR)
 clear hR
 generalize intsL zs=L at *
 refine G_enter Tryz.func88 rfl Tryz.ntmps88 rfl fun Q hQ hQe=>?_
 (repeat'(first|refine Ctl ?_|((with_reducible refine Kof.use hK ?_);clear hK hE K E)|(((with_reducible refine G_region fun K E hK hE=>?_))<;>(try simp(disch:=assumption) only[go_sem,seval,hl, *]))))
 refine L_loop (fun m env s'=>∃(i:Nat),i≤zs.length∧m+i=zs.length∧Hid (fixB p (zs.drop i) i=R)∧s'=s∧env 0=.lst L o3∧env 1=.fn 59 [.ptr bx 0]∧env 7=.int .i64 zs.length∧env 8=.int .i64 i) zs.length
  ⟨0,by omega,by omega,h0,rfl,z_sl,z_sl,z_sl,z_sl⟩ ?_
 rintro m env s' ⟨i,hi,hm,HR,rfl,e0,e1,e7,e8⟩
 by_cases h2:i<zs.length
 ·have hx:=List.getElem?_eq_getElem h2
  have hd:=List.drop_eq_getElem_cons h2
  have hr:=HR.out
  rw[hd]at hr
  generalize zs[i]=z at *
  have hx2:=HA.out i z hx
  have w2:=w1 z
  simp only[fixB]at hr
  clear hd hx w1
  cases hp:p z
  ·rw[hp,if_neg (by simp)]at hr
   have HR2:=Lib.hid hr
   rw[hp]at w2
   clear hr hp
   (repeat'(first|refine Ctl ?_|((with_reducible refine Kof.use hK ?_);clear hK hE K E)|((with_reducible refine W_cond (fun h=>?_) (fun h=>?_))<;>(try(exfalso;assumption)))|(((with_reducible first|refine G_region fun K E hK hE=>?_|refine call_ret can59 (w2) ?_))<;>(try simp(disch:=omega) only[go_sem,seval,hx2, *]))))
   all_goals exact⟨m - 1,by omega,i+1,by omega,by omega,HR2,rfl,z_sl,z_sl,z_sl,z_sl⟩
  ·rw[hp,if_pos rfl]at hr
   subst hr
   rw[hp]at w2
   clear hp
   (repeat'(first|refine Ctl ?_|((with_reducible refine Kof.use hK ?_);clear hK hE K E)|((with_reducible refine W_cond (fun h=>?_) (fun h=>?_))<;>(try(exfalso;assumption)))|(((with_reducible first|refine G_region fun K E hK hE=>?_|refine call_ret can59 (w2) ?_))<;>(try simp(disch:=assumption) only[go_sem,seval,hx2, *]))))
   all_goals(refine W_ret res88 hQ ?_)
   all_goals(refine⟨_,_,Wk.of_eq ?_,?_,rfl,rfl⟩)
   all_goals first|rfl|(exact z_fg)
 ·have hr:=HR.out
  rw[List.drop_eq_nil_of_le (by omega)]at hr
  simp only[fixB]at hr
  subst hr
  clear HR h0
  (repeat'(first|refine Ctl ?_|((with_reducible refine Kof.use hK ?_);clear hK hE K E)|((with_reducible refine W_cond (fun h=>?_) (fun h=>?_))<;>(try(exfalso;assumption)))|(((with_reducible refine G_region fun K E hK hE=>?_))<;>(try simp(disch:=assumption) only[go_sem,seval, *]))))
  all_goals(refine W_ret res88 hQ ?_)
  all_goals(refine⟨_,_,Wk.of_eq ?_,?_,rfl,rfl⟩)
  all_goals first|rfl|(exact z_fg)
set_option maxHeartbeats 4000000 in
theorem Chas_S (s:St)(c:Nat)(q:VV)(D A:List (List VV))(o1 o2 o3:Own)(zs:List Int)(hz:zs.length≤1000000)(hc:s c=.obj 63 [q,.lst D o1,.lst A o2]) :
  SRet Tryz.prog 30 [.ptr c 0,.lst (intsL zs) o3] s (.bool (!zs.any (badD D.length))) s:=by
 have w0:=fun(t:St) (bx:Nat) (hb:t bx=.obj 23 [.ptr c 0]) (hc:t c=.obj 63 [q,.lst D o1,.lst A o2])=>CixF_S t bx c q D A o1 o2 o3 zs hz hb hc
 have hE:=fixB_any (badD D.length) zs 0
 generalize fixB (badD D.length) zs 0=R at *
 rw[← hE]
 clear hE
 have w1:∀(t:St) (bx:Nat) (hb:t bx=.obj 23 [.ptr c 0]) (hc:t c=.obj 63 [q,.lst D o1,.lst A o2]),SRet Tryz.prog 58 [.lst (intsL zs) o3,.fn 59 [.ptr bx 0]] t (.bool (decide (0≤R))) t:=fun t bx hb hc=>by
  have w:=w0 t bx hb hc
  clear w0 hz hb hc
  generalize intsL zs=L at *
  refine G_enter Tryz.func58 rfl Tryz.ntmps58 rfl fun Q hQ hQe=>?_
  (repeat'(first|refine Ctl ?_|((with_reducible refine Kof.use hK ?_);clear hK hE K E)|(((with_reducible first|refine G_region fun K E hK hE=>?_|refine call_ret can88 (w) ?_))<;>(try simp(disch:=assumption) only[go_sem,seval, *]))))
  all_goals(refine W_ret res58 hQ ?_)
  all_goals(refine⟨_,_,Wk.of_eq ?_,?_,rfl,rfl⟩)
  all_goals first|rfl|(exact z_fg)
 have hcf:s c≠.free:=by rw[hc];simp
 clear w0 hz
 generalize intsL zs=L at *
 refine G_enter Tryz.func30 rfl Tryz.ntmps30 rfl fun Q hQ hQe=>?_
 (repeat'(first|refine Ctl ?_|((with_reducible refine Kof.use hK ?_);clear hK hE K E)|((with_reducible refine W_cond (fun h=>?_) (fun h=>?_))<;>(try(exfalso;assumption)))|((first|(with_reducible first|refine G_region fun K E hK hE=>?_|refine call_ret can58 (w1 _ _ z_sl z_sl) ?_)|((with_reducible refine W_fresh (fun b hb=>?_));(try(obtain⟨_,_⟩:=nef hb hcf))))<;>(try simp(disch:=assumption) only[go_sem,seval, *]))))
 all_goals(refine W_ret res30 hQ ?_)
 all_goals(refine⟨_,_,Wk.of_eq ?_,?_,rfl,rfl⟩)
 all_goals first|rfl|(exact z_fg)
structure DOk (n:Nat) (ds:List (List UInt8×Nat)) (at_:List (List Nat)):Prop where
 len:at_.length=ds.length
 lt:∀l,l∈at_→∀v,v∈l→v<n
 nd:at_.flatten.Nodup
 w:∀(d:Nat) x l,ds[d]?=some x→at_[d]?=some l→1≤x.2∧x.2≤2 ^ l.length∧x.2≤1073741824∧l.length≤30
 m:ds.length≤32
theorem DOk.get {n:Nat}{ds:List (List UInt8×Nat)}{at_:List (List Nat)}(h:DOk n ds at_){d:Nat}(hd:d<ds.length):∃nm sz l,ds[d]?=some (nm,sz)∧at_[d]?=some l∧1≤sz∧sz≤2 ^ l.length∧sz≤1073741824∧l.length≤30∧∀v,v∈l→v<n:=by
 have h1:=List.getElem?_eq_getElem hd
 have h2:=List.getElem?_eq_getElem (show d<at_.length by rw[h.len];exact hd)
 obtain⟨a,b,c,e⟩:=h.w d _ _ h1 h2
 exact⟨_,_,_,h1,h2,a,b,c,e,h.lt _ (List.getElem_mem _)⟩
theorem badD_nat {m d:Nat}:badD m (d:Int)=!decide (d<m):=by
 unfold badD
 have h1:decide ((d:Int)<0)=false:=by simp
 rw[h1,Bool.false_or]
 by_cases h:d<m
 ·simp[h]
 ·simp[h];omega
end Go.Proofs.YtndlnadbnganeaaGreatDoor
