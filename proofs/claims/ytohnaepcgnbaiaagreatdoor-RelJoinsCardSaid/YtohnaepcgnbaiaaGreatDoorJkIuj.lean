/- Walks of functions that the claim reaches, and plain facts of them. Conditions: those in the statements. -/
import Derived.Test.YtohnaepcgnbaiaaGreatDoorJkIt
import Derived.Test.YtohnaepcgnbaiaaGreatDoorJkHej
import Derived.Test.YtohnaepcgnbaiaaGreatDoorJkGpj
set_option linter.unusedSimpArgs false
set_option linter.unusedVariables false
set_option maxRecDepth 100000
namespace Go.Proofs.YtohnaepcgnbaiaaGreatDoor
open Go.RowKit
structure OpQ (s:St) (K:OB) (n B:Nat) (ns:List Tr) (T:Tr) (a:gJ):Prop where
 m:OMem a.1 a.2.1 n B a.2.2
 e:ExtN ns a.2.2 T
 k:OKeep s a.1 K a.2.1
def OpC (f:FuncId)(xs:List VV)(s:St)(K:OB)(n B:Nat)(ns:List Tr)(T:Tr):Prop:=
 SCalls Tryz.prog f xs s fun w u=>∃a:gJ,w=.ret (.tup [.int .i64 (ixN a.2.2 T:Nat),.int .i64 0])/\u=a.1/\OpQ s K n B ns T a
theorem pB {α β γ:Type}{w:SEnd}{F:α×β×γ->VV}{R:α×β×γ->Prop}{s:α}(b:β×γ)(hw:w=.ret (F (s,b)))(hR:R (s,b)):∃a:α×β×γ,w=.ret (F a)/\s=a.1/\R a:=⟨(s,b),hw,rfl,hR⟩
set_option maxHeartbeats 4000000 in
theorem rN {s:St}{KK:OB}{n B:Nat}{ns:List Tr}(hO:OMem s KK n B ns){ta tb tc:Tr}(ha:ta∈ns)(hb:tb∈ns)(hc:tc∈ns)(hF:FitN ns (iteT n ta tb tc) B) :
  OpC 72 [.ptr KK.o 0,.int .i64 (ixN ns ta:Nat),.int .i64 (ixN ns tb:Nat),.int .i64 (ixN ns tc:Nat)] s KK n B ns (iteT n ta tb tc):=by
 have hN:=hO.st.ok
 have w1:=MG s KK n B ns hO [ixN ns ta,ixN ns tb,ixN ns tc] (fun k hk=>by
  simp only[AT,List.not_mem_nil,or_false]at hk
  rcases hk with rfl|rfl|rfl
  ·exact gD ha
  ·exact gD hb
  ·exact gD hc) (by simp) .full
 simp only[ak,List.map_cons,List.map_nil]at w1
 have w2:=fun(u:St) (K1:OB) (h:OMem1 u K1 n B ns)=>MH n 0 u K1 ns ta tb tc (by omega) h ha hb hc (hN.ok _ ha) (hN.ok _ hb) (hN.ok _ hc) hF
 unfold lE at w2
 unfold OpC
 have W2:=o_ w2
 clear w2 hF hN ha hb hc hO
 generalize ixN ns ta=ka at *
 generalize ixN ns tb=kb at *
 generalize ixN ns tc=kc at *
 refine am Tryz.func72 rfl Tryz.ntmps72 rfl fun Q hQ hQe=>?_
 (repeat'(first|refine Ctl ?_|((with_reducible refine k_ hK ?_);clear hK hE K E)|(((with_reducible refine ab fun K E hK hE=>?_))<;>(try simp(disch:=assumption) only[go_sem,seval, *]))))
 refine ao Mp w1 (fun a h=>?_)
 obtain⟨u1,K1⟩:=a
 obtain⟨m1,k1,e1⟩:=h
 dsimp only at m1 k1 e1 ⊢
 have w2:=W2.out u1 K1 m1
 rw[k1.o]at w2
 have HK:=o_ k1
 clear w1 k1 m1
 simp only[go_sem,seval]
 (repeat'(first|refine Ctl ?_|((with_reducible refine k_ hK ?_);clear hK hE K E)|((with_reducible refine ah (fun h=>?_) (fun h=>?_))<;>(try(exfalso;assumption)))|(((with_reducible refine ab fun K E hK hE=>?_))<;>(try simp(disch:=assumption) only[go_sem,seval, *]))))
 refine ao vJ w2 (fun a h=>?_)
 obtain⟨u2,K2,ns2⟩:=a
 obtain⟨m2,x2,k2,c2⟩:=h
 dsimp only at m2 x2 k2 ⊢
 have HR:Hid (OpQ s KK n B ns (iteT n ta tb tc) (u2,K2,ns2)):=o_ ⟨.inr m2,x2,HK.out.trans k2⟩
 clear m2 x2 k2 w2
 simp only[go_sem,seval]
 (repeat'(first|refine Ctl ?_|((with_reducible refine k_ hK ?_);clear hK hE K E)))
 (refine aq FU hQ ?_)
 exact⟨_,_,Wk.refl _,Fg.refl _,pB (K2,ns2) rfl HR.out⟩
set_option maxHeartbeats 4000000 in
theorem MK {s:St}{KK:OB}{n B:Nat}{ns:List Tr}(hO:OMem s KK n B ns){ta tb:Tr}(ha:ta∈ns)(hb:tb∈ns)(hF:FitN ns (iteT n ta tb (.lf false)) B) :
  OpC 40 [.ptr KK.o 0,.int .i64 (ixN ns ta:Nat),.int .i64 (ixN ns tb:Nat)] s KK n B ns (iteT n ta tb (.lf false)):=by
 have h0:=hO.st.ok.lf false
 have h1:=hO.st.ok.lf true
 have w1:=rN hO ha hb h0.1 hF
 simp only[h0.2,h1.2,Bool.false_eq_true,if_true,if_false]at w1
 unfold OpC at w1 ⊢
 clear hF hO h0 h1 ha hb
 generalize ixN ns ta=ka at *
 generalize ixN ns tb=kb at *
 refine am Tryz.func40 rfl Tryz.ntmps40 rfl fun Q hQ hQe=>?_
 (repeat'(first|refine Ctl ?_|((with_reducible refine k_ hK ?_);clear hK hE K E)|(((with_reducible refine ab fun K E hK hE=>?_))<;>(try simp(disch:=assumption) only[go_sem,seval,Int.natCast_zero,Int.natCast_one,Int.ofNat_zero, *]))))
 refine ao tK w1 (fun a h=>?_)
 obtain⟨u2,K2,ns2⟩:=a
 have HR:=o_ h
 clear h w1
 simp only[go_sem,seval]
 (repeat'(first|refine Ctl ?_|((with_reducible refine k_ hK ?_);clear hK hE K E)))
 (refine aq Ge hQ ?_)
 exact⟨_,_,Wk.refl _,Fg.refl _,pB (K2,ns2) rfl HR.out⟩
set_option maxHeartbeats 4000000 in
theorem GZ {s:St}{KK:OB}{n B:Nat}{ns:List Tr}(hO:OMem s KK n B ns){ta tb:Tr}(ha:ta∈ns)(hb:tb∈ns)(hF:FitN ns (iteT n ta (.lf true) tb) B) :
  OpC 49 [.ptr KK.o 0,.int .i64 (ixN ns ta:Nat),.int .i64 (ixN ns tb:Nat)] s KK n B ns (iteT n ta (.lf true) tb):=by
 have h0:=hO.st.ok.lf false
 have h1:=hO.st.ok.lf true
 have w1:=rN hO ha h1.1 hb hF
 simp only[h0.2,h1.2,Bool.false_eq_true,if_true,if_false]at w1
 unfold OpC at w1 ⊢
 clear hF hO h0 h1 ha hb
 generalize ixN ns ta=ka at *
 generalize ixN ns tb=kb at *
 refine am Tryz.func49 rfl Tryz.ntmps49 rfl fun Q hQ hQe=>?_
 (repeat'(first|refine Ctl ?_|((with_reducible refine k_ hK ?_);clear hK hE K E)|(((with_reducible refine ab fun K E hK hE=>?_))<;>(try simp(disch:=assumption) only[go_sem,seval,Int.natCast_zero,Int.natCast_one,Int.ofNat_zero, *]))))
 refine ao tK w1 (fun a h=>?_)
 obtain⟨u2,K2,ns2⟩:=a
 have HR:=o_ h
 clear h w1
 simp only[go_sem,seval]
 (repeat'(first|refine Ctl ?_|((with_reducible refine k_ hK ?_);clear hK hE K E)))
 (refine aq F8 hQ ?_)
 exact⟨_,_,Wk.refl _,Fg.refl _,pB (K2,ns2) rfl HR.out⟩
set_option maxHeartbeats 4000000 in
theorem Fs {s:St}{KK:OB}{n B:Nat}{ns:List Tr}(hO:OMem s KK n B ns){ta tb:Tr}(ha:ta∈ns)(hb:tb∈ns)(hF:FitN ns (iteT n tb (.lf false) ta) B) :
  OpC 51 [.ptr KK.o 0,.int .i64 (ixN ns ta:Nat),.int .i64 (ixN ns tb:Nat)] s KK n B ns (iteT n tb (.lf false) ta):=by
 have h0:=hO.st.ok.lf false
 have h1:=hO.st.ok.lf true
 have w1:=rN hO hb h0.1 ha hF
 simp only[h0.2,h1.2,Bool.false_eq_true,if_true,if_false]at w1
 unfold OpC at w1 ⊢
 clear hF hO h0 h1 ha hb
 generalize ixN ns ta=ka at *
 generalize ixN ns tb=kb at *
 refine am Tryz.func51 rfl Tryz.ntmps51 rfl fun Q hQ hQe=>?_
 (repeat'(first|refine Ctl ?_|((with_reducible refine k_ hK ?_);clear hK hE K E)|(((with_reducible refine ab fun K E hK hE=>?_))<;>(try simp(disch:=assumption) only[go_sem,seval,Int.natCast_zero,Int.natCast_one,Int.ofNat_zero, *]))))
 refine ao tK w1 (fun a h=>?_)
 obtain⟨u2,K2,ns2⟩:=a
 have HR:=o_ h
 clear h w1
 simp only[go_sem,seval]
 (repeat'(first|refine Ctl ?_|((with_reducible refine k_ hK ?_);clear hK hE K E)))
 (refine aq F6 hQ ?_)
 exact⟨_,_,Wk.refl _,Fg.refl _,pB (K2,ns2) rfl HR.out⟩
noncomputable def ixF (n:Nat)(ns:List Tr)(g:(Nat->Bool)->Bool):Nat:=ixN ns (treeT n g)
structure OpF (s:St) (K:OB) (n B:Nat) (ns:List Tr) (N':Nat) (g:(Nat->Bool)->Bool) (a:gJ):Prop where
 m:OMem a.1 a.2.1 n B a.2.2
 pre:∃l,a.2.2=ns++l
 mem:treeT n g∈a.2.2
 cnt:CntN a.2.2 N'
 k:OKeep s a.1 K a.2.1
def OpFC (f:FuncId)(xs:List VV)(s:St)(K:OB)(n B:Nat)(ns:List Tr)(N':Nat)(g:(Nat->Bool)->Bool):Prop:=
 SCalls Tryz.prog f xs s fun w u=>∃a:gJ,w=.ret (.tup [.int .i64 (ixF n a.2.2 g:Nat),.int .i64 0])/\u=a.1/\OpF s K n B ns N' g a
theorem OpC.toF {f:FuncId}{xs:List VV}{s:St}{K:OB}{n B N m:Nat}{ns:List Tr}{T:Tr}{g:(Nat->Bool)->Bool}(h:OpC f xs s K n B ns T)(hT:T=treeT n g)(hc:CntN ns N)(hm:SubN (treeT n g) m):OpFC f xs s K n B ns (N+m) g:=by
 subst hT
 refine SCalls.mono (h:=h) ?_
 rintro w u ⟨a,rfl,rfl,h1,h2,h3⟩
 exact⟨a,rfl,rfl,h1,h2.pre,h2.mem,hc.ext hm h2,h3⟩
theorem bn {ns ns':List Tr}(h:∃l,ns'=ns++l){t:Tr}(ht:t∈ns):t∈ns'/\ixN ns' t=ixN ns t:=by
 obtain⟨l,rfl⟩:=h
 exact⟨List.mem_append_left _ ht,cx ht⟩
section
variable {s : St} {K : OB} {n B N m : Nat} {ns : List Tr} {f g : (Nat -> Bool) -> Bool}
theorem vS (hO:OMem s K n B ns)(hf:ep n f)(hg:ep n g)(mf:treeT n f∈ns)(mg:treeT n g∈ns)(hc:CntN ns N)(hm:SubN (treeT n fun x=>f x && g x) m)(hB:N+m<=B) :
  OpFC 40 [.ptr K.o 0,.int .i64 (ixF n ns f:Nat),.int .i64 (ixF n ns g:Nat)] s K n B ns (N+m) (fun x=>f x && g x):=by
 have hT:iteT n (treeT n f) (treeT n g) (.lf false)=treeT n fun x=>f x && g x:=by
  rw[<- d9 (n:=n) false,ll hf hg (fun _ _ _=>rfl)]
  exact g8 fun x=>by cases f x<;>rfl
 exact(MK hO mf mg (by rw[hT];exact .of hc hm hB)).toF hT hc hm
theorem Ca (hO:OMem s K n B ns)(hf:ep n f)(hg:ep n g)(mf:treeT n f∈ns)(mg:treeT n g∈ns)(hc:CntN ns N)(hm:SubN (treeT n fun x=>f x || g x) m)(hB:N+m<=B) :
  OpFC 49 [.ptr K.o 0,.int .i64 (ixF n ns f:Nat),.int .i64 (ixF n ns g:Nat)] s K n B ns (N+m) (fun x=>f x || g x):=by
 have hT:iteT n (treeT n f) (.lf true) (treeT n g)=treeT n fun x=>f x || g x:=by
  rw[<- d9 (n:=n) true,ll hf (fun _ _ _=>rfl) hg]
  exact g8 fun x=>by cases f x<;>rfl
 exact(GZ hO mf mg (by rw[hT];exact .of hc hm hB)).toF hT hc hm
theorem xT (hO:OMem s K n B ns)(hf:ep n f)(hg:ep n g)(mf:treeT n f∈ns)(mg:treeT n g∈ns)(hc:CntN ns N)(hm:SubN (treeT n fun x=>f x && !g x) m)(hB:N+m<=B) :
  OpFC 51 [.ptr K.o 0,.int .i64 (ixF n ns f:Nat),.int .i64 (ixF n ns g:Nat)] s K n B ns (N+m) (fun x=>f x && !g x):=by
 have hT:iteT n (treeT n g) (.lf false) (treeT n f)=treeT n fun x=>f x && !g x:=by
  rw[<- d9 (n:=n) false,ll hg (fun _ _ _=>rfl) hf]
  exact g8 fun x=>by cases g x<;>cases f x<;>rfl
 exact(Fs hO mf mg (by rw[hT];exact .of hc hm hB)).toF hT hc hm
end
theorem OMem.mk {s u:St}{K:OB}{K':SB}{n B:Nat}{ns ns':List Tr}{T:Tr}(hO:OMem s K n B ns)(m3:SMem u K' n B ns')(x3:ExtN ns ns' T)(k3:SKeep s u K.s K'):OMem u ⟨K',K.o,K.c⟩ n B ns':=by
 have so:¬ K.s.has K.o:=by
  obtain⟨d,c,e⟩:=hO.op
  obtain⟨mk,hm⟩:=hO.st.mem
  obtain⟨ps,ht,_⟩:=hO.st.tab
  rintro(e1|e1|e1|e1)
  ·have:=hm.o;rw[<- e1,e]at this;cases this
  ·have:=hm.r;rw[<- e1,e]at this;cases this
  ·have:=ht.tab.o;rw[<- e1,e]at this;cases this
  ·have:=ht.tab.r;rw[<- e1,e]at this;cases this
 have fo:s K.o≠.free:=hO.live (.inr (.inl rfl))
 rcases hO with h|h
 ·exact .inl ⟨m3,(k3.out _ fo so).trans (h.ob.trans (by rw[k3.p])),h.c⟩
 ·obtain⟨xs,e,hx⟩:=h.ca
  exact .inr ⟨m3,(k3.out _ fo so).trans (h.ob.trans (by rw[k3.p])),⟨xs,(k3.out _ (by rw[e];simp) h.sep.1).trans e,hx.ext x3⟩⟩
theorem Qy {s:St}{K:OB}{n B N m v:Nat}{ns:List Tr}{f g:(Nat->Bool)->Bool}{S:List Nat}(hO:OMem s K n B ns)(hf:DepF S f)(hg:DepF S g)(hS:∀w,w∈S->v<w/\w<n)(hv:v<n)(mf:treeT n f∈ns)(mg:treeT n g∈ns)(hc:CntN ns N)
  (hm:SubN (treeT n fun x=>if x v=true then g x else f x) m) (hB:N+m<=B) :
  OpFC 79 [.ptr K.s.p 0,.int .i64 v,.int .i64 (ixF n ns f:Nat),.int .i64 (ixF n ns g:Nat)] s K n B ns (N+m) (fun x=>if x v=true then g x else f x):=by
 have ok:∀{h:(Nat->Bool)->Bool},DepF S h->OkT n (v+1) (treeT n h):=fun {h} hd=>by
  have hk:n - (n - (v+1))=v+1:=by omega
  have h1:OkT n (v+1) (treeF n (n - (v+1)) h):=by
   have:=eM (n:=n) (k:=n - (v+1)) (g:=h) (by omega)
   rwa [hk]at this
  have h2:treeT n h=treeF n (n - (v+1)) h:=bY h1 fun x=>fK x (by omega) fun x y e=>hd x y fun w hw=>e w (by have:=hS w hw;omega) (hS w hw).2
  rw[h2];exact h1
 have hT:mkT v (treeT n f) (treeT n g)=treeT n fun x=>if x v=true then g x else f x:=by
  refine(bY (ld (Nat.zero_le v) hv (ok hf) (ok hg)) fun x=>?_).symm
  rw[lh,bU (hf.hang fun w hw=>(hS w hw).2),bU (hg.hang fun w hw=>(hS w hw).2)]
 have w:=xU hO.st mf mg (ok hf) (ok hg) hv (by rw[hT];exact .of hc hm hB)
 rw[hT]at w
 refine SCalls.mono (h:=w) ?_
 rintro w u ⟨⟨u,K',ns'⟩,rfl,rfl,h1,h2,h3⟩
 exact⟨(u,⟨K',K.o,K.c⟩,ns'),rfl,rfl,hO.mk h1 h2 h3,h2.pre,h2.mem,hc.ext hm h2,h3.toO⟩
theorem OMem.c0 {s:St}{K:OB}{n B:Nat}{ns:List Tr}(hO:OMem s K n B ns):(treeT n (fun _=>false)∈ns/\ixF n ns (fun _=>false)=0)/\(treeT n (fun _=>true)∈ns/\ixF n ns (fun _=>true)=1):=by
 unfold ixF
 rw[d9,d9]
 exact⟨hO.st.ok.lf false,hO.st.ok.lf true⟩
set_option maxHeartbeats 4000000 in
theorem ME {s:St}{KS:SB}{n B:Nat}{ns:List Tr}(hS:SMem s KS n B ns) :
  SCalls Tryz.prog 23 [.ptr KS.p 0] s fun w u=>∃a:St×Nat,w=.ret (.tup [.ptr a.2 0,.int .i64 0])/\u=a.1/\OMem a.1 ⟨KS,a.2,a.2⟩ n B ns/\s a.2=.free/\∀z,s z≠.free->a.1 z=s z:=by
 obtain⟨mk,hm⟩:=hS.mem
 have hl:=hS.ok.len
 have w1:=vT s KS.p KS.g KS.q n B ns mk 0 hm
 have hl2:¬ ((ns.length:Nat):Int)=0:=by omega
 have HS:=o_ hS
 clear hm hl hS
 generalize hlen:ns.length=l at *
 have HL:=o_ hlen
 clear hlen
 refine am Tryz.func23 rfl Tryz.ntmps23 rfl fun Q hQ hQe=>?_
 (repeat'(first|refine Ctl ?_|((with_reducible refine k_ hK ?_);clear hK hE K E)|((with_reducible refine ah (fun h=>?_) (fun h=>?_))<;>(try(exfalso;assumption)))|((first|(with_reducible first|refine ab fun K E hK hE=>?_|refine ae BG (w1) ?_)|((with_reducible refine au (fun b hb=>?_))))<;>(try simp(disch:=assumption) only[go_sem,seval, *]))))
 (refine aq Gq hQ ?_)
 have hk:∀z,s z≠.free->(s.set b (.obj 123 (c9 KS.p 0 0 (.lst [] .full)))) z=s z:=fun z hz=>j_ _ _ (nef hb hz).1
 exact⟨_,_,Wk.refl _,Fg.refl _,mkA b rfl ⟨.inl ⟨HS.out.keep fun z hz=>hk z (HS.out.live hz),q_ _ _ _,rfl⟩,hb,hk⟩⟩
set_option maxHeartbeats 4000000 in
theorem eU (s:St)(o p:Nat)(d:Int)(c:VV)(h:s o=.obj 123 (c9 p d 0 c)) :
  SRet Tryz.prog 57 [.ptr o 0] s (.ptr p 0) s:=by
 unfold c9 at h
 refine am Tryz.func57 rfl Tryz.ntmps57 rfl fun Q hQ hQe=>?_
 (repeat'(first|refine Ctl ?_|((with_reducible refine k_ hK ?_);clear hK hE K E)|((with_reducible refine ah (fun h=>?_) (fun h=>?_))<;>(try(exfalso;assumption)))|(((with_reducible refine ab fun K E hK hE=>?_))<;>(try simp(disch:=assumption) only[go_sem,seval, *]))))
 all_goals(refine aq FZ hQ ?_)
 all_goals(refine⟨_,_,Wk.of_eq ?_,?_,rfl,rfl⟩)
 all_goals first|rfl|(exact bK)
set_option maxHeartbeats 4000000 in
theorem MB (s:St)(o p:Nat)(d:Int)(c:VV)(h:s o=.obj 123 (c9 p d 0 c)) :
  SCalls Tryz.prog 24 [.ptr o 0] s fun w u=>∃q,w=.ret (.tup [.ptr q 0,.int .i64 0])/\u=s.set q (.obj 126 [.ptr o 0,.ptr p 0])/\s q=.free:=by
 have w1:=eU s o p d c h
 refine am Tryz.func24 rfl Tryz.ntmps24 rfl fun Q hQ hQe=>?_
 (repeat'(first|refine Ctl ?_|((with_reducible refine k_ hK ?_);clear hK hE K E)|((with_reducible refine ah (fun h=>?_) (fun h=>?_))<;>(try(exfalso;assumption)))|((first|(with_reducible first|refine ab fun K E hK hE=>?_|refine ae iv (w1) ?_)|((with_reducible refine au (fun b hb=>?_))))<;>(try simp(disch:=assumption) only[go_sem,seval, *]))))
 all_goals(refine aq Gp hQ ?_)
 exact⟨_,_,Wk.refl _,Fg.refl _,b,rfl,rfl,hb⟩
set_option maxHeartbeats 4000000 in
theorem dD (s:St)(q o p:Nat)(h:s q=.obj 126 [.ptr o 0,.ptr p 0]) :
  SRet Tryz.prog 39 [.ptr q 0] s (.ptr o 0) s:=by
 refine am Tryz.func39 rfl Tryz.ntmps39 rfl fun Q hQ hQe=>?_
 (repeat'(first|refine Ctl ?_|((with_reducible refine k_ hK ?_);clear hK hE K E)|((with_reducible refine ah (fun h=>?_) (fun h=>?_))<;>(try(exfalso;assumption)))|(((with_reducible refine ab fun K E hK hE=>?_))<;>(try simp(disch:=assumption) only[go_sem,seval, *]))))
 all_goals(refine aq Gf hQ ?_)
 all_goals(refine⟨_,_,Wk.of_eq ?_,?_,rfl,rfl⟩)
 all_goals first|rfl|(exact bK)
def eo (n w i:Nat):List VV:=(List.range w).map fun k=>.bool (decide (k<i) && n.testBit k)
def gP (n w:Nat):List (List VV):=(List.range w).map fun k=>[.bool (n.testBit k)]
theorem ly {n w i:Nat}:(eo n w i).length=w:=by simp[eo]
theorem qI {n w:Nat}:(gP n w).length=w:=by simp[gP]
theorem tM {n w k:Nat}(h:k<w):(gP n w)[k]?=some [.bool (n.testBit k)]:=by simp[gP,h]
theorem yU {n w:Nat}:List.replicate w (VV.bool false)=eo n w 0:=by
 apply List.ext_getElem
 ·simp[eo]
 ·intro i h1 h2
  simp[eo]
theorem yT {n w i:Nat}(h:i<w):splice (eo n w i) i [.bool (n.testBit i)]=eo n w (i+1):=by
 have:splice (eo n w i) i [VV.bool (n.testBit i)]=(eo n w i).set i (.bool (n.testBit i)):=by
  rw[splice,List.set_eq_take_append_cons_drop,if_pos (by rw[ly];exact h)]
  simp
 rw[this]
 apply List.ext_getElem
 ·simp[eo]
 ·intro j h1 h2
  simp only[eo,List.getElem_set,List.getElem_map,List.getElem_range]
  by_cases e:i=j
  ·subst e;simp
  ·rw[if_neg e]
   congr 2
   simp only[decide_eq_decide]
   omega
theorem yV {n w:Nat}:(eo n w w).map (fun y=>[y])=gP n w:=by
 simp only[eo,gP,List.map_map]
 apply List.map_congr_left
 intro k hk
 simp only[List.mem_range]at hk
 simp[hk]
theorem zE {n w:Nat}(h:n<2 ^ w)(hw:w<=62):bF .shr .i64 (n:Int) (w:Int)=some (.int .i64 0):=by
 have hp:((2:Int) ^ w)=((2 ^ w:Nat):Int):=by simp
 have h0:(0:Int)<=(w:Int):=Int.natCast_nonneg _
 simp only[bF,if_pos h0]
 have h1:min ((w:Int).toNat) IntKind.i64.bits=w:=by simp[IntKind.bits];omega
 rw[h1,hp]
 have:((n:Int)).fdiv ((2 ^ w:Nat):Int)=0:=by
  rw[Int.fdiv_eq_ediv_of_nonneg _ (Int.natCast_nonneg _)]
  exact Int.ediv_eq_zero_of_lt (Int.natCast_nonneg _) (by omega)
 rw[this]
theorem jD {k:Nat}(hk:k<=62):bF .shl .i64 1 (k:Int)=some (.int .i64 ((2 ^ k:Nat):Int)):=by
 have h0:(0:Int)<=(k:Int):=Int.natCast_nonneg _
 simp only[bF,if_pos h0]
 have h1:min ((k:Int).toNat) IntKind.i64.bits=k:=by simp[IntKind.bits];omega
 have hp:((2:Int) ^ k)=((2 ^ k:Nat):Int):=by simp
 have hle:2 ^ k<=2 ^ 62:=Nat.pow_le_pow_right (by omega) hk
 rw[h1,Int.one_mul,hp]
 generalize 2 ^ k=p at *
 rw[bT (by omega) (by omega)]
theorem Fa {n k:Nat}:n &&& 2 ^ k=if n.testBit k=true then 2 ^ k else 0:=by
 apply Nat.eq_of_testBit_eq
 intro i
 rw[Nat.testBit_and,Nat.testBit_two_pow]
 by_cases e:k=i
 ·subst e
  cases h:n.testBit k<;>simp
 ·cases h:n.testBit k<;>simp[Nat.testBit_two_pow,e]
theorem Fb {n k:Nat}(hn:n<2 ^ 63)(hk:k<=62):∃r:Int,bF .and .i64 (n:Int) ((2 ^ k:Nat):Int)=some (.int .i64 r)/\decide (r=0)=!n.testBit k:=by
 have hle:2 ^ k<=2 ^ 62:=Nat.pow_le_pow_right (by omega) hk
 have hpos:0<2 ^ k:=Nat.two_pow_pos k
 refine⟨_,rfl,?_⟩
 have e:(BitVec.ofInt IntKind.i64.bits (n:Int) &&& BitVec.ofInt IntKind.i64.bits ((2 ^ k:Nat):Int)).toNat=n &&& 2 ^ k:=by
  rw[BitVec.toNat_and]
  simp only[IntKind.bits]
  rw[BitVec.ofInt_natCast,BitVec.ofInt_natCast,BitVec.toNat_ofNat,BitVec.toNat_ofNat,Nat.mod_eq_of_lt (by omega),Nat.mod_eq_of_lt (by omega)]
 unfold jv
 rw[e,Fa]
 generalize 2 ^ k=p at *
 cases n.testBit k
 ·simp;rfl
 ·simp only[if_true]
  rw[bT (by omega) (by omega)]
  simp
  omega
attribute [-go_sem] bJ bH bG
set_option maxHeartbeats 4000000 in
theorem Cz (s:St)(n w:Nat)(hw:w<=62)(hn:n<2 ^ w) :
  SRet Tryz.prog 81 [.int .i64 n,.int .i64 w] s (.tup [.lst (gP n w) .no,.int .i64 0]) s:=by
 have hle:2 ^ w<=2 ^ 62:=Nat.pow_le_pow_right (by omega) hw
 have h1:¬ (w:Int)<0:=by omega
 have h2:¬ (w:Int) > 62:=by omega
 have h3:¬ (n:Int)<0:=by omega
 have h4:=zE hn hw
 have hz:=yU (n:=n) (w:=w)
 have hE:=yV (n:=n) (w:=w)
 have hn63:n<2 ^ 63:=by omega
 have HN:=o_ hn63
 clear hn hle hn63
 refine am Tryz.func81 rfl Tryz.ntmps81 rfl fun Q hQ hQe=>?_
 (repeat'(first|refine Ctl ?_|((with_reducible refine k_ hK ?_);clear hK hE K E)|((with_reducible refine ah (fun h=>?_) (fun h=>?_))<;>(try(exfalso;assumption)))|((first|(with_reducible first|refine ab fun K E hK hE=>?_|refine iY ?_)|((with_reducible refine au (fun b hb=>?_))))<;>(try simp(disch:=assumption) only[go_sem,seval,h4,hz, *]))))
 refine bV (fun m env s'=>∃(i:Nat),i<=w/\m+i=w/\s'=s.set b (.obj 4 (eo n w i))/\env 0=.int .i64 n/\env 6=.msl b w/\env 26=.int .i64 w/\env 27=.int .i64 i) w ?_ ?_
 ·exact⟨_,Fg.refl _,0,by omega,by omega,rfl,ac,ac,ac,ac⟩
 ·rintro m env s' ⟨i,hi,hm,rfl,e0,e6,e26,e27⟩
  by_cases h5:i<w
  ·have a1:=jD (k:=i) (by omega)
   obtain⟨r,a2,a3⟩:=Fb (k:=i) HN.out (by omega)
   have a4:=yT (n:=n) h5
   have a5:(eo n w i).length=w:=ly
   generalize ((2 ^ i:Nat):Int)=P at *
   generalize n.testBit i=tb at *
   generalize hX:eo n w i=X at *
   generalize hY:eo n w (i+1)=Y at *
   have HY:=o_ hY
   clear hX hY hE hz
   (repeat'(first|refine Ctl ?_|((with_reducible refine k_ hK ?_);clear hK hE K E)|((with_reducible refine ah (fun h=>?_) (fun h=>?_))<;>(try(exfalso;assumption)))|(((with_reducible first|refine ab fun K E hK hE=>?_|refine dP ?_))<;>(try simp(disch:=omega) only[go_sem,seval,a1,a2,a3,a4,a5,Bool.not_not, *]))))
   all_goals exact⟨_,Fg.refl _,m - 1,by omega,i+1,by omega,by omega,by rw[HY.out],ac,ac,ac,ac⟩
  ·obtain rfl:i=w:=by omega
   (repeat'(first|(with_reducible refine aR 9 ?_)|refine Ctl ?_|((with_reducible refine k_ hK ?_);clear hK hE K E)|((with_reducible refine ah (fun h=>?_) (fun h=>?_))<;>(try(exfalso;assumption)))|(((with_reducible refine ab fun K E hK hE=>?_))<;>(try simp(disch:=assumption) only[go_sem,seval,h4,hz, *]))))
   unfold bC
   refine Ck 6 b i (q_ _ _ _) (ac) ly ?_
   rw[hE,St.set_set,v_ _ _ _ hb]
   (repeat'(first|refine Ctl ?_|((with_reducible refine k_ hK ?_);clear hK hE K E)|(((with_reducible refine ab fun K E hK hE=>?_))<;>(try simp(disch:=assumption) only[go_sem,seval, *]))))
   (refine aq FO hQ ?_)
   (refine⟨_,_,Wk.of_eq ?_,?_,rfl,rfl⟩)
   all_goals first|rfl|(exact bK)
end Go.Proofs.YtohnaepcgnbaiaaGreatDoor
namespace Go.Proofs.YtohnaepcgnbaiaaGreatDoor
open Go.RowKit
def dx (ds:List (List UInt8×Nat)):List (List VV):=ds.map fun d=>[.str d.1,.int .i64 (d.2:Int)]
def atC (at_:List (List Nat)):List (List VV):=at_.map fun l=>[.lst (ak l) .no]
theorem pc {at_:List (List Nat)}{d:Nat}{l:List Nat}(h:at_[d]?=some l):(atC at_)[d]?=some [.lst (ak l) .no]:=by simp[atC,h]
theorem oO {ds:List (List UInt8×Nat)}{d:Nat}{x:List UInt8×Nat}(h:ds[d]?=some x):(dx ds)[d]?=some [.str x.1,.int .i64 (x.2:Int)]:=by simp[dx,h]
theorem fZ {ds:List (List UInt8×Nat)}:(dx ds).length=ds.length:=by simp[dx]
structure CMem (s:St) (K:OB) (q c n B:Nat) (ns:List Tr) (ds:List (List UInt8×Nat)) (at_:List (List Nat)):Prop where
 om:OMem s K n B ns
 qo:s q=.obj 126 [.ptr K.o 0,.ptr K.s.p 0]
 co:s c=.obj 132 [.ptr q 0,.lst (dx ds) .no,.lst (atC at_) .no]
theorem OMem.types {s:St}{K:OB}{n B:Nat}{ns:List Tr}(h:OMem s K n B ns){z:Nat}{T:TypeId}{xs:List VV}(hz:s z=.obj T xs)(h1:T≠107)(h2:T≠161)(h3:T≠123):¬ K.has z:=by
 obtain⟨mk,hm⟩:=h.st.mem
 obtain⟨ps,ht,_⟩:=h.st.tab
 obtain⟨d,c,ho⟩:=h.op
 rintro((e|e|e|e)|e|e)
 ·have:=hm.o;rw[<- e,hz]at this;injection this with a;exact h1 a
 ·have:=hm.r;rw[<- e,hz]at this;cases this
 ·have:=ht.tab.o;rw[<- e,hz]at this;injection this with a;exact h2 a
 ·have:=ht.tab.r;rw[<- e,hz]at this;cases this
 ·rw[<- e,hz]at ho;injection ho with a;exact h3 a
 ·rcases h with h|h
  ·rw[h.c]at e;have:=h.ob;rw[<- e,hz]at this;injection this with a;exact h3 a
  ·obtain⟨xs,he,_⟩:=h.ca;rw[<- e,hz]at he;cases he
theorem CMem.nq {s:St}{K:OB}{q c n B:Nat}{ns:List Tr}{ds:List (List UInt8×Nat)}{at_:List (List Nat)}(h:CMem s K q c n B ns ds at_):¬ K.has q/\¬ K.has c/\s q≠.free/\s c≠.free:=
 ⟨h.om.types h.qo (by decide) (by decide) (by decide),h.om.types h.co (by decide) (by decide) (by decide),by rw[h.qo];simp,by rw[h.co];simp⟩
theorem CMem.keep {s u:St}{K K':OB}{q c n B:Nat}{ns ns':List Tr}{ds:List (List UInt8×Nat)}{at_:List (List Nat)}(h:CMem s K q c n B ns ds at_)(hm:OMem u K' n B ns')(hk:OKeep s u K K'):CMem u K' q c n B ns' ds at_:=by
 obtain⟨a,b,d,e⟩:=h.nq
 exact⟨hm,by rw[hk.out _ d a,h.qo,hk.o,hk.p],by rw[hk.out _ e b,h.co]⟩
set_option maxHeartbeats 4000000 in
theorem Nc {s:St}{K:OB}{q c n B v:Nat}{ns:List Tr}{ds:List (List UInt8×Nat)}{at_:List (List Nat)}(hC:CMem s K q c n B ns ds at_)(hv:v<n)(b:Bool){N:Nat}(hc:CntN ns N)(hB:N+1<=B) :
  OpFC 89 [.ptr c 0,.int .i64 v,.bool b] s K n B ns (N+1) (fun x=>x v == b):=by
 obtain⟨d,cc,ho⟩:=hC.om.op
 have w1:=dD s q K.o K.s.p hC.qo
 have w2:=eU s K.o K.s.p d cc ho
 have c0:=hC.om.c0
 have hs1:∀g:(Nat->Bool)->Bool,DepF [v] g->SubN (treeT n g) 1:=fun g hg=>di (k:=1) (by simpa using hv) hg (by simp)
 have hco:=hC.co
 have hX:OpFC 79 [.ptr K.s.p 0,.int .i64 v,.int .i64 (if b then 0 else 1),.int .i64 (if b then 1 else 0)] s K n B ns (N+1) (fun x=>x v == b):=by
  have w:=Qy (S:=[]) (v:=v) hC.om (f:=fun _=>!b) (g:=fun _=>b) (fun _ _ _=>rfl) (fun _ _ _=>rfl) (by simp) hv (by cases b;exact c0.2.1;exact c0.1.1) (by cases b;exact c0.1.1;exact c0.2.1) hc (hs1 _ fun x y e=>by simp only[e v (by simp)]) hB
  have e1:(fun x:Nat->Bool=>if x v=true then b else !b)=fun x=>x v == b:=by
   funext x
   cases x v<;>cases b<;>rfl
  rw[e1]at w
  cases b
  ·simp only[Bool.not_false]at w
   rw[c0.1.2,c0.2.2]at w
   exact w
  ·simp only[Bool.not_true]at w
   rw[c0.1.2,c0.2.2]at w
   exact w
 unfold OpFC at hX ⊢
 unfold c9 at ho
 clear c0 hs1 hC hv hc hB
 cases b
 all_goals
  simp only[Bool.false_eq_true,if_true,if_false]at hX
  refine am Tryz.func89 rfl Tryz.ntmps89 rfl fun Q hQ hQe=>?_
  (repeat'(first|refine Ctl ?_|((with_reducible refine k_ hK ?_);clear hK hE K E)|((with_reducible refine ah (fun h=>?_) (fun h=>?_))<;>(try(exfalso;assumption)))|(((with_reducible first|refine ab fun K E hK hE=>?_|refine ae dK (w1) ?_|refine ae iv (w2) ?_))<;>(try simp(disch:=assumption) only[go_sem,seval, *]))))
  refine ao oW hX (fun a h=>?_)
  obtain⟨u2,K2,ns2⟩:=a
  have HR:=o_ h
  clear h hX
  simp only[go_sem,seval]
  (repeat'(first|refine Ctl ?_|((with_reducible refine k_ hK ?_);clear hK hE K E)))
  (refine aq FN hQ ?_)
  exact⟨_,_,Wk.refl _,Fg.refl _,pB (K2,ns2) rfl HR.out⟩
theorem OpF.trans {s s1:St}{K K1:OB}{n B N2:Nat}{ns ns1:List Tr}{g:(Nat->Bool)->Bool}{a:gJ}(h:OpF s1 K1 n B ns1 N2 g a)(hk:OKeep s s1 K K1)(hp:∃l,ns1=ns++l):OpF s K n B ns N2 g a:=by
 obtain⟨l,rfl⟩:=hp
 obtain⟨l2,e⟩:=h.pre
 exact⟨h.m,⟨l++l2,by rw[e,List.append_assoc]⟩,h.mem,h.cnt,hk.trans h.k⟩
theorem eK {a b c:List Tr}(h:∃l,b=a++l)(k:∃l,c=b++l):∃l,c=a++l:=by
 obtain⟨l,rfl⟩:=h
 obtain⟨m,rfl⟩:=k
 exact⟨l++m,List.append_assoc _ _ _⟩
structure LeI (s:St) (K:OB) (q c n B:Nat) (ns:List Tr) (ds:List (List UInt8×Nat)) (at_:List (List Nat)) (vs:List Nat) (k N i:Nat) (s':St) (K':OB) (ns':List Tr) (g:(Nat->Bool)->Bool):Prop where
 m:CMem s' K' q c n B ns' ds at_
 kp:OKeep s s' K K'
 pre:∃l,ns'=ns++l
 mem:treeT n g∈ns'
 cnt:CntN ns' (N+i * 2 ^ vs.length)
 dep:DepF vs g
 fin:leG (iS k i (vs.drop i)) g=fun x=>decide (k<=bX vs x)
theorem DepF.and {S:List Nat}{f g:(Nat->Bool)->Bool}(hf:DepF S f)(hg:DepF S g):DepF S fun x=>f x && g x:=fun x y e=>by simp only[hf x y e,hg x y e]
theorem DepF.or {S:List Nat}{f g:(Nat->Bool)->Bool}(hf:DepF S f)(hg:DepF S g):DepF S fun x=>f x || g x:=fun x y e=>by simp only[hf x y e,hg x y e]
theorem DepF.diff {S:List Nat}{f g:(Nat->Bool)->Bool}(hf:DepF S f)(hg:DepF S g):DepF S fun x=>f x && !g x:=fun x y e=>by simp only[hf x y e,hg x y e]
theorem DepF.xor {S:List Nat}{f g:(Nat->Bool)->Bool}(hf:DepF S f)(hg:DepF S g):DepF S fun x=>f x ^^ g x:=fun x y e=>by simp only[hf x y e,hg x y e]
theorem DepF.not {S:List Nat}{f:(Nat->Bool)->Bool}(hf:DepF S f):DepF S fun x=>!f x:=fun x y e=>by simp only[hf x y e]
theorem DepF.lit {S:List Nat}{v:Nat}(h:v∈S)(b:Bool):DepF S fun x=>x v == b:=fun x y e=>by simp only[e v h]
theorem LeI.next {s:St}{K:OB}{q c n B:Nat}{ns:List Tr}{ds:List (List UInt8×Nat)}{at_:List (List Nat)}{vs:List Nat}{k N i v w M:Nat}{s':St}{K':OB}{ns':List Tr}{g g':(Nat->Bool)->Bool}{u1 u2:St}{K1 K2:OB}{ns1 ns2:List Tr}
  (I:LeI s K q c n B ns ds at_ vs k N i s' K' ns' g) (hvi:vs[i]?=some v) (hw:vs.length=w) (hM:M=N+i * 2 ^ w) (h1:OpF s' K' n B ns' (M+1) (fun x=>x v == true) (u1,K1,ns1))
  (h2:OpF u1 K1 n B ns1 (M+1+(2 ^ w - 1)) g' (u2,K2,ns2)) (hg:g'=fun x=>if k.testBit i=true then(x v == true) && g x else(x v == true) || g x) (hdep:DepF vs g'):LeI s K q c n B ns ds at_ vs k N (i+1) u2 K2 ns2 g':=by
 have hpw:0<2 ^ w:=Nat.two_pow_pos w
 refine⟨(I.m.keep h1.m h1.k).keep h2.m h2.k,I.kp.trans (h1.k.trans h2.k),eK I.pre (eK h1.pre h2.pre),h2.mem,h2.cnt.mono ?_,hdep,?_⟩
 ·rw[hw,hM,Nat.add_mul,Nat.one_mul]
  omega
 ·have hl:=(x_.1 hvi).1
  have e:vs.drop i=v::vs.drop (i+1):=by
   rw[c_ hl]
   congr 1
   rw[m_ hl]at hvi
   injection hvi
  have h3:=I.fin
  rw[e]at h3
  simp only[iS,leG]at h3
  rw[<- h3,hg]
  congr 1
  funext x
  cases x v<;>cases k.testBit i<;>simp
set_option maxHeartbeats 8000000 in
theorem t7 {s:St}{KK:OB}{q c n B d k N:Nat}{vs:List Nat}{ns:List Tr}{ds:List (List UInt8×Nat)}{at_:List (List Nat)}(hC:CMem s KK q c n B ns ds at_)(hd:at_[d]?=some vs)(hv:∀v,v∈vs->v<n)(hw:vs.length<=62)(hk:k<2 ^ vs.length)(hc:CntN ns N)(hB:N+vs.length * 2 ^ vs.length<=B) :
  OpFC 117 [.ptr c 0,.int .i64 d,.int .i64 k] s KK n B ns (N+vs.length * 2 ^ vs.length) (fun x=>decide (k<=bX vs x)):=by
 have w0:=fun s=>Cz s k vs.length hw hk
 have c0:=hC.om.c0.2
 have I0:LeI s KK q c n B ns ds at_ vs k N 0 s KK ns (fun _=>true):=⟨hC,.refl _ _,⟨[],by simp⟩,c0.1,by simpa using hc,fun _ _ _=>rfl,by rw[List.drop_zero];funext x;exact LA hk⟩
 have e8:=c0.2
 have hat:=pc hd
 have hln:(ak vs).length=vs.length:=natsL_len
 have hl2:(gP k vs.length).length=vs.length:=qI
 have hco:=hC.co
 have hb1:=fun(j:Nat) (h:j<vs.length)=>tM (n:=k) h
 have hb2:=fun(j v:Nat) (h:vs[j]?=some v)=>aH h
 have HW:=o_ hw
 have HI:=o_ I0
 have HB:=o_ hB
 have HV:=o_ hv
 have HB1:=o_ hb1
 have HB2:=o_ hb2
 unfold OpFC
 clear I0 hC hd hv hk hc hB c0 hb1 hb2
 generalize gP k vs.length=L at *
 generalize hAA:atC at_=A at *
 have HAA:=o_ hAA
 clear hAA
 generalize ak vs=V at *
 generalize hwl:vs.length=w at *
 have HWL:=o_ hwl
 clear hwl
 have hd0:(0:Int)<=d:=Int.natCast_nonneg _
 refine am Tryz.func117 rfl Tryz.ntmps117 rfl fun Q hQ hQe=>?_
 (repeat'(first|refine Ctl ?_|((with_reducible refine k_ hK ?_);clear hK hE K E)|(((with_reducible first|refine ab fun K E hK hE=>?_|refine ae GI (w0 _) ?_))<;>(try simp(disch:=assumption) only[go_sem,seval,hat,hln,hl2, *]))))
 refine bV (fun m env s'=>∃(i:Nat) (K':OB) (ns':List Tr) (g:(Nat->Bool)->Bool),i<=w/\m+i=w/\Hid (LeI s KK q c n B ns ds at_ vs k N i s' K' ns' g)/\s' c=.obj 132 [.ptr q 0,.lst (dx ds) .no,.lst A .no]/\env 0=.ptr c 0/\env 1=.int .i64 d/\env 8=.int .i64 (ixF n ns' g:Nat)/\env 28=.lst L .no/\env 29=.int .i64 w/\env 30=.int .i64 i) w ?_ ?_
 ·exact⟨_,Fg.refl _,0,KK,ns,fun _=>true,by omega,by omega,HI,hco,ac,ac,by(rw[e8];((try simp(disch:=assumption) only[go_sem,seval, *])<;>rfl)),ac,ac,ac⟩
 ·rintro m env s' ⟨i,K',ns',g,hi,hm,II,hcs,e0,e1,e8,e28,e29,e30⟩
  have I:=II.out
  by_cases h5:i<w
  ·obtain⟨v,hvi⟩:∃v,vs[i]?=some v:=⟨_,m_ (by rw[HWL.out];exact h5)⟩
   have hvm:=y_ hvi
   have hpw:0<2 ^ w:=Nat.two_pow_pos w
   have hroom:N+i * 2 ^ w+2 ^ w<=B:=by
    have h1:i * 2 ^ w+2 ^ w=(i+1) * 2 ^ w:=by rw[Nat.add_mul,Nat.one_mul]
    have h2:(i+1) * 2 ^ w<=w * 2 ^ w:=Nat.mul_le_mul_right _ h5
    have:=HB.out
    omega
   have hcnt:=I.cnt
   rw[HWL.out]at hcnt
   have wl:=Nc I.m (HV.out v hvm) true hcnt (by omega)
   have hx1:=HB1.out i h5
   have hx2:=HB2.out i v hvi
   have HVI:=o_ hvi
   have HVM:=o_ hvm
   have HCNT:=o_ hcnt
   have HR:=o_ hroom
   have HPW:=o_ hpw
   have hkc:=I.m.co
   unfold OpFC at wl
   clear I hcnt hvi hvm hroom hkc hpw
   generalize htb:k.testBit i=tb at *
   have HTB:=o_ htb
   clear htb
   cases tb
   case false=>
    (repeat'(first|refine Ctl ?_|((with_reducible refine k_ hK ?_);clear hK hE K E)|((with_reducible refine ah (fun h=>?_) (fun h=>?_))<;>(try(exfalso;assumption)))|(((with_reducible refine ab fun K E hK hE=>?_))<;>(try simp(disch:=assumption) only[go_sem,seval,hat,hx1,hx2,hln,hl2, *]))))
    refine ao GH wl (fun a h=>?_)
    obtain⟨u1,K1,ns1⟩:=a
    have I:=II.out
    have hm1:=I.m.keep h.m h.k
    have mg:=bn h.pre I.mem
    have dl:DepF vs fun x:Nat->Bool=>x v == true:=.lit HVM.out true
    have hgn:ep n g:=I.dep.hang HV.out
    have hln':ep n fun x:Nat->Bool=>x v == true:=dl.hang HV.out
    dsimp only at h mg hm1 ⊢
    have wq:=dD u1 q K1.o K1.s.p hm1.qo
    have hcs1:=hm1.co
    have hsub:SubN (treeT n fun x=>(x v == true) || g x) (2 ^ w - 1):=by
     have:=di (S:=vs) HV.out (dl.or I.dep) (Nat.le_refl vs.length)
     rw[HWL.out]at this
     exact this
    have wo:=Ca hm1.om hln' hgn h.mem mg.1 h.cnt hsub (by have:=HR.out;have:=HPW.out;omega)
    have e8':ixF n ns1 g=ixF n ns' g:=mg.2
    rw[e8']at wo
    have hdep:=dl.or I.dep
    have N1:=fun u2 K2 ns2 h2=>LeI.next (u2:=u2) (K2:=K2) (ns2:=ns2) I HVI.out HWL.out rfl h h2 (by rw[HTB.out];rfl) hdep
    have HN1:=o_ N1
    have hm1':=o_ hm1
    unfold OpFC at wo
    clear N1 hdep e8' hsub hm1 mg dl hgn hln' I h wl
    generalize hA2:atC at_=A2 at hcs1
    obtain rfl:A2=A:=hA2.symm.trans HAA.out
    clear hA2
    simp only[go_sem,seval]
    (repeat'(first|refine Ctl ?_|((with_reducible refine k_ hK ?_);clear hK hE K E)|((with_reducible refine ah (fun h=>?_) (fun h=>?_))<;>(try(exfalso;assumption)))|(((with_reducible first|refine ab fun K E hK hE=>?_|refine ae dK (wq) ?_))<;>(try simp(disch:=assumption) only[go_sem,seval, *]))))
    refine ao xH wo (fun a h=>?_)
    obtain⟨u2,K2,ns2⟩:=a
    have h3:=HN1.out u2 K2 ns2 h
    have h4:=h3.m.co
    rw[HAA.out]at h4
    have H3:=o_ h3
    clear h h3 wo
    dsimp only
    simp only[go_sem,seval]
    (repeat'(first|refine Ctl ?_|((with_reducible refine k_ hK ?_);clear hK hE K E)|((with_reducible refine ah (fun h=>?_) (fun h=>?_))<;>(try(exfalso;assumption)))|(((with_reducible refine ab fun K E hK hE=>?_))<;>(try simp(disch:=omega) only[go_sem,seval, *]))))
    exact⟨_,Fg.refl _,m - 1,by omega,i+1,K2,ns2,_,by omega,by omega,H3,h4,ac,ac,ac,ac,ac,ac⟩
   case true=>
    (repeat'(first|refine Ctl ?_|((with_reducible refine k_ hK ?_);clear hK hE K E)|((with_reducible refine ah (fun h=>?_) (fun h=>?_))<;>(try(exfalso;assumption)))|(((with_reducible refine ab fun K E hK hE=>?_))<;>(try simp(disch:=assumption) only[go_sem,seval,hat,hx1,hx2,hln,hl2, *]))))
    refine ao GH wl (fun a h=>?_)
    obtain⟨u1,K1,ns1⟩:=a
    have I:=II.out
    have hm1:=I.m.keep h.m h.k
    have mg:=bn h.pre I.mem
    have dl:DepF vs fun x:Nat->Bool=>x v == true:=.lit HVM.out true
    have hgn:ep n g:=I.dep.hang HV.out
    have hln':ep n fun x:Nat->Bool=>x v == true:=dl.hang HV.out
    dsimp only at h mg hm1 ⊢
    have wq:=dD u1 q K1.o K1.s.p hm1.qo
    have hcs1:=hm1.co
    have hsub:SubN (treeT n fun x=>(x v == true) && g x) (2 ^ w - 1):=by
     have:=di (S:=vs) HV.out (dl.and I.dep) (Nat.le_refl vs.length)
     rw[HWL.out]at this
     exact this
    have wo:=vS hm1.om hln' hgn h.mem mg.1 h.cnt hsub (by have:=HR.out;have:=HPW.out;omega)
    have e8':ixF n ns1 g=ixF n ns' g:=mg.2
    rw[e8']at wo
    have hdep:=dl.and I.dep
    have N1:=fun u2 K2 ns2 h2=>LeI.next (u2:=u2) (K2:=K2) (ns2:=ns2) I HVI.out HWL.out rfl h h2 (by rw[HTB.out];rfl) hdep
    have HN1:=o_ N1
    have hm1':=o_ hm1
    unfold OpFC at wo
    clear N1 hdep e8' hsub hm1 mg dl hgn hln' I h wl
    generalize hA2:atC at_=A2 at hcs1
    obtain rfl:A2=A:=hA2.symm.trans HAA.out
    clear hA2
    simp only[go_sem,seval]
    (repeat'(first|refine Ctl ?_|((with_reducible refine k_ hK ?_);clear hK hE K E)|((with_reducible refine ah (fun h=>?_) (fun h=>?_))<;>(try(exfalso;assumption)))|(((with_reducible first|refine ab fun K E hK hE=>?_|refine ae dK (wq) ?_))<;>(try simp(disch:=assumption) only[go_sem,seval, *]))))
    refine ao BI wo (fun a h=>?_)
    obtain⟨u2,K2,ns2⟩:=a
    have h3:=HN1.out u2 K2 ns2 h
    have h4:=h3.m.co
    rw[HAA.out]at h4
    have H3:=o_ h3
    clear h h3 wo
    dsimp only
    simp only[go_sem,seval]
    (repeat'(first|refine Ctl ?_|((with_reducible refine k_ hK ?_);clear hK hE K E)|((with_reducible refine ah (fun h=>?_) (fun h=>?_))<;>(try(exfalso;assumption)))|(((with_reducible refine ab fun K E hK hE=>?_))<;>(try simp(disch:=omega) only[go_sem,seval, *]))))
    exact⟨_,Fg.refl _,m - 1,by omega,i+1,K2,ns2,_,by omega,by omega,H3,h4,ac,ac,ac,ac,ac,ac⟩
  ·obtain rfl:i=w:=by omega
   have hI:=II.out
   have hg:=hI.fin
   rw[List.drop_eq_nil_of_le (by rw[HWL.out];exact Nat.le_refl _)]at hg
   have hg2:g=fun x=>decide (k<=bX vs x):=hg
   have hcn:=hI.cnt
   rw[HWL.out]at hcn
   have HR:Hid (OpF s KK n B ns (N+i * 2 ^ i) (fun x=>decide (k<=bX vs x)) (s',K',ns')):=o_ ⟨hI.m.om,hI.pre,hg2 ▸ hI.mem,hcn,hI.kp⟩
   rw[hg2]at e8
   clear I hI hg hg2 hcn
   (repeat'(first|refine Ctl ?_|((with_reducible refine k_ hK ?_);clear hK hE K E)|((with_reducible refine ah (fun h=>?_) (fun h=>?_))<;>(try(exfalso;assumption)))|(((with_reducible refine ab fun K E hK hE=>?_))<;>(try simp(disch:=assumption) only[go_sem,seval, *]))))
   (refine aq An hQ ?_)
   exact⟨_,_,Wk.refl _,Fg.refl _,pB (K',ns') rfl HR.out⟩
def ge (vs:List Nat)(lo hi:Nat)(x:Nat->Bool):Bool:=decide (lo<=bX vs x) && decide (bX vs x<=hi)
set_option maxHeartbeats 8000000 in
theorem Nf {s:St}{KK:OB}{q c n B d lo hi N:Nat}{vs:List Nat}{ns:List Tr}{ds:List (List UInt8×Nat)}{at_:List (List Nat)}(hC:CMem s KK q c n B ns ds at_)(hd:at_[d]?=some vs)(hv:∀v,v∈vs->v<n)(hw:vs.length<=61)(hk:lo<2 ^ vs.length)(hk2:hi<2 ^ vs.length)(hc:CntN ns N)(hB:N+(2 * vs.length+1) * 2 ^ vs.length<=B) :
  OpFC 87 [.ptr c 0,.int .i64 d,.int .i64 lo,.int .i64 hi] s KK n B ns (N+(2 * vs.length+1) * 2 ^ vs.length) (ge vs lo hi):=by
 have hpw:0<2 ^ vs.length:=Nat.two_pow_pos _
 have hB1:N+vs.length * 2 ^ vs.length+(vs.length * 2 ^ vs.length+2 ^ vs.length)=N+(2 * vs.length+1) * 2 ^ vs.length:=by
  rw[Nat.add_mul,Nat.mul_assoc,Nat.one_mul]
  omega
 have w1:=t7 hC hd hv (by omega) hk hc (by omega)
 have d1:DepF vs fun x=>decide (lo<=bX vs x):=fun x y e=>by simp only[cO e]
 have hat:=pc hd
 have hln:(ak vs).length=vs.length:=natsL_len
 have hco:=hC.co
 have hsh:=jD (k:=vs.length) (by omega)
 have hadd:IntKind.i64.wrap ((hi+1:Nat):Int)=((hi+1:Nat):Int):=by
  have:2 ^ vs.length<=2 ^ 61:=Nat.pow_le_pow_right (by omega) hw
  generalize 2 ^ vs.length=P at *
  rw[bT (by omega) (by omega)]
 have HB1:=o_ hB1
 have HB:=o_ hB
 have HD:=o_ hd
 have HV:=o_ hv
 have HW:=o_ hw
 have HC:=o_ hC
 have HCN:=o_ hc
 have HD1:=o_ d1
 have hd0:(0:Int)<=d:=Int.natCast_nonneg _
 by_cases h5:hi+1<2 ^ vs.length
 ·have h6:¬ ((hi+1:Nat):Int)>=((2 ^ vs.length:Nat):Int):=by omega
  have HK2:=o_ h5
  unfold OpFC at w1 ⊢
  clear hC hd hv hw hk hk2 hc hB hB1 hpw d1 h5
  generalize hPP:((2 ^ vs.length:Nat):Int)=P at hsh h6
  obtain⟨hi1,hHH⟩:∃z,z=((hi+1:Nat):Int):=⟨_,rfl⟩
  rw[<- hHH]at hadd h6
  replace hHH:=hHH.symm
  have HHH:=o_ hHH
  obtain⟨w,hLL⟩:∃w,w=vs.length:=⟨_,rfl⟩
  rw[<- hLL]at hsh hln
  generalize hAA:atC at_=A at *
  have HAA:=o_ hAA
  clear hPP hLL hAA
  refine am Tryz.func87 rfl Tryz.ntmps87 rfl fun Q hQ hQe=>?_
  (repeat'(first|refine Ctl ?_|((with_reducible refine k_ hK ?_);clear hK hE K E)|(((with_reducible refine ab fun K E hK hE=>?_))<;>(try simp(disch:=assumption) only[go_sem,seval, *]))))
  refine ao vI w1 (fun a h=>?_)
  obtain⟨u1,K1,ns1⟩:=a
  have hm1:=HC.out.keep h.m h.k
  dsimp only at hm1 h ⊢
  have hcs1:=hm1.co
  rw[HAA.out]at hcs1
  have w2:=t7 hm1 HD.out HV.out (by have:=HW.out;omega) HK2.out h.cnt (by have:=HB.out;have:=HB1.out;have:0<2 ^ vs.length:=Nat.two_pow_pos _;omega)
  unfold OpFC at w2
  rw[HHH.out]at w2
  have H1:=o_ (And.intro h hm1)
  clear h hm1 w1
  simp only[go_sem,seval]
  (repeat'(first|refine Ctl ?_|((with_reducible refine k_ hK ?_);clear hK hE K E)|((with_reducible refine ah (fun h=>?_) (fun h=>?_))<;>(try(exfalso;assumption)))|(((with_reducible refine ab fun K E hK hE=>?_))<;>(try simp(disch:=assumption) only[go_sem,seval,hat,hln,hsh,hadd, *]))))
  refine ao vI w2 (fun a h2=>?_)
  obtain⟨u2,K2,ns2⟩:=a
  obtain⟨h,hm1⟩:=H1.out
  have hm2:=hm1.keep h2.m h2.k
  have mg:=bn h2.pre h.mem
  dsimp only at hm2 h2 mg ⊢
  have hcs2:=hm2.co
  rw[HAA.out]at hcs2
  have wq:=dD u2 q K2.o K2.s.p hm2.qo
  have d2:DepF vs fun x=>decide (hi+1<=bX vs x):=fun x y e=>by simp only[cO e]
  have hdd:=HD1.out.diff d2
  have hcn:=h2.cnt
  have wo:=xT hm2.om (HD1.out.hang HV.out) (d2.hang HV.out) mg.1 h2.mem hcn (di HV.out hdd (Nat.le_refl _)) (by have:=HB.out;have:=HB1.out;have:0<2 ^ vs.length:=Nat.two_pow_pos _;omega)
  have e1:(ixF n ns2 fun x=>decide (lo<=bX vs x))=ixF n ns1 fun x=>decide (lo<=bX vs x):=mg.2
  have e2:(fun x=>decide (lo<=bX vs x) && !decide (hi+1<=bX vs x))=ge vs lo hi:=by
   funext x
   simp only[ge]
   congr 1
   rw[Bool.eq_iff_iff]
   simp
   omega
  rw[e1,e2]at wo
  unfold OpFC at wo
  have HN:Hid (∀a,OpF u2 K2 n B ns2 (N+vs.length * 2 ^ vs.length+vs.length * 2 ^ vs.length+(2 ^ vs.length - 1)) (ge vs lo hi) a->OpF s KK n B ns (N+(2 * vs.length+1) * 2 ^ vs.length) (ge vs lo hi) a):=o_ fun a h3=>by
   obtain⟨a1,a2,a3,a4,a5⟩:=OpF.trans h3 (h.k.trans h2.k) (eK h.pre h2.pre)
   exact⟨a1,a2,a3,a4.mono (by have:=HB1.out;have:0<2 ^ vs.length:=Nat.two_pow_pos _;omega),a5⟩
  clear h hm1 h2 hm2 mg d2 hdd hcn e1 e2 w2
  simp only[go_sem,seval]
  (repeat'(first|refine Ctl ?_|((with_reducible refine k_ hK ?_);clear hK hE K E)|((with_reducible refine ah (fun h=>?_) (fun h=>?_))<;>(try(exfalso;assumption)))|(((with_reducible first|refine ab fun K E hK hE=>?_|refine ae dK (wq) ?_))<;>(try simp(disch:=assumption) only[go_sem,seval, *]))))
  refine ao GP wo (fun a h=>?_)
  obtain⟨u3,K3,ns3⟩:=a
  have h3:=o_ (HN.out _ h)
  clear h wo
  simp only[go_sem,seval]
  (repeat'(first|refine Ctl ?_|((with_reducible refine k_ hK ?_);clear hK hE K E)))
  (refine aq zV hQ ?_)
  exact⟨_,_,Wk.refl _,Fg.refl _,pB (K3,ns3) rfl h3.out⟩
 ·have h6:((hi+1:Nat):Int)>=((2 ^ vs.length:Nat):Int):=by omega
  have e2:(fun x=>decide (lo<=bX vs x))=ge vs lo hi:=by
   funext x
   simp only[ge]
   have:=jO vs x
   have:bX vs x<=hi:=by omega
   simp[this]
  rw[e2]at w1
  unfold OpFC at w1 ⊢
  have HB1':Hid (N+vs.length * 2 ^ vs.length<=N+(2 * vs.length+1) * 2 ^ vs.length):=o_ (by omega)
  clear hC hd hv hw hk hk2 hc hB hB1 hpw d1 h5 e2
  generalize hPP:((2 ^ vs.length:Nat):Int)=P at hsh h6
  obtain⟨hi1,hHH⟩:∃z,z=((hi+1:Nat):Int):=⟨_,rfl⟩
  rw[<- hHH]at hadd h6
  replace hHH:=hHH.symm
  obtain⟨w,hLL⟩:∃w,w=vs.length:=⟨_,rfl⟩
  rw[<- hLL]at hsh hln
  generalize hAA:atC at_=A at *
  have HAA:=o_ hAA
  clear hPP hLL hAA
  refine am Tryz.func87 rfl Tryz.ntmps87 rfl fun Q hQ hQe=>?_
  (repeat'(first|refine Ctl ?_|((with_reducible refine k_ hK ?_);clear hK hE K E)|(((with_reducible refine ab fun K E hK hE=>?_))<;>(try simp(disch:=assumption) only[go_sem,seval, *]))))
  refine ao vI w1 (fun a h=>?_)
  obtain⟨u1,K1,ns1⟩:=a
  have hm1:=HC.out.keep h.m h.k
  dsimp only at hm1 h ⊢
  have hcs1:=hm1.co
  rw[HAA.out]at hcs1
  have H1:Hid (OpF s KK n B ns (N+(2 * vs.length+1) * 2 ^ vs.length) (ge vs lo hi) (u1,K1,ns1)):=o_ ⟨h.m,h.pre,h.mem,h.cnt.mono HB1'.out,h.k⟩
  clear h hm1 w1
  simp only[go_sem,seval]
  (repeat'(first|refine Ctl ?_|((with_reducible refine k_ hK ?_);clear hK hE K E)|((with_reducible refine ah (fun h=>?_) (fun h=>?_))<;>(try(exfalso;assumption)))|(((with_reducible refine ab fun K E hK hE=>?_))<;>(try simp(disch:=assumption) only[go_sem,seval,hat,hln,hsh,hadd, *]))))
  (refine aq zV hQ ?_)
  exact⟨_,_,Wk.refl _,Fg.refl _,pB (K1,ns1) rfl H1.out⟩
def o9 (m:Nat)(z:Int):Bool:=decide (z<0) || decide ((m:Int)<=z)
def lp (p:Int->Bool):List Int->Nat->Int
 |[],_=>-1
 |z::zs,i=>if p z=true then i else lp p zs (i+1)
theorem tr (p:Int->Bool):∀(zs:List Int) (i:Nat),decide (0<=lp p zs i)=zs.any p
 |[],i=>by simp[lp]
 |z::zs,i=>by
  have ih:=tr p zs (i+1)
  by_cases h:p z=true
  ·have e:lp p (z::zs) i=(i:Int):=if_pos h
   rw[e,List.any_cons]
   simp[h]
  ·have e:lp p (z::zs) i=lp p zs (i+1):=if_neg h
   rw[e,ih,List.any_cons]
   simp[h]
theorem cA (ks:List Nat):ak ks=aI (ks.map fun(k:Nat)=>(k:Int)):=by simp[ak,aI,List.map_map]
set_option maxHeartbeats 4000000 in
theorem FI (s:St)(bx c:Nat)(q:VV)(D A:List (List VV))(o1 o2:Own)(z:Int)(hb:s bx=.obj 63 [.ptr c 0])(hc:s c=.obj 132 [q,.lst D o1,.lst A o2]) :
  SRet Tryz.prog 110 [.int .i64 z,.ptr bx 0] s (.bool (o9 D.length z)) s:=by
 unfold o9
 generalize hm:D.length=m at *
 by_cases h1:z<0
 ·have e:(decide (z<0) || decide ((m:Int)<=z))=true:=by simp[h1]
  rw[e]
  clear e
  refine am Tryz.func110 rfl Tryz.ntmps110 rfl fun Q hQ hQe=>?_
  (repeat'(first|refine Ctl ?_|((with_reducible refine k_ hK ?_);clear hK hE K E)|(((with_reducible refine ab fun K E hK hE=>?_))<;>(try simp(disch:=assumption) only[go_sem,seval, *]))))
  all_goals(refine aq uH hQ ?_)
  all_goals(refine⟨_,_,Wk.of_eq ?_,?_,rfl,rfl⟩)
  all_goals first|rfl|(exact bK)
 ·have e:(decide (z<0) || decide ((m:Int)<=z))=decide ((m:Int)<=z):=by simp[h1]
  rw[e]
  clear e
  refine am Tryz.func110 rfl Tryz.ntmps110 rfl fun Q hQ hQe=>?_
  (repeat'(first|refine Ctl ?_|((with_reducible refine k_ hK ?_);clear hK hE K E)|(((with_reducible refine ab fun K E hK hE=>?_))<;>(try simp(disch:=assumption) only[go_sem,seval, *]))))
  all_goals(refine aq uH hQ ?_)
  all_goals(refine⟨_,_,Wk.of_eq ?_,?_,rfl,rfl⟩)
  all_goals first|rfl|(exact bK)
set_option maxHeartbeats 4000000 in
theorem Nd (s:St)(bx c:Nat)(q:VV)(D A:List (List VV))(o1 o2 o3:Own)(zs:List Int)(hz:zs.length<=1000000)(hb:s bx=.obj 63 [.ptr c 0])(hc:s c=.obj 132 [q,.lst D o1,.lst A o2]) :
  SRet Tryz.prog 74 [.lst (aI zs) o3,.fn 110 [.ptr bx 0]] s (.int .i64 (lp (o9 D.length) zs 0)) s:=by
 have w1:=fun z=>FI s bx c q D A o1 o2 z hb hc
 have hl:(aI zs).length=zs.length:=dW
 have hat:=fun(i:Nat) (z:Int) (h:zs[i]?=some z)=>ej h
 generalize o9 D.length=p at *
 have HA:=o_ hat
 clear hat
 obtain⟨R,hR⟩:∃R,lp p zs 0=R:=⟨_,rfl⟩
 rw[hR]
 have h0:Hid (lp p (zs.drop 0) 0=R):=o_ (by rw[List.drop_zero];exact hR)
 clear hR
 generalize aI zs=L at *
 refine am Tryz.func74 rfl Tryz.ntmps74 rfl fun Q hQ hQe=>?_
 (repeat'(first|refine Ctl ?_|((with_reducible refine k_ hK ?_);clear hK hE K E)|(((with_reducible refine ab fun K E hK hE=>?_))<;>(try simp(disch:=assumption) only[go_sem,seval,hl, *]))))
 refine aY (fun m env s'=>∃(i:Nat),i<=zs.length/\m+i=zs.length/\Hid (lp p (zs.drop i) i=R)/\s'=s/\env 0=.lst L o3/\env 1=.fn 110 [.ptr bx 0]/\env 7=.int .i64 zs.length/\env 8=.int .i64 i) zs.length
  ⟨0,by omega,by omega,h0,rfl,ac,ac,ac,ac⟩ ?_
 rintro m env s' ⟨i,hi,hm,HR,rfl,e0,e1,e7,e8⟩
 by_cases h2:i<zs.length
 ·have hx:=m_ h2
  have hd:=c_ h2
  have hr:=HR.out
  rw[hd]at hr
  generalize zs[i]=z at *
  have hx2:=HA.out i z hx
  have w2:=w1 z
  simp only[lp]at hr
  clear hd hx w1
  cases hp:p z
  ·rw[hp,if_neg (by simp)]at hr
   have HR2:=o_ hr
   rw[hp]at w2
   clear hr hp
   (repeat'(first|refine Ctl ?_|((with_reducible refine k_ hK ?_);clear hK hE K E)|((with_reducible refine ah (fun h=>?_) (fun h=>?_))<;>(try(exfalso;assumption)))|(((with_reducible first|refine ab fun K E hK hE=>?_|refine ae BP (w2) ?_))<;>(try simp(disch:=omega) only[go_sem,seval,hx2, *]))))
   all_goals exact⟨m - 1,by omega,i+1,by omega,by omega,HR2,rfl,ac,ac,ac,ac⟩
  ·rw[hp,if_pos rfl]at hr
   subst hr
   rw[hp]at w2
   clear hp
   (repeat'(first|refine Ctl ?_|((with_reducible refine k_ hK ?_);clear hK hE K E)|((with_reducible refine ah (fun h=>?_) (fun h=>?_))<;>(try(exfalso;assumption)))|(((with_reducible first|refine ab fun K E hK hE=>?_|refine ae BP (w2) ?_))<;>(try simp(disch:=assumption) only[go_sem,seval,hx2, *]))))
   all_goals(refine aq sF hQ ?_)
   all_goals(refine⟨_,_,Wk.of_eq ?_,?_,rfl,rfl⟩)
   all_goals first|rfl|(exact bK)
 ·have hr:=HR.out
  rw[List.drop_eq_nil_of_le (by omega)]at hr
  simp only[lp]at hr
  subst hr
  clear HR h0
  (repeat'(first|refine Ctl ?_|((with_reducible refine k_ hK ?_);clear hK hE K E)|((with_reducible refine ah (fun h=>?_) (fun h=>?_))<;>(try(exfalso;assumption)))|(((with_reducible refine ab fun K E hK hE=>?_))<;>(try simp(disch:=assumption) only[go_sem,seval, *]))))
  all_goals(refine aq sF hQ ?_)
  all_goals(refine⟨_,_,Wk.of_eq ?_,?_,rfl,rfl⟩)
  all_goals first|rfl|(exact bK)
set_option maxHeartbeats 4000000 in
theorem Cx (s:St)(c:Nat)(q:VV)(D A:List (List VV))(o1 o2 o3:Own)(zs:List Int)(hz:zs.length<=1000000)(hc:s c=.obj 132 [q,.lst D o1,.lst A o2]) :
  SRet Tryz.prog 73 [.ptr c 0,.lst (aI zs) o3] s (.bool (!zs.any (o9 D.length))) s:=by
 have w0:=fun(t:St) (bx:Nat) (hb:t bx=.obj 63 [.ptr c 0]) (hc:t c=.obj 132 [q,.lst D o1,.lst A o2])=>Nd t bx c q D A o1 o2 o3 zs hz hb hc
 have hE:=tr (o9 D.length) zs 0
 generalize lp (o9 D.length) zs 0=R at *
 rw[<- hE]
 clear hE
 have w1:∀(t:St) (bx:Nat) (hb:t bx=.obj 63 [.ptr c 0]) (hc:t c=.obj 132 [q,.lst D o1,.lst A o2]),SRet Tryz.prog 109 [.lst (aI zs) o3,.fn 110 [.ptr bx 0]] t (.bool (decide (0<=R))) t:=fun t bx hb hc=>by
  have w:=w0 t bx hb hc
  clear w0 hz hb hc
  generalize aI zs=L at *
  refine am Tryz.func109 rfl Tryz.ntmps109 rfl fun Q hQ hQe=>?_
  (repeat'(first|refine Ctl ?_|((with_reducible refine k_ hK ?_);clear hK hE K E)|(((with_reducible first|refine ab fun K E hK hE=>?_|refine ae BD (w) ?_))<;>(try simp(disch:=assumption) only[go_sem,seval, *]))))
  all_goals(refine aq Ar hQ ?_)
  all_goals(refine⟨_,_,Wk.of_eq ?_,?_,rfl,rfl⟩)
  all_goals first|rfl|(exact bK)
 have hcf:s c≠.free:=by rw[hc];simp
 clear w0 hz
 generalize aI zs=L at *
 refine am Tryz.func73 rfl Tryz.ntmps73 rfl fun Q hQ hQe=>?_
 (repeat'(first|refine Ctl ?_|((with_reducible refine k_ hK ?_);clear hK hE K E)|((with_reducible refine ah (fun h=>?_) (fun h=>?_))<;>(try(exfalso;assumption)))|((first|(with_reducible first|refine ab fun K E hK hE=>?_|refine ae Mo (w1 _ _ ac ac) ?_)|((with_reducible refine au (fun b hb=>?_));(try(obtain⟨_,_⟩:=nef hb hcf))))<;>(try simp(disch:=assumption) only[go_sem,seval, *]))))
 all_goals(refine aq FT hQ ?_)
 all_goals(refine⟨_,_,Wk.of_eq ?_,?_,rfl,rfl⟩)
 all_goals first|rfl|(exact bK)
theorem AU (b:Bool)(x y:Int):be b (.int .i64 x) (.int .i64 y)=some (.int .i64 (if b then max x y else min x y)):=by
 cases b
 ·simp only[be,if_true,Bool.false_eq_true,if_false]
  congr 2
  split<;>omega
 ·simp only[be,if_true]
  congr 2
  split<;>omega
structure DOk (n:Nat) (ds:List (List UInt8×Nat)) (at_:List (List Nat)):Prop where
 len:at_.length=ds.length
 lt:∀l,l∈at_->∀v,v∈l->v<n
 nd:at_.flatten.Nodup
 w:∀(d:Nat) x l,ds[d]?=some x->at_[d]?=some l->1<=x.2/\x.2<=2 ^ l.length/\x.2<=1073741824/\l.length<=30
 m:ds.length<=32
theorem DOk.get {n:Nat}{ds:List (List UInt8×Nat)}{at_:List (List Nat)}(h:DOk n ds at_){d:Nat}(hd:d<ds.length):∃nm sz l,ds[d]?=some (nm,sz)/\at_[d]?=some l/\1<=sz/\sz<=2 ^ l.length/\sz<=1073741824/\l.length<=30/\∀v,v∈l->v<n:=by
 have h1:=m_ hd
 have h2:=m_ (show d<at_.length by rw[h.len];exact hd)
 obtain⟨a,b,c,e⟩:=h.w d _ _ h1 h2
 exact⟨_,_,_,h1,h2,a,b,c,e,h.lt _ (List.getElem_mem _)⟩
theorem tN {m d:Nat}:o9 m (d:Int)=!decide (d<m):=by
 unfold o9
 have h1:decide ((d:Int)<0)=false:=by simp
 rw[h1,Bool.false_or]
 by_cases h:d<m
 ·simp[h]
 ·simp[h];omega
set_option maxHeartbeats 8000000 in
theorem Na {s:St}{KK:OB}{q c n B d N:Nat}{lo hi:Nat}{nm:List UInt8}{sz:Nat}{vs:List Nat}{ns:List Tr}{ds:List (List UInt8×Nat)}{at_:List (List Nat)}(hC:CMem s KK q c n B ns ds at_)(hD:DOk n ds at_)(hds:ds[d]?=some (nm,sz))(hd:at_[d]?=some vs)(h1:lo<=hi)(h2:hi<sz)(hc:CntN ns N)(hB:N+(2 * vs.length+1) * 2 ^ vs.length<=B) :
  OpFC 68 [.ptr c 0,.int .i64 d,.int .i64 lo,.int .i64 hi] s KK n B ns (N+(2 * vs.length+1) * 2 ^ vs.length) (ge vs lo hi):=by
 obtain⟨w1,w2,w3,w4⟩:=hD.w d _ _ hds hd
 dsimp only at w1 w2 w3
 have wb:=Nf (lo:=lo) (hi:=hi) hC hd (hD.lt _ (y_ hd)) (by omega) (by omega) (by omega) hc hB
 have wh:=Cx s c _ _ _ _ _ .full [(d:Int)] (by simp) hC.co
 have hdl:d<ds.length:=(x_.1 hds).1
 have hany:([(d:Int)]).any (o9 (dx ds).length)=false:=by
  rw[fZ,List.any_cons,List.any_nil,tN]
  simp[hdl]
 rw[hany]at wh
 simp only[aI,List.map_cons,List.map_nil,Bool.not_false]at wh
 have hco:=hC.co
 have hdc:=oO hds
 have m1:=AU false lo hi
 have m2:=AU true lo hi
 simp only[if_true,Bool.false_eq_true,if_false]at m1 m2
 rw[show min (lo:Int) hi=lo by omega]at m1
 rw[show max (lo:Int) hi=hi by omega]at m2
 have h3:¬ (lo:Int)<0:=by omega
 have h4:¬ (hi:Int)>=sz:=by omega
 have h5:¬ (lo:Int) > hi:=by omega
 unfold OpFC at wb ⊢
 clear hC hD hds hd h1 h2 hc hB w1 w2 w3 w4 hdl hany
 dsimp only at hdc
 generalize dx ds=D at *
 generalize atC at_=A at *
 have hd0:(0:Int)<=d:=Int.natCast_nonneg _
 refine am Tryz.func68 rfl Tryz.ntmps68 rfl fun Q hQ hQe=>?_
 (repeat'(first|refine Ctl ?_|((with_reducible refine k_ hK ?_);clear hK hE K E)|((with_reducible refine ah (fun h=>?_) (fun h=>?_))<;>(try(exfalso;assumption)))|(((with_reducible first|refine ab fun K E hK hE=>?_|refine ae GK (wh) ?_))<;>(try simp(disch:=assumption) only[go_sem,seval,hdc,m1,m2, *]))))
 refine ao PY wb (fun a h=>?_)
 obtain⟨u1,K1,ns1⟩:=a
 have HR:=o_ h
 clear h wb
 simp only[go_sem,seval]
 (repeat'(first|refine Ctl ?_|((with_reducible refine k_ hK ?_);clear hK hE K E)))
 (refine aq FV hQ ?_)
 exact⟨_,_,Wk.refl _,Fg.refl _,pB (K1,ns1) rfl HR.out⟩
set_option maxHeartbeats 8000000 in
structure FG where
 f:FuncId
 caps:List VV
 g:(Nat->Bool)->Bool
structure AlI (s:St) (K:OB) (Z:Nat->Prop) (q c n B m k:Nat) (ns:List Tr) (ds:List (List UInt8×Nat)) (at_:List (List Nat)) (S:List Nat) (L:List FG) (N i:Nat) (s':St) (K':OB) (ns':List Tr) (g:(Nat->Bool)->Bool):Prop where
 cm:CMem s' K' q c n B ns' ds at_
 kp:OKeep s s' K K'
 pre:∃l,ns'=ns++l
 mem:treeT n g∈ns'
 cnt:CntN ns' (N+i * (m+2 ^ k))
 dep:DepF S g
 fin:g=fun x=>(L.take i).all fun e=>e.g x
theorem AlI.next {s:St}{K:OB}{Z:Nat->Prop}{q c n B m k:Nat}{ns:List Tr}{ds:List (List UInt8×Nat)}{at_:List (List Nat)}{S:List Nat}{L:List FG}{N i:Nat}{s':St}{K':OB}{ns':List Tr}{g:(Nat->Bool)->Bool}{u1 u2:St}{K1 K2:OB}{ns1 ns2:List Tr}{e:FG}
  (I:AlI s K Z q c n B m k ns ds at_ S L N i s' K' ns' g) (he:L[i]?=some e) (h1:OpF s' K' n B ns' (N+i * (m+2 ^ k)+m) e.g (u1,K1,ns1)) (h2:OpF u1 K1 n B ns1 (N+i * (m+2 ^ k)+m+(2 ^ k - 1)) (fun x=>g x && e.g x) (u2,K2,ns2)) (hd:DepF S e.g) :
  AlI s K Z q c n B m k ns ds at_ S L N (i+1) u2 K2 ns2 (fun x=>g x && e.g x):=by
 have hpw:0<2 ^ k:=Nat.two_pow_pos k
 refine⟨(I.cm.keep h1.m h1.k).keep h2.m h2.k,I.kp.trans (h1.k.trans h2.k),eK I.pre (eK h1.pre h2.pre),h2.mem,h2.cnt.mono ?_,I.dep.and hd,?_⟩
 ·rw[Nat.add_mul,Nat.one_mul]
  omega
 ·funext x
  rw[I.fin,List.take_add_one,he]
  simp
theorem OpFC.mono {f:FuncId}{xs:List VV}{s:St}{K:OB}{n B N1 N2:Nat}{ns:List Tr}{g:(Nat->Bool)->Bool}(h:OpFC f xs s K n B ns N1 g)(hN:N1<=N2):OpFC f xs s K n B ns N2 g:=by
 refine SCalls.mono (h:=h) ?_
 rintro w u ⟨a,rfl,rfl,h1,h2,h3,h4,h5⟩
 exact⟨a,rfl,rfl,h1,h2,h3,h4.mono hN,h5⟩
end Go.Proofs.YtohnaepcgnbaiaaGreatDoor
