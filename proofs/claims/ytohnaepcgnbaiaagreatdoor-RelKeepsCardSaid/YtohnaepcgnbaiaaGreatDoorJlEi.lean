/- Walks. Conditions: in the statements. -/
import Derived.Test.YtohnaepcgnbaiaaGreatDoorJlQkj
set_option maxHeartbeats 32000000
set_option linter.unusedSimpArgs false
set_option linter.unusedVariables false
set_option maxRecDepth 100000
namespace Go.Proofs.YtohnaepcgnbaiaaGreatDoor
open Go.RowKit
attribute [-go_sem] cX bH aT cU cT
def mu (w:Int):VV:=.agg [.int .u64 w,.int .u64 0,.int .u64 0,.int .u64 0]
section
variable {s : St} {b : Nat} {ok : Bool}
theorem OL {a e sz bt sz2 bt2 n4 e4 bt4:Nat}{zo:Bool}{zz z2:Tb}{zo2:Bool}{t:Int}{l:TY} :
  lZ ⟨.map a e,sz,bt,zo,zz⟩ ⟨.array n4 e4,4,bt4,true,[.int .u64 0,.int .u64 0,.int .u64 0,.int .u64 0]⟩ ⟨.int .i64,sz2,bt2,zo2,z2⟩ (.int .i64 t) ok (.map (mpZ mu l))=some (if ok then .tup [.agg [.int .u64 ((lkZ t l).getD 0),.int .u64 0,.int .u64 0,.int .u64 0],.bool (lkZ t l).isSome] else .agg [.int .u64 ((lkZ t l).getD 0),.int .u64 0,.int .u64 0,.int .u64 0]):=by
 simp only[lZ,dN,jR]
 cases lkZ t l with
 |none=>cases ok<;>rfl
 |some n=>cases ok<;>rfl
theorem N9 {a e sz bt sz2 bt2:Nat}{zo:Bool}{zz z2:Tb}{zo2:Bool}{t:Int}{n:Int}{l:TY} :
  lX ⟨.map a e,sz,bt,zo,zz⟩ ⟨.int .i64,sz2,bt2,zo2,z2⟩ b (.int .i64 t) (.agg [.int .u64 n,.int .u64 0,.int .u64 0,.int .u64 0]) s (.map (mpZ mu l))=some (s.set b (.map (mpZ mu (ptZ t n l)))):=by
 simp only[lX,dN]
 show (im (.int .i64 t) (mu n) (mpZ mu l)).map _=_
 rw[jP]
 rfl
end
attribute [go_sem] OL N9
def AskOk (ns:Td)(me:TY):Prop:=∀k w,lkZ k me=some w->∃u,u∈ns/\k=((ixN ns u:Nat):Int)/\w=((cM u:Nat):Int)
structure AskM (s:St) (K:OB) (q x m n B:Nat) (ns:Td) (C SZ:VV) (me:TY):Prop where
 om:OMem s K n B ns
 qo:s q=.obj 126 [.ptr K.o 0,.ptr K.s.p 0]
 xo:s x=.obj 73 [C,.ptr q 0,SZ,.mp m,.int .i64 0]
 mo:s m=.map (mpZ mu me)
 ok:AskOk ns me
theorem AskM.step {s u:St}{K:OB}{q x m n B:Nat}{ns:Td}{C SZ:VV}{me me':TY}(h:AskM s K q x m n B ns C SZ me)(hu:∀z,s z≠.free->z≠m->u z=s z)(hm:u m=.map (mpZ mu me'))(hk:AskOk ns me'):AskM u K q x m n B ns C SZ me':=
 ⟨h.om.keep fun z hz=>hu z (h.om.live hz) fun e=>h.om.nomap h.mo (e ▸ hz),(hu q (by rw[h.qo];simp) fun e=>by have:=h.qo;rw[e,h.mo]at this;cases this).trans h.qo,(hu x (by rw[h.xo];simp) fun e=>by have:=h.xo;rw[e,h.mo]at this;cases this).trans h.xo,hm,hk⟩
theorem AskM.step2 {s u:St}{K:OB}{q x m n B:Nat}{ns:Td}{C SZ:VV}{me me':TY}(h:AskM s K q x m n B ns C SZ me)(hu:∀z,K.has z\/z=q\/z=x->u z=s z)(hm:u m=.map (mpZ mu me'))(hk:AskOk ns me'):AskM u K q x m n B ns C SZ me':=
 ⟨h.om.keep fun z hz=>hu z (.inl hz),(hu q (.inr (.inl rfl))).trans h.qo,(hu x (.inr (.inr rfl))).trans h.xo,hm,hk⟩
abbrev AsdA:=St×TY
def AskdC (s:St)(K:OB)(q x m n B:Nat)(ns:Td)(C SZ:VV)(t:Tr):Prop:=
 SCalls Tryz.prog 100 [.ptr x 0,.int .i64 (ixN ns t:Nat)] s fun w u=>∃a:AsdA,w=.ret (.agg [.int .u64 (cM t:Nat),.int .u64 0,.int .u64 0,.int .u64 0])/\u=a.1/\AskM a.1 K q x m n B ns C SZ a.2/\∀z,s z≠.free->z≠m->a.1 z=s z
theorem AskdC.ret {s:St}{K:OB}{q x m n B:Nat}{ns:Td}{C SZ:VV}{t:Tr}{me:TY}(hA:AskM s K q x m n B ns C SZ me)
  (h:SRet Tryz.prog 100 [.ptr x 0,.int .i64 (ixN ns t:Nat)] s (.agg [.int .u64 (cM t:Nat),.int .u64 0,.int .u64 0,.int .u64 0]) s):AskdC s K q x m n B ns C SZ t:=by
 refine SCalls.mono (h:=h) ?_
 rintro w u ⟨rfl,rfl⟩
 exact⟨(u,me),rfl,rfl,hA,fun _ _ _=>rfl⟩
theorem CD {s:St}{K:OB}{q x m n B:Nat}{ns:Td}{C SZ:VV}{b:Bool}{me:TY}(hA:AskM s K q x m n B ns C SZ me):AskdC s K q x m n B ns C SZ (.lf b):=by
 have hN:=hA.om.st.ok
 refine AskdC.ret hA ?_
 have hk:ixN ns (.lf b)<2:=by rw[(hN.lf b).2];cases b<;>decide
 have h1:((ixN ns (.lf b):Nat):Int)<2:=by omega
 have h2:(lkZ ((ixN ns (.lf b):Nat):Int) me).getD 0=0:=by
  cases h:lkZ ((ixN ns (.lf b):Nat):Int) me with
  |none=>rfl
  |some w=>
   obtain⟨u,hu,e1,e2⟩:=hA.ok _ _ h
   have:=cw (hN.lf b).1 hu (by omega)
   subst this
   simp[e2,cM]
 have c1:=hA.xo
 have c2:=hA.mo
 have hxf:s x≠.free:=by rw[c1];simp
 have hmf:s m≠.free:=by rw[c2];simp
 simp only[cM]
 generalize ixN ns (.lf b)=k at *
 clear hN hk hA
 refine am Tryz.func100 rfl Tryz.ntmps100 rfl fun Q hQ hQe=>?_
 (repeat'(first|refine Ctl ?_|((with_reducible refine k_ hK ?_);clear hK hE K E)|((with_reducible refine bZ (fun h=>?_) (fun h=>?_))<;>(try(exfalso;assumption)))|((first|(with_reducible refine ab fun K E hK hE=>?_)|((with_reducible refine au (fun b hb=>?_));(repeat(obtain⟨_,hb⟩:=hb));(try(obtain⟨_,_⟩:=nef hb hxf;obtain⟨_,_⟩:=nef hb hmf)))|((with_reducible refine pH (fun h=>?_) (fun h=>?_))))<;>(try simp(disch:=first|assumption|omega) only[go_sem,seval,h1,h2, *]))))
 all_goals(refine aq qY hQ ?_)
 all_goals refine⟨_,_,Wk.refl _,?_,rfl,rfl⟩
 all_goals(exact bK)
theorem zq {s:St}{K:OB}{q x m n B v:Nat}{ns:Td}{C SZ:VV}{l r:Tr}{me:TY}(hA:AskM s K q x m n B ns C SZ me)(ht:.nd v l r∈ns){y:Int}(hx:lkZ ((ixN ns (.nd v l r):Nat):Int) me=some y):AskdC s K q x m n B ns C SZ (.nd v l r):=by
 have hN:=hA.om.st.ok
 refine AskdC.ret hA ?_
 obtain⟨u,hu,e1,rfl⟩:=hA.ok _ _ hx
 have:=cw ht hu (by omega)
 subst this
 have h1:¬ ((ixN ns (.nd v l r):Nat):Int)<2:=by have:=hN.two ht;omega
 have hx1:(lkZ ((ixN ns (.nd v l r):Nat):Int) me).isSome=true:=by rw[hx];rfl
 have hx2:(lkZ ((ixN ns (.nd v l r):Nat):Int) me).getD 0=((cM (.nd v l r):Nat):Int):=by rw[hx];rfl
 have c1:=hA.xo
 have c2:=hA.mo
 have hxf:s x≠.free:=by rw[c1];simp
 have hmf:s m≠.free:=by rw[c2];simp
 clear hx
 generalize ixN ns (.nd v l r)=k at *
 generalize cM (.nd v l r)=y at *
 clear hN ht hA hu e1
 refine am Tryz.func100 rfl Tryz.ntmps100 rfl fun Q hQ hQe=>?_
 (repeat'(first|refine Ctl ?_|((with_reducible refine k_ hK ?_);clear hK hE K E)|((with_reducible refine bZ (fun h=>?_) (fun h=>?_))<;>(try(exfalso;assumption)))|((first|(with_reducible refine ab fun K E hK hE=>?_)|((with_reducible refine au (fun b hb=>?_));(repeat(obtain⟨_,hb⟩:=hb));(try(obtain⟨_,_⟩:=nef hb hxf;obtain⟨_,_⟩:=nef hb hmf))))<;>(try simp(disch:=first|assumption|omega) only[go_sem,seval,h1,hx1,hx2, *]))))
 all_goals(refine aq qY hQ ?_)
 all_goals refine⟨_,_,Wk.refl _,?_,rfl,rfl⟩
 all_goals(exact bK)
theorem Ay {v:Nat}(h:v<64):bF .quo .i64 (v:Int) 64=some (.int .i64 0):=by
 have e:(v:Int).tdiv 64=0:=by
  rw[Int.tdiv_eq_ediv_of_nonneg (by omega)]
  omega
 simp[bF,e]
 decide
theorem Av {v:Nat}(h:v<64):bF .rem .i64 (v:Int) 64=some (.int .i64 (v:Int)):=by
 have e:(v:Int).tmod 64=(v:Int):=by
  rw[Int.tmod_eq_emod_of_nonneg (by omega)]
  omega
 simp[bF,e]
theorem zF {v:Nat}(h:v<64):bF .shl .u64 1 (v:Int)=some (.int .u64 ((2 ^ v:Nat):Int)):=by
 have e:(1:Int) * 2 ^ (min (v:Int).toNat IntKind.u64.bits)=((2 ^ v:Nat):Int):=by
  rw[show min (v:Int).toNat IntKind.u64.bits=v by simp[IntKind.bits];omega]
  simp
 simp only[bF]
 rw[if_pos (by omega),e,mR (Nat.pow_lt_pow_right (by omega) h)]
theorem Lp {a b:Nat}(ha:a<2 ^ 64)(hb:b<2 ^ 64):bF .or .u64 (a:Int) (b:Int)=some (.int .u64 ((a ||| b:Nat):Int)):=by
 simp only[bF,Lq ha hb]
theorem or_0:bF .or .u64 0 0=some (.int .u64 0):=Lp (a:=0) (b:=0) (by decide) (by decide)
theorem tR {a v:Nat}(ha:a<2 ^ 64)(hv:v<64):bF .andNot .u64 (a:Int) ((2 ^ v:Nat):Int)=some (.int .u64 ((fF a v:Nat):Int)):=by
 simp only[bF,vO ha hv]
theorem CC {s:St}{KK:OB}{q x m n B v:Nat}{ns:Td}{C SZ:VV}{l r:Tr}{me:TY}(hn64:n<=64)(hA:AskM s KK q x m n B ns C SZ me)(ht:.nd v l r∈ns)(hx:lkZ ((ixN ns (.nd v l r):Nat):Int) me=none)
  (ihl:∀{s:St} {me:TY},AskM s KK q x m n B ns C SZ me->AskdC s KK q x m n B ns C SZ l) (ihr:∀{s:St} {me:TY},AskM s KK q x m n B ns C SZ me->AskdC s KK q x m n B ns C SZ r):AskdC s KK q x m n B ns C SZ (.nd v l r):=by
 have hN:=hA.om.st.ok
 obtain⟨o1,o2,o3,o4,o5⟩:=hN.ok _ ht
 have hp64:2 ^ n<=2 ^ 64:=Nat.pow_le_pow_right (by omega) hn64
 have al:cM l<2 ^ 64:=Nat.lt_of_lt_of_le (kE o4) hp64
 have ar:cM r<2 ^ 64:=Nat.lt_of_lt_of_le (kE o5) hp64
 have av:2 ^ v<2 ^ 64:=Nat.pow_lt_pow_right (by omega) (by omega)
 have f1:=Lp al ar
 have f2:=Lp (Nat.or_lt_two_pow al ar) av
 have f3:=Ay (v:=v) (by omega)
 have f4:=Av (v:=v) (by omega)
 have f5:=zF (v:=v) (by omega)
 have f6:=or_0
 have h1:¬ ((ixN ns (.nd v l r):Nat):Int)<2:=by have:=hN.two ht;omega
 have hx1:(lkZ ((ixN ns (.nd v l r):Nat):Int) me).isSome=false:=by rw[hx];rfl
 obtain⟨mk,hnm⟩:=hA.om.st.mem
 obtain⟨d,cc,ho⟩:=hA.om.op
 have c1:=hA.xo
 have c2:=hA.mo
 have hxf:s x≠.free:=by rw[c1];simp
 have hmf:s m≠.free:=by rw[c2];simp
 have wq:=fun(u:St) (h:AskM u KK q x m n B ns C SZ me)=>dD u q KK.o KK.s.p h.qo
 have ws:=fun(u:St) (h:∀z,s z≠.free->u z=s z)=>eU u KK.o KK.s.p d cc ((h KK.o (by rw[ho];simp)).trans ho)
 have wn:=fun(u:St) (h:∀z,s z≠.free->u z=s z)=>c8 u KK.s.p KK.s.g KK.s.q n B (ixN ns (.nd v l r)) ns (.nd v l r) mk 0 ⟨(h _ (by rw[hnm.o];simp)).trans hnm.o,(h _ (by rw[hnm.r];simp)).trans hnm.r⟩ (bS ht)
 have hst:=fun(u:St) (h:∀z,s z≠.free->u z=s z)=>hA.step (fun z hz _=>h z hz) ((h m hmf).trans c2) hA.ok
 have HAN:cM (.nd v l r)=(cM l ||| cM r) ||| 2 ^ v:=rfl
 simp only[aW,lowN,highN]at wn
 unfold AskdC at ihl ihr ⊢
 have HIL:=o_ (fun(s:St) (me:TY)=>@ihl s me)
 have HIR:=o_ (fun(s:St) (me:TY)=>@ihr s me)
 have WQ:=o_ wq
 have WS:=o_ ws
 have WN:=o_ wn
 have HST:=o_ hst
 have HT:=o_ ht
 clear wq ws wn hst ihl ihr hx hN o1 o2 o3 o4 o5 hp64 hnm ho ht hA
 rw[HAN]
 clear HAN
 generalize hkk:ixN ns (.nd v l r)=kk at *
 have HKK:=o_ hkk
 clear hkk
 refine am Tryz.func100 rfl Tryz.ntmps100 rfl fun Q hQ hQe=>?_
 (repeat'(first|refine Ctl ?_|((with_reducible refine k_ hK ?_);clear hK hE K E)|((with_reducible refine bZ (fun h=>?_) (fun h=>?_))<;>(try(exfalso;assumption)))|((first|(with_reducible refine ab fun K E hK hE=>?_)|((with_reducible refine au (fun b hb=>?_));(repeat(obtain⟨_,hb⟩:=hb));(try(obtain⟨_,_⟩:=nef hb hxf;obtain⟨_,_⟩:=nef hb hmf))))<;>(try simp(disch:=omega) only[go_sem,seval,h1,hx1, *]))))
 rename_i b4 hb4 _ _ _ _ _ _ _ _ _ _
 obtain⟨u0,hu0⟩:∃u,u=(s.set b4 (.obj 171 [.int .u64 0,.int .u64 0,.int .u64 0,.int .u64 0])).set b (.obj 171 [.int .u64 ((lkZ (kk:Int) me).getD 0),.int .u64 0,.int .u64 0,.int .u64 0]):=⟨_,rfl⟩
 rw[<- hu0]
 have g0:∀z,s z≠.free->u0 z=s z:=fun z hz=>by rw[hu0,j_ _ _ (nef hb hz).1,j_ _ _ (nef hb4 hz).1]
 have k0:u0 b4=.obj 171 [.int .u64 0,.int .u64 0,.int .u64 0,.int .u64 0]:=by rw[hu0,j_ _ _ (‹_›),q_]
 have M0:=HST.out u0 g0
 have wq:=WQ.out u0 M0
 have ws:=WS.out u0 g0
 have wn:=WN.out u0 g0
 have w2:=HIL.out u0 me M0
 have G0:=o_ g0
 have hmb4:b4≠m:=fun e=>by rw[e,c2]at hb4;cases hb4
 have HB4:=o_ hb4
 clear hu0 g0 WQ WS WN HST HIL M0 hb hb4
 (repeat'(first|refine Ctl ?_|((with_reducible refine k_ hK ?_);clear hK hE K E)|(((with_reducible first|refine ab fun K E hK hE=>?_|refine ae dK (wq) ?_|refine ae iv (ws) ?_|refine ae ey (wn) ?_))<;>(try simp(disch:=omega) only[go_sem,seval, *]))))
 refine ao rG w2 (fun a h=>?_)
 obtain⟨u1,me1⟩:=a
 obtain⟨M1,F1⟩:=h
 dsimp only at M1 F1 ⊢
 have w3:=HIR.out u1 me1 M1
 have k1:=(F1 b4 (by rw[k0];simp) hmb4).trans k0
 have HF1:=o_ F1
 clear w2 F1 M1 k0 wq ws wn c1 c2 hxf hmf HIR
 simp only[go_sem,seval]
 (repeat'(refine Ctl ?_))
 refine ao rG w3 (fun a h=>?_)
 obtain⟨u2,me2⟩:=a
 obtain⟨M2,F2⟩:=h
 dsimp only at M2 F2 ⊢
 have k2:=(F2 b4 (by rw[k1];simp) hmb4).trans k1
 have c1:=M2.xo
 have c2:=M2.mo
 have hxf:u2 x≠.free:=by rw[c1];simp
 have hmf:u2 m≠.free:=by rw[c2];simp
 have hbf:u2 b4≠.free:=by rw[k2];simp
 have HF2:=o_ F2
 have HM2:=o_ M2
 have hbm4:m≠b4:=fun e=>hmb4 e.symm
 have hxm:x≠m:=fun e=>by rw[e,c2]at c1;cases c1
 clear w3 F2 M2 k1
 simp only[go_sem,seval]
 (repeat'(first|refine Ctl ?_|((with_reducible refine k_ hK ?_);clear hK hE K E)|((first|(with_reducible refine ab fun K E hK hE=>?_)|((with_reducible refine au (fun b hb=>?_));(repeat(obtain⟨_,hb⟩:=hb));(try(obtain⟨_,_⟩:=nef hb hxf;obtain⟨_,_⟩:=nef hb hmf;obtain⟨_,_⟩:=nef hb hbf))))<;>(try simp(disch:=first|assumption|omega) only[go_sem,seval, *]))))
 refine kJ 5 (cD 4 ?_)
 (repeat'(first|refine Ctl ?_|(with_reducible first|(refine k_ hK ?_;clear hK hE K E)|(refine k_ hKh ?_;clear hKh Kh)|(refine k_ hKb (aC ?_);clear hKb Kb)|refine ax 9 [([0,1,2,3,4,5,6,7],8,[[]])] [] hQe fun K E hK hE=>?_)|((with_reducible refine bZ (fun h=>?_) (fun h=>?_))<;>(try(exfalso;assumption)))|(((with_reducible first|refine ab fun K E hK hE=>?_|refine ay fun Kh hKh=>?_|refine aG fun Kh hKh=>?_|refine aB fun Kb hKb=>?_))<;>(try simp(disch:=first|assumption|omega) only[go_sem,seval,f1,f6, *]))))
 refine cD 3 ?_
 (repeat'(first|refine Ctl ?_|(with_reducible first|(refine k_ hK ?_;clear hK hE K E)|(refine k_ hKh ?_;clear hKh Kh)|(refine k_ hKb (aC ?_);clear hKb Kb)|refine ax 9 [([0,1,2,3,4,5,6,7],8,[[]])] [] hQe fun K E hK hE=>?_)|((with_reducible refine bZ (fun h=>?_) (fun h=>?_))<;>(try(exfalso;assumption)))|(((with_reducible first|refine ab fun K E hK hE=>?_|refine ay fun Kh hKh=>?_|refine aG fun Kh hKh=>?_|refine aB fun Kb hKb=>?_))<;>(try simp(disch:=first|assumption|omega) only[go_sem,seval,f1,f6, *]))))
 refine cD 2 ?_
 (repeat'(first|refine Ctl ?_|(with_reducible first|(refine k_ hK ?_;clear hK hE K E)|(refine k_ hKh ?_;clear hKh Kh)|(refine k_ hKb (aC ?_);clear hKb Kb)|refine ax 9 [([0,1,2,3,4,5,6,7],8,[[]])] [] hQe fun K E hK hE=>?_)|((with_reducible refine bZ (fun h=>?_) (fun h=>?_))<;>(try(exfalso;assumption)))|(((with_reducible first|refine ab fun K E hK hE=>?_|refine ay fun Kh hKh=>?_|refine aG fun Kh hKh=>?_|refine aB fun Kb hKb=>?_))<;>(try simp(disch:=first|assumption|omega) only[go_sem,seval,f1,f6, *]))))
 refine cD 1 ?_
 (repeat'(first|refine Ctl ?_|(with_reducible first|(refine k_ hK ?_;clear hK hE K E)|(refine k_ hKh ?_;clear hKh Kh)|(refine k_ hKb (aC ?_);clear hKb Kb)|refine ax 9 [([0,1,2,3,4,5,6,7],8,[[]])] [] hQe fun K E hK hE=>?_)|((with_reducible refine bZ (fun h=>?_) (fun h=>?_))<;>(try(exfalso;assumption)))|(((with_reducible first|refine ab fun K E hK hE=>?_|refine ay fun Kh hKh=>?_|refine aG fun Kh hKh=>?_|refine aB fun Kb hKb=>?_))<;>(try simp(disch:=first|assumption|omega) only[go_sem,seval,f1,f6, *]))))
 refine cD 0 ?_
 (repeat'(first|refine Ctl ?_|(with_reducible first|(refine k_ hK ?_;clear hK hE K E)|(refine k_ hKh ?_;clear hKh Kh)|(refine k_ hKb (aC ?_);clear hKb Kb)|refine ax 11 [([0,1,2,3,4,5,6,7,8],9,[[]])] [] hQe fun K E hK hE=>?_|refine ax 12 [([0,1,2,3,4,5],6,[[]])] [] hQe fun K E hK hE=>?_)|((with_reducible refine bZ (fun h=>?_) (fun h=>?_))<;>(try(exfalso;assumption)))|(((with_reducible first|refine ab fun K E hK hE=>?_|refine ay fun Kh hKh=>?_|refine aG fun Kh hKh=>?_|refine aB fun Kb hKb=>?_))<;>(try simp(disch:=first|assumption|omega) only[go_sem,seval,f1,f2,f3,f4,f5,f6, *]))))
 all_goals(refine aq qY hQ ?_)
 rename_i b11 hb11 _ _ _ _ _ _ _ _ _ _ _ _ _ _ _ _ _ _
 have hM2:=HM2.out
 obtain⟨uF,huF⟩:∃u,u=((((u2.set b11 (.obj 171 [.int .u64 ((cM l ||| cM r ||| 2 ^ v:Nat):Int),.int .u64 0,.int .u64 0,.int .u64 0])).set b (.obj 171 [.int .u64 ((cM r:Nat):Int),.int .u64 0,.int .u64 0,.int .u64 0])).set m (.map (mpZ mu (ptZ (kk:Int) ((cM l ||| cM r ||| 2 ^ v:Nat):Int) me2)))).set b4 (.obj 171 [.int .u64 ((cM l ||| cM r ||| 2 ^ v:Nat):Int),.int .u64 0,.int .u64 0,.int .u64 0])):=⟨_,rfl⟩
 rw[<- huF]
 have fr:∀z,z≠b4->z≠m->u2 z≠.free->uF z=u2 z:=fun z h1 h2 h3=>by
  rw[huF,j_ _ _ h1,j_ _ _ h2,j_ _ _ (nef hb h3).1,j_ _ _ (nef hb11 h3).1]
 have fm:uF m=.map (mpZ mu (ptZ (kk:Int) ((cM l ||| cM r ||| 2 ^ v:Nat):Int) me2)):=by rw[huF,j_ _ _ hbm4,q_]
 clear huF
 have e1:¬ KK.has b4:=hM2.om.types k2 (by decide) (by decide) (by decide)
 have e2:b4≠q:=fun e=>by have:=hM2.qo;rw[<- e,k2]at this;cases this
 have e3:b4≠x:=fun e=>by have:=hM2.xo;rw[<- e,k2]at this;cases this
 have e4:¬ KK.has m:=hM2.om.nomap hM2.mo
 have e5:q≠m:=fun e=>by have:=hM2.qo;rw[e,hM2.mo]at this;cases this
 refine⟨_,_,Wk.refl _,Fg.refl _,(_,ptZ (kk:Int) ((cM l ||| cM r ||| 2 ^ v:Nat):Int) me2),rfl,rfl,hM2.step2 (fun z hz=>?_) ?_ ?_,fun z hz hzm=>?_⟩
 ·rcases hz with hz|rfl|rfl
  ·exact fr z (fun e=>e1 (e ▸ hz)) (fun e=>e4 (e ▸ hz)) (hM2.om.live hz)
  ·exact fr _ (fun e=>e2 e.symm) e5 (by rw[hM2.qo];simp)
  ·exact fr _ (fun e=>e3 e.symm) hxm (by rw[hM2.xo];simp)
 ·exact fm
 ·intro k w hk
  rw[nZ]at hk
  by_cases e:k=(kk:Int)
  ·rw[if_pos e]at hk
   injection hk with hk
   exact⟨_,HT.out,by rw[e,HKK.out],hk.symm⟩
  ·rw[if_neg e]at hk
   exact hM2.ok _ _ hk
 ·have h0:=G0.out z hz
  have h1:=HF1.out z (by rw[h0];exact hz) hzm
  have h2:=HF2.out z (by rw[h1,h0];exact hz) hzm
  exact(fr z (fun e=>hz (e ▸ HB4.out)) hzm (by rw[h2,h1,h0];exact hz)).trans (h2.trans (h1.trans h0))
theorem mQ {KK:OB}{q x m n B:Nat}{ns:Td}{C SZ:VV}(hn64:n<=64):∀(t:Tr) {s:St} {me:TY},t∈ns->AskM s KK q x m n B ns C SZ me->AskdC s KK q x m n B ns C SZ t
 |.lf b,s,me,ht,hA=>CD hA
 |.nd v l r,s,me,ht,hA=>by
  obtain⟨hl,hr⟩:=hA.om.st.ok.ch _ _ _ ht
  cases hx:lkZ ((ixN ns (.nd v l r):Nat):Int) me with
  |some y=>exact zq hA ht hx
  |none=>exact CC hn64 hA ht hx (fun h=>mQ hn64 l hl h) (fun h=>mQ hn64 r hr h)
end Go.Proofs.YtohnaepcgnbaiaaGreatDoor
