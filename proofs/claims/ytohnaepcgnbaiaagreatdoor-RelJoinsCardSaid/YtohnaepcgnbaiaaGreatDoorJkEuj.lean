/- Walks of functions that the claim reaches, and plain facts of them. Conditions: those in the statements. -/
import Derived.Test.YtohnaepcgnbaiaaGreatDoorJkErj
import Derived.Test.YtohnaepcgnbaiaaGreatDoorJkFdj
import Derived.Test.YtohnaepcgnbaiaaGreatDoorJkEdj
import Derived.Test.YtohnaepcgnbaiaaGreatDoorJkRwj
import Derived.Deep.Heap
set_option linter.unusedSimpArgs false
set_option linter.unusedVariables false
set_option maxRecDepth 100000
namespace Go.Proofs.YtohnaepcgnbaiaaGreatDoor
open Go.RowKit
attribute [-go_sem] bJ cX bH bG aT cU cT
theorem Nb (s:St)(x c q:Nat)(a:VV)(ds:List (List UInt8×Nat))(h:s x=.obj 73 (spC c q ds a)):SRet Tryz.prog 27 [.ptr x 0] s (.ptr c 0) s:=by
 unfold spC at h
 generalize szC ds=SZ at *
 refine am Tryz.func27 rfl Tryz.ntmps27 rfl fun Q hQ hQe=>?_
 (repeat'(first|refine Ctl ?_|((with_reducible refine k_ hK ?_);clear hK hE K E)|((with_reducible refine ah (fun h=>?_) (fun h=>?_))<;>(try(exfalso;assumption)))|(((with_reducible refine ab fun K E hK hE=>?_))<;>(try simp(disch:=omega) only[go_sem,seval, *]))))
 all_goals(refine aq Gm hQ ?_)
 all_goals exact⟨_,_,Wk.refl _,Fg.refl _,rfl,rfl⟩
abbrev Ng:=St×OB×Nat×Nat×Nat
structure Begun (s:St) (i:Nat) (a:Ng):Prop where
 M:RMem a.1 a.2.1 a.2.2.2.2 a.2.2.2.2 a.2.2.1 a.2.2.2.1 14 65536 [.lf false,.lf true] dsR (oR i)
 fr:∀z,s z≠.free->a.1 z=s z/\¬ kF a.2.1 a.2.2.2.2 a.2.2.2.2 z
set_option maxHeartbeats 16000000 in
theorem pj (s:St)(od:Int):∃i,i<3/\SCalls Tryz.prog 8 [.int .i64 od] s fun w u=>∃a:Ng,w=.ret (.tup [.ptr a.2.2.2.2 0,.bool true])/\u=a.1/\Begun s i a:=by
 refine⟨jw 8 od % 3,Nat.mod_lt _ (by omega),?_⟩
 have f1:bF .and .i64 od 255=some (.int .i64 ((jw 8 od:Nat):Int)):=by
  have h:=rI (w:=8) (by omega) od
  have e:IntKind.i64.wrap (((2 ^ 8:Nat):Int) - 1)=255:=by decide
  rwa [e]at h
 have f2:bF .rem .i64 ((jw 8 od:Nat):Int) 3=some (.int .i64 ((jw 8 od % 3:Nat):Int)):=by
  have e:=C1 (k:=jw 8 od) (m:=3)
  simp only[bF]
  rw[if_pos (by decide)]
  exact congrArg (fun z=>some (VV.int .i64 z)) e
 have hi3:jw 8 od % 3<3:=Nat.mod_lt _ (by omega)
 generalize jw 8 od % 3=i at *
 generalize jw 8 od=p at *
 have hlit:([[.str (mj 0)],[.str (mj 1)],[.str (mj 2)]]:List (List VV))[i]?=some [.str (mj i)]:=by
  match i,hi3 with
  |0,_=>rfl
  |1,_=>rfl
  |2,_=>rfl
 have w1:=ML s 14 65536 (by omega) (by omega) (by omega)
 have hnew:=fun(u:St) (KK:OB) (q:Nat) (hO:OMem u KK 14 65536 [.lf false,.lf true]) (hq:u q=.obj 126 [.ptr KK.o 0,.ptr KK.s.p 0])=>FF hO hq dmR .full (mj i) (by decide) (by decide) (by
  have:∀i,i<3->(mj i).length<=10000:=by decide
  exact this i hi3)
 rw[newR hi3]at hnew
 have hdm:cH dmR=[[.str [80,48],.int .i64 4],[.str [80,49],.int .i64 4],[.str [80,50],.int .i64 4],[.str [80,51],.int .i64 4],[.str [81,48],.int .i64 3],[.str [81,49],.int .i64 3],[.str [81,50],.int .i64 3]]:=rfl
 rw[hdm]at hnew
 obtain⟨OR,hOR⟩:∃z,z=mj i:=⟨_,rfl⟩
 rw[<- hOR]at hlit
 simp only[<- hOR]at hnew
 simp only[mj]at hlit
 have HNEW:=o_ hnew
 clear hnew hdm hOR
 refine am Tryz.func8 rfl Tryz.ntmps8 rfl fun Q hQ hQe=>?_
 (repeat'(first|refine Ctl ?_|((with_reducible refine k_ hK ?_);clear hK hE K E)|(((with_reducible refine ab fun K E hK hE=>?_))<;>(try simp(disch:=omega) only[go_sem,seval, *]))))
 refine ao Qq w1 (fun a h=>?_)
 obtain⟨u1,KS⟩:=a
 obtain⟨hS1,hf1⟩:=h
 dsimp only at hS1 hf1 ⊢
 have w2:=ME hS1
 have HF1:=o_ hf1
 clear w1 hS1 hf1
 simp only[go_sem,seval]
 (repeat'(first|refine Ctl ?_|((with_reducible refine k_ hK ?_);clear hK hE K E)|(((with_reducible refine ab fun K E hK hE=>?_))<;>(try simp(disch:=omega) only[go_sem,seval, *]))))
 refine ao Qp w2 (fun a h=>?_)
 obtain⟨u2,o2⟩:=a
 obtain⟨hO2,hof,hf2⟩:=h
 dsimp only at hO2 hof hf2 ⊢
 obtain⟨d,cc,hoo⟩:=hO2.op
 dsimp only at hoo
 have w3:=MB u2 o2 KS.p d cc hoo
 have HF2:=o_ hf2
 have HOF:=o_ hof
 have HO2:=o_ hO2
 clear w2 hof hf2 hO2 hoo
 simp only[go_sem,seval]
 (repeat'(first|refine Ctl ?_|((with_reducible refine k_ hK ?_);clear hK hE K E)|(((with_reducible refine ab fun K E hK hE=>?_))<;>(try simp(disch:=omega) only[go_sem,seval, *]))))
 have w3':SCalls Tryz.prog 24 [.ptr o2 0] u2 fun w u=>∃a:zn,w=.ret (.tup [.ptr a.2 0,.int .i64 0])/\u=a.1/\u2 a.2=.free/\a.1=u2.set a.2 (.obj 126 [.ptr o2 0,.ptr KS.p 0]):=by
  refine SCalls.mono (h:=w3) ?_
  rintro w u ⟨q,rfl,rfl,hq⟩
  exact⟨(_,q),rfl,rfl,hq,rfl⟩
 refine ao Qo w3' (fun a h=>?_)
 obtain⟨u3,q⟩:=a
 obtain⟨hqf,hu3⟩:=h
 dsimp only at hqf hu3 ⊢
 have hf3:∀z,u2 z≠.free->u3 z=u2 z:=fun z hz=>by rw[hu3,j_ _ _ (nef hqf hz).1]
 have hO3:OMem u3 ⟨KS,o2,o2⟩ 14 65536 [.lf false,.lf true]:=HO2.out.keep fun z hz=>hf3 z (HO2.out.live hz)
 have hq3:u3 q=.obj 126 [.ptr o2 0,.ptr KS.p 0]:=by rw[hu3,q_]
 have w4:=HNEW.out u3 ⟨KS,o2,o2⟩ q hO3 hq3
 have HF3:=o_ hf3
 have HO3:=o_ hO3
 have HQ3:=o_ hq3
 clear w3 w3' hqf hu3 hf3 hO3 hq3
 simp only[go_sem,seval]
 (repeat'(first|refine Ctl ?_|((with_reducible refine k_ hK ?_);clear hK hE K E)|(((with_reducible refine ab fun K E hK hE=>?_))<;>(try simp(disch:=omega) only[go_sem,seval,f1,f2,hlit, *]))))
 refine ao Qn w4 (fun a h=>?_)
 obtain⟨u4,c⟩:=a
 obtain⟨hcf,hu4⟩:=h
 dsimp only at hcf hu4 ⊢
 simp only[Lw]
 have hf4:∀z,u3 z≠.free->u4 z=u3 z:=fun z hz=>by rw[hu4,j_ _ _ (nef hcf hz).1]
 have hC4:CMem u4 ⟨KS,o2,o2⟩ q c 14 65536 [.lf false,.lf true] dsR (oR i):=⟨HO3.out.keep fun z hz=>hf4 z (HO3.out.live hz),(hf4 q (by rw[HQ3.out];simp)).trans HQ3.out,by rw[hu4,q_,PO]⟩
 have w5:=My hC4 (by decide) (by decide)
 have HF4:=o_ hf4
 clear w4 hcf hu4 hf4 hC4
 simp only[go_sem,seval]
 (repeat'(first|refine Ctl ?_|((with_reducible refine k_ hK ?_);clear hK hE K E)|(((with_reducible refine ab fun K E hK hE=>?_))<;>(try simp(disch:=omega) only[go_sem,seval, *]))))
 refine ao Qm w5 (fun a h=>?_)
 obtain⟨u5,x⟩:=a
 obtain⟨hM,hxf,hf5⟩:=h
 dsimp only at hM hxf hf5 ⊢
 obtain⟨a5,hx⟩:=hM.xf
 have wc:=Nb u5 x c q a5 dsR hx
 have wd:=Cs u5 c _ _ dsR (by decide) hM.C.co
 have hdl:=fZ (ds:=dsR)
 have hfin:Begun s i (u5,⟨KS,o2,o2⟩,q,c,x):=by
  refine⟨hM,fun z hz=>?_⟩
  obtain⟨e1,e1'⟩:=HF1.out z hz
  have e2:=HF2.out z (by rw[e1];exact hz)
  have e3:=HF3.out z (by rw[e2,e1];exact hz)
  have e4:=HF4.out z (by rw[e3,e2,e1];exact hz)
  have e5:=hf5 z (by rw[e4,e3,e2,e1];exact hz)
  refine⟨by dsimp only;rw[e5,e4,e3,e2,e1],?_⟩
  rintro((hh|hh|hh)|hh|hh)
  ·exact e1' hh
  ·dsimp only at hh;subst hh;exact hz (by rw[<- e1];exact HOF.out)
  ·dsimp only at hh;subst hh;exact hz (by rw[<- e1];exact HOF.out)
  ·dsimp only at hh;subst hh;exact hz (by rw[<- e1,<- e2,<- e3,<- e4];exact hxf)
  ·dsimp only at hh;subst hh;exact hz (by rw[<- e1,<- e2,<- e3,<- e4];exact hxf)
 have HFIN:=o_ hfin
 clear w5 hM hxf hf5 hx hfin HF1 HF2 HF3 HF4 HOF HO2 HO3 HQ3 HNEW
 have h7:dsR.length=7:=rfl
 rw[h7]at hdl
 generalize dx dsR=D at *
 simp only[go_sem,seval]
 (repeat'(first|refine Ctl ?_|((with_reducible refine k_ hK ?_);clear hK hE K E)|(((with_reducible first|refine ab fun K E hK hE=>?_|refine ae Ql (wc) ?_|refine ae GV (wd) ?_))<;>(try simp(disch:=omega) only[go_sem,seval,hdl, *]))))
 all_goals(refine aq NA hQ ?_)
 all_goals exact⟨_,_,Wk.refl _,Fg.refl _,(u5,⟨KS,o2,o2⟩,q,c,x),rfl,rfl,HFIN.out⟩
end Go.Proofs.YtohnaepcgnbaiaaGreatDoor
namespace Go.Proofs.YtohnaepcgnbaiaaGreatDoor
open Go.RowKit
attribute [-go_sem] bJ cX bH bG aT cU cT
structure Nod (ns:List Tr) (f:(Nat->Bool)->Bool) (k:Nat):Prop where
 mem:treeT 14 f∈ns
 ix:ixF 14 ns f=k
theorem Nod.app {ns ns':List Tr}{f:(Nat->Bool)->Bool}{k:Nat}(h:Nod ns f k)(hp:∃l,ns'=ns++l):Nod ns' f k:=
 ⟨(bn hp h.mem).1,(bn hp h.mem).2.trans h.ix⟩
structure RLaw (s u:St) (K:OB) (x m q c:Nat) (ns:List Tr) (i N:Nat):Prop where
 M:RMem u K x m q c 14 65536 ns dsR (oR i)
 n:CntN ns N
 fr:∀z,s z≠.free->u z=s z/\¬ kF K x m z
 i3:i<3
theorem RLaw.of {s:St}{i:Nat}{a:Ng}(h:Begun s i a)(hi:i<3):RLaw s a.1 a.2.1 a.2.2.2.2 a.2.2.2.2 a.2.2.1 a.2.2.2.1 [.lf false,.lf true] i 2:=
 ⟨h.M,⟨_,Nat.le_refl _,fun t h=>h⟩,h.fr,hi⟩
abbrev tU:=(St×OB×Nat×List Tr×Nat)×((Nat->Bool)->Bool)
structure ResT (s u:St) (ns:List Tr) (x q c i N:Nat) (D:List Nat) (S:List Nat->Prop) (a:tU):Prop where
 L:RLaw s a.1.1 a.1.2.1 x a.1.2.2.1 q c a.1.2.2.2.1 i N
 pre:∃l,a.1.2.2.2.1=ns++l
 nd:Nod a.1.2.2.2.1 a.2 a.1.2.2.2.2
 T:Tells (oR i) D S a.2
 own:∀(b:Nat) (xs:List VV),u b=.obj 30 xs->a.1.1 b=.obj 30 xs
section
variable {s u : St} {K : OB} {x m q c : Nat} {ns : List Tr} {i N : Nat}
theorem RLaw.step (h:RLaw s u K x m q c ns i N){N':Nat}{g:(Nat->Bool)->Bool}{a:gI}(k:RelR u K x m q c 14 65536 ns dsR (oR i) N' g a):RLaw s a.1 a.2.1 x a.2.2.1 q c a.2.2.2 i N':=
 ⟨k.M,k.cnt,fun z hz=>by
  obtain⟨e1,e2⟩:=h.fr z hz
  refine⟨by rw[<- e1];exact k.k.out z (by rw[e1];exact hz) e2,fun e3=>?_⟩
  rcases k.k.nw z e3 with e|e
  ·exact e2 e
  ·rw[e1]at e;exact hz e,h.i3⟩
theorem RLaw.res (h:RLaw s u K x m q c ns i N){N':Nat}{g:(Nat->Bool)->Bool}{a:gI}(k:RelR u K x m q c 14 65536 ns dsR (oR i) N' g a){N2:Nat}(hN:N'<=N2){D:List Nat}{S:List Nat->Prop}(hT:Tells (oR i) D S g):ResT s u ns x q c i N2 D S ((a.1,a.2.1,a.2.2.1,a.2.2.2,ixF 14 a.2.2.2 g),g):=
 ⟨h.step (k.mono hN),k.pre,⟨k.mem,rfl⟩,hT,fun b xs hb=>k.own h.M hb (by decide) (by decide) (by decide) (by decide)⟩
theorem RLaw.more (h:RLaw s u K x m q c ns i N){u':St}(hk:∀z,u z≠.free->u' z=u z):RLaw s u' K x m q c ns i N:=
 ⟨h.M.more hk,h.n,fun z hz=>by
  obtain⟨e1,e2⟩:=h.fr z hz
  exact⟨(hk z (by rw[e1];exact hz)).trans e1,e2⟩,h.i3⟩
theorem RLaw.from (h:RLaw s u K x m q c ns i N){s':St}(hk:∀z,s' z≠.free->s z=s' z):RLaw s' u K x m q c ns i N:=
 ⟨h.M,h.n,fun z hz=>by
  have e:=hk z hz
  obtain⟨e1,e2⟩:=h.fr z (by rw[e];exact hz)
  exact⟨e1.trans e,e2⟩,h.i3⟩
theorem RLaw.mono (h:RLaw s u K x m q c ns i N){N':Nat}(hN:N<=N'):RLaw s u K x m q c ns i N':=⟨h.M,h.n.mono hN,h.fr,h.i3⟩
theorem RLaw.fg (h:RLaw s u K x m q c ns i N):Fg u s:=fun z=>by
 by_cases hz:s z=.free
 ·exact .inl hz
 ·exact .inr (h.fr z hz).1.symm
theorem RLaw.w2 (h:RLaw s u K x m q c ns i N){d:Nat}(hd:d<7):((oR i).getD d []).length=2:=uX h.i3 hd
theorem RLaw.D (h:RLaw s u K x m q c ns i N):DOk 14 dsR (oR i):=Pt h.i3
theorem RLaw.free (h:RLaw s u K x m q c ns i N){b:Nat}(hb:u b=.free):s b=.free:=by
 by_cases e:s b=.free
 ·exact e
 ·exact absurd ((h.fr b e).1.symm.trans hb) e
theorem RLaw.fin (h:RLaw s u K x m q c ns i N){u':St}(hu:∀z,u z≠.free->u' z=u z\/((∃xs,u z=.obj 30 xs)/\s z=.free)):RLaw s u' K x m q c ns i N:=by
 have k:∀z,(kF K x m z\/z=q\/z=c)->u' z=u z:=fun z hz=>by
  have hl:u z≠.free:=by
   rcases hz with e|rfl|rfl
   ·exact h.M.live e
   ·rw[h.M.C.qo];simp
   ·rw[h.M.C.co];simp
  rcases hu z hl with e|⟨⟨xs,e⟩,_⟩
  ·exact e
  ·obtain⟨h1,h2,h3⟩:=h.M.rel e
   rcases hz with e|e|e
   ·exact absurd e h1
   ·exact absurd e h2
   ·exact absurd e h3
 refine⟨⟨⟨h.M.C.om.keep fun z hz=>k z (.inl (.inl hz)),(k q (.inr (.inl rfl))).trans h.M.C.qo,(k c (.inr (.inr rfl))).trans h.M.C.co⟩,?_⟩,h.n,fun z hz=>?_,h.i3⟩
 ·rcases h.M.sp with ⟨e,e1⟩|⟨me,e1,e2,e3⟩
  ·exact .inl ⟨e,(k x (.inl (.inr (.inl rfl)))).trans e1⟩
  ·exact .inr ⟨me,(k x (.inl (.inr (.inl rfl)))).trans e1,(k m (.inl (.inr (.inr rfl)))).trans e2,e3⟩
 ·obtain⟨e1,e2⟩:=h.fr z hz
  rcases hu z (by rw[e1];exact hz)with e|⟨_,e⟩
  ·exact⟨e.trans e1,e2⟩
  ·exact absurd e hz
theorem RLaw.r4 (h:RLaw s u K x m q c ns i N){A:List (List UInt8)}{D:List Nat}(hn:bi A)(hl:A.length=D.length)(hd:D.Nodup)(h4:∀d,d∈D->d<4):Rel4 dsR (oR i) A D:=⟨hn,hl,hd,xB h.i3 h4⟩
end
theorem dE {i:Nat}(h:i<3){D:List Nat}(hD:∀d,d∈D->d<4):(aj (oR i) D).length=2 * D.length:=(xB h hD).vl
section
variable {s u : St} {K : OB} {x m q c : Nat} {ns : List Tr} {i N N' : Nat} {A : List (List UInt8)} {D : List Nat}
theorem RLaw.make (L:RLaw s u K x m q c ns i N)(o1 o2:Own)(hn:bi A)(hl:A.length=D.length)(hd:D.Nodup)(h4:∀d,d∈D->d<4)(T:List (List Nat))(TC:List (List VV))(o3:Own)(hT:∀t,t∈T->t.length=D.length/\∀v,v∈t->v<4)(hTC:∀(i:Nat) (t:List Nat),T[i]?=some t->∃oi,TC[i]?=some [.lst (ak t) oi])(hTl:TC.length=T.length)(hT8:T.length<=1000000)
  (hN:N+T.length * (2 * D.length+2 ^ (2 * D.length))<=N') (hB:N'<=65536) :
  SCalls Tryz.prog 19 [.ptr x 0,.lst (az A) o1,.lst (ak D) o2,.lst TC o3] u fun w u'=>∃a:tU,w=.ret (.tup [.agg [.lst (az A) .no,.lst (ak D) .no,.int .i64 (a.1.2.2.2.2:Nat)],.int .i64 0])/\u'=a.1.1/\ResT s u ns x q c i N' D (·∈T) a:=by
 refine SCalls.mono (h:=Fm (by omega) L.M L.D A o1 D o2 (L.r4 hn hl hd h4) T TC o3 hT hTC hTl hT8 L.n (by omega)) ?_
 rintro w u' ⟨a,rfl,rfl,h⟩
 exact⟨_,rfl,rfl,L.res h hN (qj fun t ht=>(hT t ht).1)⟩
theorem RLaw.tuples (L:RLaw s u K x m q c ns i N){T:List (List Nat)}{f:(Nat->Bool)->Bool}{k:Nat}(hT:Tells (oR i) D (·∈T) f)(hk:Nod ns f k)(o1 o2:Own)(hn:bi A)(hl:A.length=D.length)(hd:D.Nodup)(h4:∀d,d∈D->d<4)(hTo:∀t,t∈T->t.length=D.length/\∀v,v∈t->v<4){most:Nat}(hmo:most<=16384)(hm:(br T).length<=most)
  (hN:N+D.length * (20+2 ^ (2 * D.length))<=N') (hB:N'<=65536) :
  SCalls Tryz.prog 11 [.ptr x 0,.agg [.lst (az A) o1,.lst (ak D) o2,.int .i64 (k:Nat)],.int .i64 most] u fun w u'=>∃a:gI,w=.ret (.tup [.lst (bh (br T)) .no,.int .i64 0])/\u'=a.1/\RLaw s a.1 a.2.1 x a.2.2.1 q c a.2.2.2 i N'/\(∃l,a.2.2.2=ns++l)/\∀(b:Nat) (xs:List VV),u b=.obj 30 xs->a.1 b=.obj 30 xs:=by
 have hr:=CI L.D (fun k hk=>by have:=h4 k hk;show k<7;omega) (fun k hk=>L.w2 (by have:=h4 k hk;omega)) hd hT hTo
 have h:=y5 (by omega) L.M L.D A o1 D o2 (L.r4 hn hl hd h4) hT.dep hk.mem L.n (by omega) hmo hr hm
 rw[hk.ix]at h
 refine SCalls.mono (h:=h) ?_
 rintro w u' ⟨a,rfl,rfl,h⟩
 exact⟨_,rfl,rfl,L.step (h.mono hN),h.pre,fun b xs hb=>h.own L.M hb (by decide) (by decide) (by decide) (by decide)⟩
end
end Go.Proofs.YtohnaepcgnbaiaaGreatDoor
namespace Go.Proofs.YtohnaepcgnbaiaaGreatDoor
open Go.RowKit
attribute [-go_sem] bJ cX bH bG aT cU cT
def cu (T:List Par):List (List VV):=T.map fun t=>[.int .i64 t.1,.int .i64 t.2]
theorem eL {T:List Par}:(cu T).length=T.length:=by simp[cu]
theorem fT {T:List Par}{i:Nat}{t:Par}(h:T[i]?=some t):(cu T)[i]?=some [.int .i64 t.1,.int .i64 t.2]:=by simp[cu,h]
def eX (T:List (List Nat))(o:Own):List (List VV):=T.map fun t=>[.lst (ak t) o]
theorem ia {T:List (List Nat)}{o:Own}:(eX T o).length=T.length:=by simp[eX]
theorem mz {T:List (List Nat)}{o:Own}{i:Nat}{t:List Nat}(h:T[i]?=some t):(eX T o)[i]?=some [.lst (ak t) o]:=by simp[eX,h]
theorem sk {A:List Par}{j:Nat}{p:Par}(h:A[j]?=some p):eX ((A.take (j+1)).map pN) .full=eX ((A.take j).map pN) .full++[[.lst [[.int .i64 ((lo2 p.1:Nat):Int)],[.int .i64 ((lo2 p.2:Nat):Int)]] .full]]:=by
 rw[List.take_add_one,h]
 simp[eX,pN,ak]
theorem wI {A:List Par}{j:Nat}(h:j<=A.length):(eX ((A.take j).map pN) .full).length=j:=by
 rw[ia,z_,r_];omega
abbrev Qv:=(St×OB×Nat×List Tr×Nat×Nat)×((Nat->Bool)->Bool)×((Nat->Bool)->Bool)
structure TwoR (s u:St) (x q c i N:Nat) (A B:List Par) (a:Qv):Prop where
 L:RLaw s a.1.1 a.1.2.1 x a.1.2.2.1 q c a.1.2.2.2.1 i N
 n1:Nod a.1.2.2.2.1 a.2.1 a.1.2.2.2.2.1
 n2:Nod a.1.2.2.2.1 a.2.2 a.1.2.2.2.2.2
 T1:Tells (oR i) [0,1] (·∈A.map pN) a.2.1
 T2:Tells (oR i) [2,0] (·∈B.map pN) a.2.2
theorem ee:bi [[120],[121]]:=⟨by decide,by decide,by decide⟩
theorem qn:bi [[121],[122]]:=⟨by decide,by decide,by decide⟩
def dM (A:List (List UInt8))(D:List Nat)(k:Nat):List VV:=[.lst (az A) .no,.lst (ak D) .no,.int .i64 (k:Int)]
set_option maxHeartbeats 16000000 in
theorem GY {s u:St}{K:OB}{x m q c:Nat}{ns:List Tr}{i N N':Nat}(L:RLaw s u K x m q c ns i N)(A B:List Par)(oA oB:Own)(hA:A.length<=20)(hB:B.length<=20)(hN:N+800<=N')(hN':N'<=65536) :
  SCalls Tryz.prog 9 [.ptr x 0,.lst (cu A) oA,.lst (cu B) oB] u fun w u'=>∃a:Qv,w=.ret (.tup [.agg (dM [[120],[121]] [0,1] a.1.2.2.2.2.1),.agg (dM [[121],[122]] [2,0] a.1.2.2.2.2.2),.bool true])/\u'=a.1.1/\TwoR s u x q c i N' A B a:=by
 have hAl:=eL (T:=A)
 have hBl:=eL (T:=B)
 have hat:=fun(i:Nat) (t:Par) (h:A[i]?=some t)=>fT h
 have hbt:=fun(i:Nat) (t:Par) (h:B[i]?=some t)=>fT h
 have w1:=fun(u':St) (hu:∀z,u z≠.free->u' z=u z) (o3:Own)=>(L.more hu).make .full .full ee rfl (by decide) (by decide) (A.map pN) (eX (A.map pN) .full) o3 (D:=[0,1]) (N':=N+400) (fun t ht=>by obtain⟨p,_,rfl⟩:=A_.1 ht;exact sP p) (fun i t h=>⟨_,mz h⟩) ia (by rw[z_];omega) (by rw[z_];simp;omega) (by omega)
 rw[show az [[120],[121]]=[[.str [120]],[.str [121]]] from rfl,show ak [0,1]=[[.int .i64 0],[.int .i64 1]] from rfl]at w1
 have w2:=fun(u1 u':St) (K1:OB) (m1:Nat) (ns1:List Tr) (L1:RLaw s u1 K1 x m1 q c ns1 i (N+400)) (hu:∀z,u1 z≠.free->u' z=u1 z) (o3:Own)=>(L1.more hu).make .full .full qn rfl (by decide) (by decide) (B.map pN) (eX (B.map pN) .full) o3 (D:=[2,0]) (N':=N') (fun t ht=>by obtain⟨p,_,rfl⟩:=A_.1 ht;exact sP p) (fun i t h=>⟨_,mz h⟩) ia (by rw[z_];omega) (by rw[z_];simp;omega) (by omega)
 rw[show az [[121],[122]]=[[.str [121]],[.str [122]]] from rfl,show ak [2,0]=[[.int .i64 2],[.int .i64 0]] from rfl]at w2
 have HAT:=o_ hat
 have HBT:=o_ hbt
 have W1:=o_ w1
 have W2:=o_ w2
 have HL:=o_ L
 clear hat hbt w1 w2 L
 generalize cu A=PA at *
 generalize cu B=PB at *
 refine am Tryz.func9 rfl Tryz.ntmps9 rfl fun Q hQ hQe=>?_
 (repeat'(first|refine Ctl ?_|((with_reducible refine k_ hK ?_);clear hK hE K E)|((first|(with_reducible refine ab fun K E hK hE=>?_)|((with_reducible refine au (fun b hb=>?_));(repeat(obtain⟨_,hb⟩:=hb))))<;>(try simp(disch:=omega) only[go_sem,seval,hAl,hBl, *]))))
 rename_i b6 hb6 n67 n76
 obtain⟨b7,hb7e⟩:∃z,z=b:=⟨_,rfl⟩
 subst hb7e
 have hb7:u b7=.free:=hb
 obtain⟨u0,hu0⟩:∃z,z=(u.set b6 (.obj 30 [.lst [] .full,.lst [] .full,.int .i64 0])).set b7 (.obj 30 [.lst [] .full,.lst [] .full,.int .i64 0]):=⟨_,rfl⟩
 rw[<- hu0]
 have g0:∀z,u z≠.free->u0 z=u z:=fun z hz=>by rw[hu0,j_ _ _ (nef hb7 hz).1,j_ _ _ (nef hb6 hz).1]
 have k6:u0 b6=.obj 30 [.lst [] .full,.lst [] .full,.int .i64 0]:=by rw[hu0,j_ _ _ (by assumption),q_]
 have k7:u0 b7=.obj 30 [.lst [] .full,.lst [] .full,.int .i64 0]:=by rw[hu0,q_]
 have h67:¬ b6=b7:=by assumption
 have h76:¬ b7=b6:=by assumption
 have G0:=o_ (And.intro g0 (And.intro hb6 hb7))
 clear hu0 g0 hb hb6 hb7 n67 n76
 refine bV (fun f env s'=>∃(j:Nat) (ow:Own),j<=A.length/\f+j=A.length/\OwnOk u0 ow j/\s'=u0.own ow 28 1 j/\env 0=.ptr x 0/\env 1=.lst PA oA/\env 2=.lst PB oB/\env 6=.ptr b6 0/\env 7=.ptr b7 0/\env 9=.lst (eX ((A.take j).map pN) .full) ow/\env 10=.lst [] .full/\env 11=.int .i64 (j:Int)) A.length ?_ ?_
 ·exact⟨_,Fg.refl _,0,.full,by omega,by omega,rfl,rfl,ac,ac,ac,ac,ac,by(rw[show eX ((A.take 0).map pN) .full=[] from rfl];((try simp(disch:=assumption) only[go_sem,seval, *])<;>rfl)),ac,ac⟩
 rintro f env s' ⟨j,ow,hj,hfj,hO,rfl,e0,e1,e2,e6,e7,e9,e10,e11⟩
 by_cases h7:j<A.length
 ·obtain⟨p,hp⟩:∃p,A[j]?=some p:=⟨_,m_ h7⟩
  have hx:=HAT.out j p hp
  have hln:=wI (A:=A) hj
  have HTK:=o_ (sk hp)
  have a1:=fA p.1
  have a2:=fA p.2
  clear hp
  generalize eX ((A.take j).map pN) .full=RW at *
  generalize lo2 p.1=v1 at *
  generalize lo2 p.2=v2 at *
  obtain⟨p1,p2⟩:=p
  dsimp only at hx a1 a2
  (repeat'(first|refine Ctl ?_|(with_reducible first|(refine k_ hK ?_;clear hK hE K E)|(refine k_ hKh ?_;clear hKh Kh)|(refine k_ hKb (aC ?_);clear hKb Kb)|refine ax 5 [([0,1,2,3,4,5,6,7,8,9,10,11,12,13,14],15,[[]])] [16] hQe fun K E hK hE=>?_)|((with_reducible refine ah (fun h=>?_) (fun h=>?_))<;>(try(exfalso;assumption)))|((first|(with_reducible first|refine ab fun K E hK hE=>?_|refine ay fun Kh hKh=>?_|refine aG fun Kh hKh=>?_|refine aB fun Kb hKb=>?_)|((with_reducible refine fC (fun o2 ho=>?_));(try simp(disch:=assumption) only[bz,bB,cZ,c6,z_,List.length_cons,List.length_nil,Nat.zero_add,hAl,hx,a1,a2,hln]at ho)))<;>(try simp(disch:=first|assumption|omega) only[go_sem,seval,hAl,hx,a1,a2,hln, *]))))
  all_goals exact⟨_,Fg.refl _,f - 1,by omega,j+1,o2,by omega,by omega,ho,rfl,ac,ac,ac,ac,ac,by(rw[HTK.out];((try simp(disch:=assumption) only[go_sem,seval, *])<;>rfl)),ac,ac⟩
 ·have hin:j=A.length:=by omega
  rw[hin,b_]at e9
  (repeat'(first|(with_reducible refine aR 6 ?_)|refine Ctl ?_|((with_reducible refine k_ hK ?_);clear hK hE K E)|((with_reducible refine ah (fun h=>?_) (fun h=>?_))<;>(try(exfalso;omega)))|(((with_reducible refine ab fun K E hK hE=>?_))<;>(try simp(disch:=omega) only[go_sem,seval,hAl, *]))))
  unfold bC
  refine dr (s':=u0) (Fg.own hO) ?_
  clear hO hj hfj
  generalize hRA:eX (A.map pN) .full=RA at *
  (repeat'(first|refine Ctl ?_|((with_reducible refine k_ hK ?_);clear hK hE K E)|(((with_reducible refine ab fun K E hK hE=>?_))<;>(try simp(disch:=omega) only[go_sem,seval, *]))))
  refine bV (fun f env s'=>∃(j:Nat) (ow2:Own),j<=B.length/\f+j=B.length/\OwnOk u0 ow2 j/\s'=u0.own ow2 28 1 j/\env 0=.ptr x 0/\env 2=.lst PB oB/\env 6=.ptr b6 0/\env 7=.ptr b7 0/\env 9=.lst RA ow/\env 10=.lst (eX ((B.take j).map pN) .full) ow2/\env 12=.int .i64 (j:Int)) B.length ?_ ?_
  ·exact⟨_,Fg.refl _,0,.full,by omega,by omega,rfl,rfl,ac,ac,ac,ac,ac,by(rw[show eX ((B.take 0).map pN) .full=[] from rfl];((try simp(disch:=assumption) only[go_sem,seval, *])<;>rfl)),ac⟩
  rintro f env s' ⟨j,ow2,hj,hfj,hO,rfl,e0,e2,e6,e7,e9,e10,e12⟩
  by_cases h7:j<B.length
  ·obtain⟨p,hp⟩:∃p,B[j]?=some p:=⟨_,m_ h7⟩
   have hx:=HBT.out j p hp
   have hln:=wI (A:=B) hj
   have HTK:=o_ (sk hp)
   have a1:=fA p.1
   have a2:=fA p.2
   clear hp
   generalize eX ((B.take j).map pN) .full=RW at *
   generalize lo2 p.1=v1 at *
   generalize lo2 p.2=v2 at *
   obtain⟨p1,p2⟩:=p
   dsimp only at hx a1 a2
   (repeat'(first|refine Ctl ?_|(with_reducible first|(refine k_ hK ?_;clear hK hE K E)|(refine k_ hKh ?_;clear hKh Kh)|(refine k_ hKb (aC ?_);clear hKb Kb)|refine ax 9 [([0,1,2,3,4,5,6,7,8,9,10,11,12,13,14],15,[[]])] [16] hQe fun K E hK hE=>?_)|((with_reducible refine ah (fun h=>?_) (fun h=>?_))<;>(try(exfalso;assumption)))|((first|(with_reducible first|refine ab fun K E hK hE=>?_|refine ay fun Kh hKh=>?_|refine aG fun Kh hKh=>?_|refine aB fun Kb hKb=>?_)|((with_reducible refine fC (fun o2 ho=>?_));(try simp(disch:=assumption) only[bz,bB,cZ,c6,z_,List.length_cons,List.length_nil,Nat.zero_add,hBl,hx,a1,a2,hln]at ho)))<;>(try simp(disch:=first|assumption|omega) only[go_sem,seval,hBl,hx,a1,a2,hln, *]))))
   all_goals exact⟨_,Fg.refl _,f - 1,by omega,j+1,o2,by omega,by omega,ho,rfl,ac,ac,ac,ac,ac,by(rw[HTK.out];((try simp(disch:=assumption) only[go_sem,seval, *])<;>rfl)),ac⟩
  ·have hin2:j=B.length:=by omega
   rw[hin2,b_]at e10
   (repeat'(first|(with_reducible refine aR 10 ?_)|refine Ctl ?_|((with_reducible refine k_ hK ?_);clear hK hE K E)|((with_reducible refine ah (fun h=>?_) (fun h=>?_))<;>(try(exfalso;omega)))|(((with_reducible refine ab fun K E hK hE=>?_))<;>(try simp(disch:=omega) only[go_sem,seval,hBl, *]))))
   unfold bC
   refine dr (s':=u0) (Fg.own hO) ?_
   have wa:=W1.out u0 G0.out.1 ow
   clear hO hj hfj
   generalize hRB:eX (B.map pN) .full=RB at *
   (repeat'((((with_reducible refine ab fun K E hK hE=>?_))<;>(try simp(disch:=omega) only[go_sem,seval, *]))))
   refine ao xK wa (fun a h=>?_)
   obtain⟨⟨u1,K1,m1,ns1,kp⟩,f1⟩:=a
   have j6:=h.own b6 _ k6
   have j7:=h.own b7 _ k7
   have HR1:=o_ h
   have hj6:u1 b6≠.free:=by dsimp only at j6;rw[j6];simp
   have hj7:u1 b7≠.free:=by dsimp only at j7;rw[j7];simp
   dsimp only at j6 j7 ⊢
   clear h wa k6 k7
   simp only[go_sem,seval]
   (repeat'(first|refine Ctl ?_|((with_reducible refine k_ hK ?_);clear hK hE K E)|((first|(with_reducible refine ab fun K E hK hE=>?_)|((with_reducible refine au (fun b hb=>?_));(try(obtain⟨_,_⟩:=nef hb hj6;obtain⟨_,_⟩:=nef hb hj7))))<;>(try simp(disch:=omega) only[go_sem,seval, *]))))
   obtain⟨b13,hb13e⟩:∃z,z=b:=⟨_,rfl⟩
   subst hb13e
   have hb13:u1 b13=.free:=hb
   obtain⟨u1',hu1⟩:∃z,z=u1.set b13 (.obj 30 [.lst [[.str [120]],[.str [121]]] .no,.lst [[.int .i64 0],[.int .i64 1]] .no,.int .i64 (kp:Int)]):=⟨_,rfl⟩
   rw[<- hu1]
   have g1:∀z,u1 z≠.free->u1' z=u1 z:=fun z hz=>by rw[hu1,j_ _ _ (nef hb13 hz).1]
   have i13:u1' b13=.obj 30 [.lst [[.str [120]],[.str [121]]] .no,.lst [[.int .i64 0],[.int .i64 1]] .no,.int .i64 (kp:Int)]:=by rw[hu1,q_]
   have i6:=(g1 b6 hj6).trans j6
   have i7:=(g1 b7 hj7).trans j7
   have wb:=W2.out u1 u1' K1 m1 ns1 HR1.out.L g1 ow2
   have HB:=o_ hb13
   clear hu1 g1 hb hb13 j6 j7 hj6 hj7
   refine ao xK wb (fun a h=>?_)
   obtain⟨⟨u2,K2,m2,ns2,kq⟩,f2⟩:=a
   have j6:=h.own b6 _ i6
   have j7:=h.own b7 _ i7
   have j13:=h.own b13 _ i13
   have HR2:=o_ h
   dsimp only at j6 j7 j13 ⊢
   have hj6:u2 b6≠.free:=by rw[j6];simp
   have hj7:u2 b7≠.free:=by rw[j7];simp
   have hj13:u2 b13≠.free:=by rw[j13];simp
   clear h wb i6 i7 i13
   simp only[go_sem,seval]
   (repeat'(first|refine Ctl ?_|(with_reducible first|(refine k_ hK ?_;clear hK hE K E)|(refine k_ hKh ?_;clear hKh Kh)|(refine k_ hKb (aC ?_);clear hKb Kb)|refine ax 12 [([0,1,2,3,4,5,6,7],8,[[1,5,6,7]]),([],9,[[],[5,6,7]])] [10] hQe fun K E hK hE=>?_)|((first|(with_reducible first|refine ay fun Kh hKh=>?_|refine aG fun Kh hKh=>?_|refine aB fun Kb hKb=>?_)|((with_reducible refine au (fun b hb=>?_));(try(obtain⟨_,_⟩:=nef hb hj6;obtain⟨_,_⟩:=nef hb hj7;obtain⟨_,_⟩:=nef hb hj13))))<;>(try simp(disch:=omega) only[go_sem,seval, *]))))
   have hb15:u2 b=.free:=hb
   all_goals(refine aq Ns hQ ?_)
   all_goals refine⟨_,_,Wk.refl _,Fg.refl _,((St.set _ b7 _,K2,m2,ns2,kp,kq),f1,f2),rfl,rfl,?_,HR1.out.nd.app HR2.out.pre,HR2.out.nd,HR1.out.T,HR2.out.T⟩
   all_goals refine HR2.out.L.fin fun z hz=>?_
   all_goals dsimp only at hz ⊢
   all_goals by_cases e7:z=b7
   ·subst e7;exact .inr ⟨⟨_,j7⟩,HL.out.free G0.out.2.2⟩
   by_cases e6:z=b6
   ·subst e6;exact .inr ⟨⟨_,j6⟩,HL.out.free G0.out.2.1⟩
   left
   rw[j_ _ _ e7,j_ _ _ e6,j_ _ _ (nef hb15 hz).1]
end Go.Proofs.YtohnaepcgnbaiaaGreatDoor
namespace Go.Proofs.YtohnaepcgnbaiaaGreatDoor
open Go.RowKit
attribute [-go_sem] bJ cX bH bG aT cU cT
section
variable {s u : St} {K : OB} {x m q c : Nat} {ns : List Tr} {i N N' : Nat} {A A2 : List (List UInt8)} {D D2 : List Nat}
theorem RLaw.move (L:RLaw s u K x m q c ns i N){S:List Nat->Prop}{f:(Nat->Bool)->Bool}{k:Nat}(hT:Tells (oR i) D S f)(hk:Nod ns f k)(o1 o2:Own)(hn:bi A)(hl:A.length=D.length)(hd:D.Nodup)(h4:∀d,d∈D->d<4)(attr:List UInt8){j d0 d1:Nat}(hix:ixA attr A=(j:Int))(hj:D[j]?=some d0)(h1:d1<4)(hne:d0≠d1->d1∉D){D':List Nat}(hD':D.set j d1=D')
  (hN:N+(2 * D.length+2) * 2 ^ (2 * D.length)<=N') (hB:N'<=65536) :
  SCalls Tryz.prog 10 [.ptr x 0,.agg [.lst (az A) o1,.lst (ak D) o2,.int .i64 (k:Nat)],.str attr,.int .i64 (d1:Int)] u fun w u'=>∃a:tU,w=.ret (.tup [.agg (dM A D' a.1.2.2.2.2),.int .i64 0])/\u'=a.1.1/\ResT s u ns x q c i N' D' S a:=by
 subst hD'
 have hvl:=dE L.i3 h4
 have h41:∀d,d∈[d1]->d<4:=fun d hd=>by rw[a_]at hd;omega
 have h:=Fl (by omega) L.M L.D A o1 D o2 (L.r4 hn hl hd h4) hT.dep hk.mem attr j d0 d1 hix hj (xB L.i3 h41) hne L.n (by rw[hvl];omega)
 rw[hk.ix,hvl]at h
 refine SCalls.mono (h:=h) ?_
 rintro w u' ⟨a,rfl,rfl,h⟩
 have h40:=h4 d0 (y_ hj)
 exact⟨_,rfl,rfl,L.res h hN (hT.move L.D hj hd (fun k hk=>by have:=h4 k hk;show k<7;omega) (L.w2 (by omega)) (L.w2 (by omega)))⟩
theorem RLaw.join (L:RLaw s u K x m q c ns i N){S S2 S':List Nat->Prop}{f g:(Nat->Bool)->Bool}{k k2:Nat}(hT:Tells (oR i) D S f)(hk:Nod ns f k)(o1 o2:Own)(hn:bi A)(hl:A.length=D.length)(hd:D.Nodup)(h4:∀d,d∈D->d<4)(hne:A≠[])
  (hT2:Tells (oR i) D2 S2 g) (hk2:Nod ns g k2) (o3 o4:Own) (hn2:bi A2) (hl2:A2.length=D2.length) (hd2:D2.Nodup) (h42:∀d,d∈D2->d<4) (hne2:A2≠[])
  {jq:JS} (hj:lS dsR A D (A2.zip D2) ⟨D++D2,[],D,A⟩=some jq) (hnq:bi jq.A) (hlq:jq.A.length=jq.D.length) (hdq:jq.D.Nodup) (h4q:∀d,d∈jq.D->d<4) (h4t:∀d,d∈jq.t->d<4) (htn:jq.t.Nodup) (htl:jq.t.length=D2.length) (hs1:∀k,k∈D->k∈jq.D) (hs2:∀k,k∈jq.t->k∈jq.D)
  (hS:∀G,Tells (oR i) jq.t S2 G->Tells (oR i) jq.D S' (fun y=>f y && G y))
  (hN:N+(2 * D2.length+2) * 2 ^ (2 * D2.length)+2 ^ (2 * jq.D.length)<=N') (hB:N'<=65536) :
  SCalls Tryz.prog 13 [.ptr x 0,.agg [.lst (az A) o1,.lst (ak D) o2,.int .i64 (k:Nat)],.agg [.lst (az A2) o3,.lst (ak D2) o4,.int .i64 (k2:Nat)]] u fun w u'=>∃a:tU,w=.ret (.tup [.agg (dM jq.A jq.D a.1.2.2.2.2),.int .i64 0])/\u'=a.1.1/\ResT s u ns x q c i N' jq.D S' a:=by
 have hvl:=dE L.i3 h42
 have hvq:=dE L.i3 h4q
 have h:=Fp (by omega) L.M L.D (by decide) A o1 D o2 (L.r4 hn hl hd h4) hne hT.dep hk.mem A2 o3 D2 o4 (L.r4 hn2 hl2 hd2 h42) hne2 hT2.dep hk2.mem hj (L.r4 hnq hlq hdq h4q) (xB L.i3 h4t) htn htl hs1 hs2 L.n (by rw[hvl,hvq];omega)
 rw[hk.ix,hk2.ix,hvl,hvq]at h
 refine SCalls.mono (h:=h) ?_
 rintro w u' ⟨a,rfl,rfl,h⟩
 exact⟨_,rfl,rfl,L.res h hN (hS _ (hT2.turn L.D htl (fun k hk=>⟨by have:=h42 k hk;show k<7;omega,L.w2 (by have:=h42 k hk;omega)⟩) (fun k hk=>L.w2 (by have:=h4t k hk;omega)) hd2))⟩
theorem RLaw.name (L:RLaw s u K x m q c ns i N){S:List Nat->Prop}{f:(Nat->Bool)->Bool}{k:Nat}(hT:Tells (oR i) D S f)(hk:Nod ns f k)(o1 o2:Own)(hn:bi A)(hl:A.length=D.length)(hd:D.Nodup)(h4:∀d,d∈D->d<4)(o3:Own)(hn2:bi A2)(hl2:A2.length=A.length)(hN:N<=N') :
  SCalls Tryz.prog 16 [.ptr x 0,.agg [.lst (az A) o1,.lst (ak D) o2,.int .i64 (k:Nat)],.lst (az A2) o3] u fun w u'=>∃a:tU,w=.ret (.tup [.agg (dM A2 D a.1.2.2.2.2),.int .i64 0])/\u'=a.1.1/\ResT s u ns x q c i N' D S a:=by
 have h:=Fk (by omega) L.M L.D A o1 D o2 (L.r4 hn hl hd h4) hT.dep hk.mem A2 o3 hn2 hl2 L.n
 rw[hk.ix]at h
 refine SCalls.mono (h:=h) ?_
 rintro w u' ⟨a,rfl,rfl,h⟩
 exact⟨_,rfl,rfl,L.res h hN hT⟩
end
end Go.Proofs.YtohnaepcgnbaiaaGreatDoor
namespace Go.Proofs.YtohnaepcgnbaiaaGreatDoor
open Go.RowKit
attribute [-go_sem] bJ cX bH bG aT cU cT
theorem fc:((0:Nat):Int)=0:=rfl
theorem fb:((1:Nat):Int)=1:=rfl
theorem eZ:((2:Nat):Int)=2:=rfl
theorem eY:((3:Nat):Int)=3:=rfl
theorem kZ:bi [[120],[121],[122]]:=⟨by decide,by decide,by decide⟩
def aw2:List (List Nat):=[[2,3],[2,0],[1,1]]
def awJ:List (List Nat):=[[1,2,0],[1,2,3]]
theorem vK:br awJ=[[1,2,0],[1,2,3]]:=by rfl
theorem E9 {o:List (List Nat)}{f G:(Nat->Bool)->Bool}(hf:Tells o [0,1] (·∈[[1,2]]) f)(hG:Tells o [1,2] (·∈aw2) G):Tells o [0,1,2] (·∈awJ) (fun y=>f y && G y):=fun x=>by
 rw[Bool.and_eq_true,hf x,hG x]
 simp only[List.map_cons,List.map_nil]
 generalize vN o x 0=p
 generalize vN o x 1=q
 generalize vN o x 2=r
 simp only[aw2,awJ,AT,List.cons.injEq,List.not_mem_nil,or_false,and_true]
 omega
abbrev rv2 (a b:List UInt8)(d e:Int)(k:Nat):List VV:=[.lst [[.str a],[.str b]] .no,.lst [[.int .i64 d],[.int .i64 e]] .no,.int .i64 (k:Int)]
abbrev rv3 (a b c:List UInt8)(d e f:Int)(k:Nat):List VV:=[.lst [[.str a],[.str b],[.str c]] .no,.lst [[.int .i64 d],[.int .i64 e],[.int .i64 f]] .no,.int .i64 (k:Int)]
theorem BT:eX aw2 .full=[[.lst [[.int .i64 2],[.int .i64 3]] .full],[.lst [[.int .i64 2],[.int .i64 0]] .full],[.lst [[.int .i64 1],[.int .i64 1]] .full]]:=rfl
set_option maxHeartbeats 16000000 in
theorem gg (s:St):SRet Tryz.prog 7 [] s (.bool true) s:=by
 obtain⟨i,hi3,wb⟩:=pj s 0
 refine am Tryz.func7 rfl Tryz.ntmps7 rfl fun Q hQ hQe=>?_
 (repeat'(first|refine Ctl ?_|((with_reducible refine k_ hK ?_);clear hK hE K E)|(((with_reducible refine ab fun K E hK hE=>?_))<;>(try simp(disch:=omega) only[go_sem,seval, *]))))
 refine ao L0 wb (fun a h=>?_)
 obtain⟨u1,KK,q,c,x⟩:=a
 have L:=RLaw.of h hi3
 dsimp only at L ⊢
 clear h wb
 have w:=L.make .full .full ee rfl (by decide) (by decide) [[1,2]] (eX [[1,2]] .full) .full (D:=[0,1]) (N':=22) (by decide) (fun i t h=>⟨_,mz h⟩) ia (by decide) (by decide) (by decide)
 simp only[az,ak,eX,List.map_cons,List.map_nil,fc,fb,eZ,eY]at w
 have HL:=o_ L
 clear L
 simp only[go_sem,seval]
 (repeat'(first|refine Ctl ?_|((with_reducible refine k_ hK ?_);clear hK hE K E)|((with_reducible refine ah (fun h=>?_) (fun h=>?_))<;>(try(exfalso;assumption)))|(((with_reducible refine ab fun K E hK hE=>?_))<;>(try simp(disch:=omega) only[go_sem,seval, *]))))
 refine ao xK w (fun a h=>?_)
 obtain⟨⟨u2,K2,m2,ns2,kp⟩,f1⟩:=a
 have L2:=h.L
 have T1:=h.T
 have n1:=h.nd
 dsimp only at L2 T1 n1 ⊢
 clear h w HL
 simp only[go_sem,seval]
 (repeat'(first|refine Ctl ?_|((with_reducible refine k_ hK ?_);clear hK hE K E)|((first|(with_reducible refine ab fun K E hK hE=>?_)|((with_reducible refine au (fun b hb=>?_))))<;>(try simp(disch:=omega) only[go_sem,seval, *]))))
 obtain⟨b3,hb3⟩:∃z,z=b:=⟨_,rfl⟩
 subst hb3
 have fb3:u2 b3=.free:=hb
 obtain⟨v2,huv2⟩:∃z,z=u2.set b3 (.obj 30 (rv2 [120] [121] 0 1 kp)):=⟨_,rfl⟩
 rw[<- huv2]
 have gv2:∀z,u2 z≠.free->v2 z=u2 z:=fun z hz=>by rw[huv2,j_ _ _ (nef fb3 hz).1]
 have kb3:v2 b3=.obj 30 (rv2 [120] [121] 0 1 kp):=by rw[huv2,q_]
 try simp only[rv2]at kb3
 try simp only[rv3]at kb3
 clear huv2 hb fb3
 have w:=(L2.more gv2).make .full .full qn rfl (by decide) (by decide) aw2 (eX aw2 .full) .full (D:=[0,2]) (N':=82) (by decide) (fun i t h=>⟨_,mz h⟩) ia (by decide) (by decide) (by decide)
 rw[BT]at w
 simp only[az,ak,dM,List.map_cons,List.map_nil,fc,fb,eZ,eY]at w
 have HT1:=o_ (And.intro T1 n1)
 clear L2 gv2 T1 n1
 refine ao xK w (fun a h=>?_)
 obtain⟨⟨u3,K3,m3,ns3,kq⟩,f2⟩:=a
 have L3:=h.L
 have T2:=h.T
 have n2:=h.nd
 have n1:=HT1.out.2.app h.pre
 have k3:=h.own b3 _ kb3
 dsimp only at L3 T2 n2 n1 k3 ⊢
 have h3:u3 b3≠.free:=by rw[k3];simp
 clear h w kb3
 simp only[go_sem,seval]
 (repeat'(first|refine Ctl ?_|((with_reducible refine k_ hK ?_);clear hK hE K E)|((first|(with_reducible refine ab fun K E hK hE=>?_)|((with_reducible refine au (fun b hb=>?_));(try(obtain⟨_,_⟩:=nef hb h3))))<;>(try simp(disch:=omega) only[go_sem,seval, *]))))
 obtain⟨b5,hb5⟩:∃z,z=b:=⟨_,rfl⟩
 subst hb5
 have fb5:u3 b5=.free:=hb
 obtain⟨v3,huv3⟩:∃z,z=u3.set b5 (.obj 30 (rv2 [121] [122] 0 2 kq)):=⟨_,rfl⟩
 rw[<- huv3]
 have gv3:∀z,u3 z≠.free->v3 z=u3 z:=fun z hz=>by rw[huv3,j_ _ _ (nef fb5 hz).1]
 have kb5:v3 b5=.obj 30 (rv2 [121] [122] 0 2 kq):=by rw[huv3,q_]
 try simp only[rv2]at kb5
 try simp only[rv3]at kb5
 clear huv3 hb fb5
 have k3:=(gv3 b3 h3).trans k3
 have w:=(L3.more gv3).join HT1.out.1 n1 .no .no ee rfl (by decide) (by decide) (by decide) T2 n2 .no .no qn rfl (by decide) (by decide) (by decide) (jq:=⟨[0,1,0,2],[1,2],[0,1,2],[[120],[121],[122]]⟩) (S':=(·∈awJ)) (N':=242) rfl kZ rfl (by decide) (by decide) (by decide) (by decide) rfl (by decide) (by decide) (fun G hG=>E9 HT1.out.1 hG) (by decide) (by decide)
 simp only[az,ak,dM,List.map_cons,List.map_nil,fc,fb,eZ,eY]at w
 clear L3 gv3 T2 n1 n2 HT1
 refine ao xM w (fun a h=>?_)
 obtain⟨⟨u4,K4,m4,ns4,kj⟩,f3⟩:=a
 have L4:=h.L
 have T4:=h.T
 have n4:=h.nd
 dsimp only at L4 T4 n4 ⊢
 have k3:=h.own b3 _ k3
 have k5:=h.own b5 _ kb5
 dsimp only at k3 k5
 have h3:u4 b3≠.free:=by rw[k3];simp
 have h5:u4 b5≠.free:=by rw[k5];simp
 clear h w kb5
 simp only[go_sem,seval]
 (repeat'(first|refine Ctl ?_|((with_reducible refine k_ hK ?_);clear hK hE K E)|((first|(with_reducible refine ab fun K E hK hE=>?_)|((with_reducible refine au (fun b hb=>?_));(try(obtain⟨_,_⟩:=nef hb h3;obtain⟨_,_⟩:=nef hb h5))))<;>(try simp(disch:=omega) only[go_sem,seval, *]))))
 obtain⟨b7,hb7⟩:∃z,z=b:=⟨_,rfl⟩
 subst hb7
 have fb7:u4 b7=.free:=hb
 obtain⟨v4,huv4⟩:∃z,z=u4.set b7 (.obj 30 (rv3 [120] [121] [122] 0 1 2 kj)):=⟨_,rfl⟩
 rw[<- huv4]
 have gv4:∀z,u4 z≠.free->v4 z=u4 z:=fun z hz=>by rw[huv4,j_ _ _ (nef fb7 hz).1]
 have kb7:v4 b7=.obj 30 (rv3 [120] [121] [122] 0 1 2 kj):=by rw[huv4,q_]
 try simp only[rv2]at kb7
 try simp only[rv3]at kb7
 clear huv4 hb fb7
 have w:=(L4.more gv4).tuples T4 n4 .no .no kZ rfl (by decide) (by decide) (by decide) (most:=9) (N':=494) (by decide) (by rw[vK];decide) (by decide) (by decide)
 simp only[az,ak,List.map_cons,List.map_nil,fc,fb,eZ,eY]at w
 have hs:=fun(u:St)=>tT (br awJ) [[1,2,0],[1,2,3]] .no .full .full (by rw[vK];exact⟨by decide,by decide⟩) ⟨by decide,by decide⟩ u
 rw[decide_eq_true vK]at hs
 have HS:=o_ hs
 clear L4 gv4 T4 n4 k3 k5 h3 h5 hs
 generalize bh (br awJ)=RJ at *
 refine ao lW w (fun a h=>?_)
 obtain⟨u5,K5,m5,ns5⟩:=a
 have HFG:=o_ h.1.fg
 dsimp only at HFG ⊢
 have hs:=HS.out u5
 simp only[zH,aI,List.map_cons,List.map_nil]at hs
 clear h w HS
 simp only[go_sem,seval]
 (repeat'(first|refine Ctl ?_|((with_reducible refine k_ hK ?_);clear hK hE K E)|(((with_reducible first|refine ab fun K E hK hE=>?_|refine ae oZ (hs) ?_))<;>(try simp(disch:=omega) only[go_sem,seval, *]))))
 all_goals(refine aq ND hQ ?_)
 all_goals exact⟨_,_,Wk.refl _,HFG.out,rfl,rfl⟩
end Go.Proofs.YtohnaepcgnbaiaaGreatDoor
namespace Go.Proofs.YtohnaepcgnbaiaaGreatDoor
open Go.RowKit
def ixP (p:Nat->Bool):List Nat->Int
 |[]=>-1
 |x::l=>if p x then 0 else(if ixP p l<0 then -1 else ixP p l+1)
theorem ti {p:Nat->Bool}:∀{l:List Nat},(∀x,x∈l->p x=false)->ixP p l=-1
 |[],_=>rfl
 |x::l,h=>by
  simp only[ixP]
  rw[if_neg (by rw[h x (by simp)];simp),ti fun y hy=>h y (by simp[hy])]
  rfl
theorem A7 {p:Nat->Bool}:∀{l:List Nat} {i x:Nat},(∀y,y∈l.take i->p y=false)->l[i]?=some x->p x=true->ixP p l=i
 |[],i,_,_,h,_=>by simp at h
 |y::l,0,x,_,h,hp=>by simp at h;subst h;simp[ixP,hp]
 |y::l,i+1,x,ha,h,hp=>by
  have h1:p y=false:=ha y (by simp)
  have h2:=A7 (l:=l) (i:=i) (x:=x) (fun z hz=>ha z (by simp[hz])) (by simpa using h) hp
  simp only[ixP]
  rw[if_neg (by rw[h1];simp),h2,if_neg (by omega)]
  omega
theorem EK {l:List Nat}{i k:Nat}(h:l[i]?=some k):(dv l)[i]?=some (.int .i64 (k:Int)):=by simp[dv,h]
theorem oz {l:List Nat}:(dv l).length=l.length:=by simp[dv]
set_option maxHeartbeats 4000000 in
theorem QD (s:St)(gb:Nat)(l:List Nat)(hg:s gb=.row 3 1 (dv l))(hn:l.length<=1000000000){g:FuncId}{caps:List VV}(canG:an Tryz.prog g)(p:Nat->Bool)(hp:∀d:Nat,SRet Tryz.prog g (.int .i64 (d:Int)::caps) s (.bool (p d)) s) :
  SRet Tryz.prog 74 [.mrw gb l.length,.fn g caps] s (.int .i64 (ixP p l)) s:=by
 have hil:=oz (l:=l)
 refine am Tryz.func74 rfl Tryz.ntmps74 rfl fun Q hQ hQe=>?_
 (repeat'(first|refine Ctl ?_|((with_reducible refine k_ hK ?_);clear hK hE K E)|(((with_reducible refine ab fun K E hK hE=>?_))<;>(try simp(disch:=omega) only[go_sem,seval,hil, *]))))
 refine aY (fun m env s'=>∃(i:Nat),i<=l.length/\m+i=l.length/\(∀x,x∈l.take i->p x=false)/\s'=s/\env 0=.mrw gb l.length/\env 1=.fn g caps/\env 7=.int .i64 l.length/\env 8=.int .i64 i) l.length
  ⟨0,by omega,by omega,by simp,rfl,ac,ac,ac,ac⟩ ?_
 rintro m env s' ⟨i,hi,hm,hall,rfl,e0,e1,e7,e8⟩
 by_cases hlt:i<l.length
 ·obtain⟨x,hx⟩:∃x,l[i]?=some x:=⟨_,m_ hlt⟩
  have hix:(dv l)[i * 1]?=some (.int .i64 (x:Int)):=by rw[Nat.mul_one];exact EK hx
  have htake:l.take (i+1)=l.take i++[x]:=by rw[List.take_add_one,hx];rfl
  have w:=hp x
  cases hpx:p x with
  |true=>
   have hres:=A7 hall hx hpx
   rw[hpx]at w
   clear hall htake hx hp
   (repeat'(first|refine Ctl ?_|((with_reducible refine k_ hK ?_);clear hK hE K E)|((with_reducible refine ah (fun h=>?_) (fun h=>?_))<;>(try(exfalso;assumption)))|(((with_reducible first|refine ab fun K E hK hE=>?_|refine ae canG (w) ?_|refine d6 ?_))<;>(try simp(disch:=omega) only[go_sem,seval,hil,hix, *]))))
   all_goals(refine aq sF hQ ?_)
   all_goals exact⟨_,_,Wk.refl _,Fg.refl _,by rw[hres],rfl⟩
  |false=>
   have hall2:∀y,y∈l.take (i+1)->p y=false:=fun y hy=>by
    rw[htake]at hy
    rcases f_.1 hy with hy|hy
    ·exact hall y hy
    ·rw[a_]at hy;rw[hy];exact hpx
   rw[hpx]at w
   clear hall htake hx hp
   (repeat'(first|refine Ctl ?_|((with_reducible refine k_ hK ?_);clear hK hE K E)|((with_reducible refine ah (fun h=>?_) (fun h=>?_))<;>(try(exfalso;assumption)))|(((with_reducible first|refine ab fun K E hK hE=>?_|refine ae canG (w) ?_|refine d6 ?_))<;>(try simp(disch:=omega) only[go_sem,seval,hil,hix, *]))))
   all_goals exact⟨m - 1,by omega,i+1,by omega,by omega,hall2,rfl,ac,ac,ac,ac⟩
 ·have hres:ixP p l=-1:=ti (by
   have:l.take i=l:=s_ (by omega)
   rw[this]at hall
   exact hall)
  clear hall hp
  (repeat'(first|refine Ctl ?_|((with_reducible refine k_ hK ?_);clear hK hE K E)|((with_reducible refine ah (fun h=>?_) (fun h=>?_))<;>(try(exfalso;assumption)))|(((with_reducible refine ab fun K E hK hE=>?_))<;>(try simp(disch:=omega) only[go_sem,seval,hil, *]))))
  all_goals(refine aq sF hQ ?_)
  all_goals exact⟨_,_,Wk.refl _,Fg.refl _,by rw[hres],rfl⟩
theorem zh (p:Nat->Bool)(l:List Nat):(ixP p l=-1/\∀x,x∈l->p x=false)\/∃(k x:Nat),ixP p l=(k:Int)/\l[k]?=some x/\p x=true/\∀y,y∈l.take k->p y=false:=by
 induction l with
 |nil=>exact .inl ⟨rfl,by simp⟩
 |cons a l ih=>
  cases ha:p a with
  |true=>exact .inr ⟨0,a,by simp[ixP,ha],rfl,ha,by simp⟩
  |false=>
   simp only[ixP]
   rw[if_neg (by rw[ha];simp)]
   rcases ih with ⟨h,hn⟩|⟨k,x,h,hk,hp,hn⟩
   ·exact .inl ⟨by rw[h];rfl,by simpa [ha]using hn⟩
   ·exact .inr ⟨k+1,x,by rw[h,if_neg (by omega)];omega,by simpa using hk,hp,by simpa [ha]using hn⟩
def c7 (p:Nat->Bool)(l:List Nat):List Nat:=l.filter fun x=>!p x
theorem oo {p:Nat->Bool}{l:List Nat}(h:∀x,x∈l->p x=false):c7 p l=l:=List.filter_eq_self.2 fun x hx=>by rw[h x hx];rfl
theorem lj {p:Nat->Bool}{l:List Nat}{j x:Nat}(h:l[j]?=some x):c7 p (l.take (j+1))=c7 p (l.take j)++(if p x then [] else [x]):=by
 rw[c7,List.take_add_one,h,List.filter_append]
 show _++List.filter (fun x=>!p x) [x]=_
 cases hp:p x<;>simp[c7,hp]
theorem qs {p:Nat->Bool}{l:List Nat}:(c7 p l).length<=l.length:=List.length_filter_le _ _
structure DelI (p:Nat->Bool) (l:List Nat) (j i:Nat) (R:List VV):Prop where
 len:R.length=l.length
 hi:i=(c7 p (l.take j)).length
 hd:R.take i=dv (c7 p (l.take j))
 tl:R.drop j=dv (l.drop j)
 lt:i<j
theorem DelI.at {p:Nat->Bool}{l:List Nat}{j i:Nat}{R:List VV}(h:DelI p l j i R){x:Nat}(hx:l[j]?=some x):R[j]?=some (.int .i64 (x:Int)):=by
 have h1:=congrArg (fun z=>z[0]?) h.tl
 simp only[List.getElem?_drop,Nat.add_zero]at h1
 rw[h1]
 simp[dv,List.getElem?_drop,hx]
theorem DelI.skip {p:Nat->Bool}{l:List Nat}{j i:Nat}{R:List VV}(h:DelI p l j i R){x:Nat}(hx:l[j]?=some x)(hp:p x=true):DelI p l (j+1) i R:=by
 have e:=lj (p:=p) hx
 rw[hp,if_pos rfl,List.append_nil]at e
 refine⟨h.len,by rw[e];exact h.hi,by rw[e];exact h.hd,?_,by have:=h.lt;omega⟩
 rw[<- List.drop_drop,h.tl]
 simp[dv,List.map_drop]
theorem DelI.store {p:Nat->Bool}{l:List Nat}{j i:Nat}{R:List VV}(h:DelI p l j i R){x:Nat}(hx:l[j]?=some x)(hp:p x=false):DelI p l (j+1) (i+1) (List.take (i * 1) R++[.int .i64 (x:Int)]++List.drop (i * 1+1) R):=by
 have e:=lj (p:=p) hx
 rw[hp,if_neg (by simp)]at e
 have hj:j<l.length:=(x_.1 hx).1
 have hl:=h.len
 have hlt:=h.lt
 have hti:(List.take i R).length=i:=by rw[r_];omega
 rw[Nat.mul_one]
 refine⟨by simp;omega,by rw[e,p_,<- h.hi];rfl,?_,?_,by omega⟩
 ·rw[e,List.append_assoc,List.take_append,hti,show i+1 - i=1 by omega,s_ (by omega:(List.take i R).length<=i+1),h.hd]
  simp[dv]
 ·have h1:(List.take i R++[VV.int .i64 (x:Int)]).length=i+1:=by simp;omega
  rw[List.drop_append,h1,List.drop_of_length_le (by rw[h1];omega),List.nil_append,List.drop_drop,show i+1+(j+1 - (i+1))=j+1 by omega,<- List.drop_drop,h.tl]
  simp[dv,List.map_drop]
section
open Go.Lib Go.Deep
variable {w0 w : World} {G : Gh} {s : St} {b : Nat} {T : TypeId} {xs ys : List VV}
theorem Sim.row_junk (h:Sim w0 G w s)(hb:s b=.row T 1 ys)(o:Nat)(v:Value)(ho:ys.length<=o):Sim w0 G (w.setCell ⟨b,o,none⟩ v) s:=by
 have hob:=h.ok b
 rw[hb]at hob
 obtain⟨hB,hK,c,cap,hc,hq,hcs,hle,hm,hx⟩:=hob
 have:=h.set_row (ys:=ys) hb (w.setCell ⟨b,o,none⟩ v) c (c.setIfInBounds o v) hc ⟨rfl,rfl,rfl,by rw[nblk_setCell];exact Nat.le_refl _,fun k' hk=>blk_setCell_other w _ _ k' (by show k'≠b;omega)⟩ (nblk_setCell _ _ _) (by simp[World.setCell,Array.getElem?_modify,hc]) (fun k' hk=>blk_setCell_other w _ _ k' hk) (by simp) (by rw[hcs];exact hle) fun i x hi=>by
  obtain⟨h1,u,hu,hr⟩:=hx i x hi
  have hil:i<ys.length:=(x_.1 hi).1
  exact⟨h1,u,by rw[Array.getElem?_setIfInBounds_ne (by omega)];exact hu,hr⟩
 rwa [v_ _ _ _ hb]at this
theorem Sim.rows_junk (hb:s b=.row T 1 ys):∀(vs:List Value) (o:Nat) (w:World),Sim w0 G w s->ys.length<=o->Sim w0 G (w.setCells b o vs) s
 |[],_,_,h,_=>h
 |v::vs,o,w,h,ho=>Sim.rows_junk hb vs (o+1) _ (h.row_junk hb o v ho) (by omega)
theorem Sim.row_take (h:Sim w0 G w s)(hb:s b=.row T 1 xs)(i:Nat):Sim w0 G w (s.set b (.row T 1 (xs.take i))):=by
 have hob:=h.ok b
 rw[hb]at hob
 obtain⟨hB,hK,c,cap,hc,hq,hcs,hle,hm,hx⟩:=hob
 refine h.set_row (ys:=xs.take i) hb w c c hc (Below.refl _ _) rfl hc (fun _ _=>rfl) rfl (by rw[r_,hcs];omega) fun j x hj=>?_
 by_cases hji:j<i
 ·rw[List.getElem?_take_of_lt hji]at hj;exact hx j x hj
 ·rw[t_ (by rw[r_];omega)]at hj;cases hj
end
section
open Go.Lib
variable {w0 w : World} {G : Gh} {s : St} {b n i : Nat} {xs : List VV}
theorem CS (h:Sim w0 G w s)(hb:s b=.row 3 1 xs)(hl:xs.length=n)(hi:i<n){v:Value}(hv:R G v (.mrw b n)) :
  ∃cap,(Instr.sliceAt 28 v (some (.int .i64 (i:Int))) none none).run Tryz.prog w=.ok (.slice (some ⟨b,i,none⟩) (n - i) (cap - i)) w /\
   ∀ty,(Builtin.clear_ #[28] ty #[.slice (some ⟨b,i,none⟩) (n - i) (cap - i)]).run Tryz.prog w=.ok (.tuple #[]) (w.setCells b i (List.replicate (n - i) (.int .i64 0))):=by
 cases hv with
 |mrw _ _ cap sz hq hn=>
  have hob:=h.ok b
  rw[hb]at hob
  obtain⟨hB,hK,c,cap',hc,hq',hcs,hle,hm,hx⟩:=hob
  rw[hq]at hq'
  injection hq' with hq'
  injection hq' with hq1 hq2
  subst hq1 hq2
  refine⟨cap,?_,fun ty=>?_⟩
  ·have hbs:=eN (P:=Tryz.prog) (w:=w) (G:=G) (isS:=true) (cap:=cap) (len:=n) (a:=i) (b:=n) (lo:=some (.int .i64 (i:Int))) (hi:=none) (ulo:=some (.int .i64 (i:Int))) (uhi:=none) (.int _ _) trivial (by simp[ce]) rfl (by omega) hn
   unfold Instr.sliceAt
   simp only[Sem.run_bind,run_underlying Tryz.underlying28,Result.andThen_ok]
   unfold Instr.slice
   simp only[Sem.run_bind,run_underlying Tryz.underlying28,Result.andThen_ok,hbs,Tryz.sizeOf3,Sem.run_pure]
   rw[if_neg (by omega)]
   simp[cI]
  ·refine run_clear_slice w 28 3 ty (.int .i64 0) Tryz.underlying28 Tryz.zeroValue3 rfl rfl b i (n - i) (cap - i) (by omega) (fun j hj=>?_) fun j hj=>?_
   ·have hjc:i+j<c.size:=by rw[hcs];omega
    simp only[World.cell?,hc]
    rw[Array.getElem?_eq_getElem hjc]
    rfl
   ·simp[World.frozen?,hc]
end
theorem my {P:Program}{ops:Array Oper}{Q:Exit->Act->World->Prop}{rest:List Oper}{o:Oper}{a:Act}{w w':World}{v:Value}(hg:o.guard=none)(hrun:(execOp a.eval o).run P w=.ok (.value v) w')(h:wpList P ops Q rest (a.put o.dst v) w'):wpList P ops Q (o::rest) a w:=by
 unfold wpList
 rw[if_pos (by simp[Region.wanted,hg])]
 refine .inl ?_
 unfold Oper.wp
 rw[hrun]
 exact h
theorem MW {D:List Deferred}{k:List Itm}{Q:Pst}{N:Nat}{env:Env}{s:St}{gb n i:Nat}{xs:List VV}{t1 t2 t3 t4:TypeId}{p1 p2 p3 p4:String}{a1 a2 a3 a4:Array Edge}(h0:env 0=.mrw gb n)(h5:env 5=.int .i64 (i:Int))(hg:s gb=.row 3 1 xs)(hl:xs.length=n)(hi:i<n)(hN:38<N)
  (h:∀v,Kp Tryz.prog N D k Q .norm (put N (put N (put N env (some 36) (.mrw gb n)) (some 37) (.int .i64 (i:Int))) (some 38) (.raw v)) (s.set gb (.row 3 1 (xs.take i)))) :
  Kp Tryz.prog N D (.code (.region 11 #[{ dst:=some 36,op:=.move (.tmp 0),type:=t1,pos:=p1,after:=a1,guard:=none },{ dst:=some 37,op:=.move (.tmp 5),type:=t2,pos:=p2,after:=a2,guard:=none },{ dst:=some 38,op:=.slice 28 (.tmp 36) (some (.tmp 37)) none none,type:=t3,pos:=p3,after:=a3,guard:=none },{ dst:=none,op:=.call { callee:=.builtin .clear,args:=#[.tmp 38],argTypes:=#[28] },type:=t4,pos:=p4,after:=a4,guard:=none }] false)::k) Q .norm env s:=by
 intro w0 G w a hf hD hS
 refine wp_region_list ?_
 have hv0:=hf.rel 0
 rw[h0]at hv0
 have f1:=hf.put (some 36) hv0
 refine my rfl (v:=a.tmps.getD 0 undef) rfl ?_
 dsimp only
 have hd1:(a.put (some 36) (a.tmps.getD 0 undef)).defers=D:=(dc _ _ _).trans hD
 generalize a.put (some 36) (a.tmps.getD 0 undef)=a1 at *
 have e5:put N env (some 36) (.mrw gb n) 5=.int .i64 (i:Int):=by
  simp only[put]
  rw[if_pos (show 36<N by omega)]
  exact h5
 have g5:=f1.rel 5
 rw[e5]at g5
 have f2:=f1.put (some 37) g5
 refine my rfl (v:=a1.tmps.getD 5 undef) rfl ?_
 dsimp only
 have hd2:(a1.put (some 37) (a1.tmps.getD 5 undef)).defers=D:=(dc _ _ _).trans hd1
 generalize a1.put (some 37) (a1.tmps.getD 5 undef)=a2 at *
 have g36:=f2.rel 36
 have g37:=f2.rel 37
 have e36:put N (put N env (some 36) (.mrw gb n)) (some 37) (.int .i64 (i:Int)) 36=.mrw gb n:=by
  simp only[put]
  rw[if_pos (show 37<N by omega),if_pos (show 36<N by omega)]
  rfl
 have e37:put N (put N env (some 36) (.mrw gb n)) (some 37) (.int .i64 (i:Int)) 37=.int .i64 (i:Int):=by
  simp only[put]
  rw[if_pos (show 37<N by omega)]
  rfl
 rw[e36]at g36
 rw[e37]at g37
 have h37:a2.tmps.getD 37 undef=.int .i64 (i:Int):=by generalize a2.tmps.getD 37 undef=v at g37;cases g37;rfl
 obtain⟨cap,r1,r2⟩:=CS hS hg hl hi g36
 rw[<- h37]at r1
 refine my rfl (v:=.slice (some ⟨gb,i,none⟩) (n - i) (cap - i)) (w':=w) ?_ ?_
 ·show (execOp a2.eval _).run _ _=_
  unfold execOp
  simp only[Option.map_some,Option.map_none,Sem.run_bind]
  rw[show (Instr.sliceAt 28 (a2.eval (.tmp 36)) (some (a2.eval (.tmp 37))) none none).run Tryz.prog w=_ from r1]
  rfl
 have f3:=f2.put (some 38) (R.raw (G:=G) (.slice (some ⟨gb,i,none⟩) (n - i) (cap - i)))
 have hd3:(a2.put (some 38) (.slice (some ⟨gb,i,none⟩) (n - i) (cap - i))).defers=D:=(dc _ _ _).trans hd2
 dsimp only
 generalize a2.put (some 38) (.slice (some ⟨gb,i,none⟩) (n - i) (cap - i))=a3 at *
 have g38:=f3.rel 38
 have e38:put N (put N (put N env (some 36) (.mrw gb n)) (some 37) (.int .i64 (i:Int))) (some 38) (.raw (.slice (some ⟨gb,i,none⟩) (n - i) (cap - i))) 38=.raw (.slice (some ⟨gb,i,none⟩) (n - i) (cap - i)):=by
  simp only[put]
  rw[if_pos (show 38<N by omega)]
  rfl
 rw[e38]at g38
 have h38:a3.tmps.getD 38 undef=.slice (some ⟨gb,i,none⟩) (n - i) (cap - i):=by generalize a3.tmps.getD 38 undef=v at g38;cases g38;rfl
 have hS1:=Sim.rows_junk (q_ _ _ _) (List.replicate (n - i) (.int .i64 0)) i _ (hS.row_take hg i) (by rw[r_];omega)
 have hev:a3.eval (.tmp 38)=.slice (some ⟨gb,i,none⟩) (n - i) (cap - i):=h38
 refine my rfl (v:=.tuple #[]) (w':=w.setCells gb i (List.replicate (n - i) (.int .i64 0))) ?_ ?_
 ·unfold execOp
  simp[resolve,invoke,builtin,hev,r2]
 ·exact⟨G,.norm,_,_,Gh.le.refl G,trivial,f3.put none (R.tup (G:=G) #[] [] rfl (fun j v y hv=>by simp at hv)),hd3,hS1,h _⟩
set_option maxHeartbeats 4000000 in
theorem M9 (s:St)(gb:Nat)(l:List Nat)(hg:s gb=.row 3 1 (dv l))(hn:l.length<=1000000000){g:FuncId}{caps:List VV}(canG:an Tryz.prog g)(p:Nat->Bool)(hp:∀(R:List VV) (d:Nat),R.length=l.length->SRet Tryz.prog g (.int .i64 (d:Int)::caps) (s.set gb (.row 3 1 R)) (.bool (p d)) (s.set gb (.row 3 1 R))) :
  SRet Tryz.prog 42 [.mrw gb l.length,.fn g caps] s (.mrw gb (c7 p l).length) (s.set gb (.row 3 1 (dv (c7 p l)))):=by
 have hil:=oz (l:=l)
 have wix:=QD s gb l hg hn canG p (fun d=>by have:=hp (dv l) d hil;rwa [v_ _ _ _ hg]at this)
 rcases zh p l with ⟨hx,hall⟩|⟨k,x,hx,hk,hpk,hall⟩
 ·rw[hx]at wix
  rw[oo hall,v_ _ _ _ hg]
  clear hp hall
  refine am Tryz.func42 rfl Tryz.ntmps42 rfl fun Q hQ hQe=>?_
  (repeat'(first|refine Ctl ?_|((with_reducible refine k_ hK ?_);clear hK hE K E)|((with_reducible refine ah (fun h=>?_) (fun h=>?_))<;>(try(exfalso;assumption)))|(((with_reducible first|refine ab fun K E hK hE=>?_|refine ae BD (wix) ?_))<;>(try simp(disch:=omega) only[go_sem,seval, *]))))
  all_goals(refine aq z6 hQ ?_)
  all_goals exact⟨_,_,Wk.refl _,Fg.refl _,rfl,rfl⟩
 ·rw[hx]at wix
  have hkl:k<l.length:=(x_.1 hk).1
  have hI:DelI p l (k+1) k (dv l):=by
   have e1:=oo hall
   have e2:=lj (p:=p) hk
   rw[hpk,if_pos rfl,List.append_nil,e1]at e2
   refine⟨hil,by rw[e2,r_];omega,by rw[e2];simp[dv,List.map_take],by simp[dv,List.map_drop],by omega⟩
  have HI:=o_ hI
  have HSG:=o_ (v_ s gb _ hg).symm
  have hne1:¬ (k:Int)=-1:=by omega
  clear hx hk hpk hall hI
  refine am Tryz.func42 rfl Tryz.ntmps42 rfl fun Q hQ hQe=>?_
  (repeat'(first|refine Ctl ?_|((with_reducible refine k_ hK ?_);clear hK hE K E)|((with_reducible refine ah (fun h=>?_) (fun h=>?_))<;>(try(exfalso;assumption)))|(((with_reducible first|refine ab fun K E hK hE=>?_|refine ae BD (wix) ?_))<;>(try simp(disch:=omega) only[go_sem,seval,hne1, *]))))
  refine aY (fun m env s'=>∃(j i:Nat) (R:List VV),j<=l.length/\m+j=l.length/\i<=1000000000/\Hid (DelI p l j i R)/\s'=s.set gb (.row 3 1 R)/\env 0=.mrw gb l.length/\env 1=.fn g caps/\env 5=.int .i64 (i:Int)/\env 6=.int .i64 (j:Int)) (l.length - (k+1))
   ⟨k+1,k,dv l,by omega,by omega,by omega,HI,HSG.out,ac,ac,ac,ac⟩ ?_
  clear HI HSG wix hne1 hkl
  rintro m env s' ⟨j,i,R,hj,hm,hi9,HI,rfl,e0,e1,e5,e6⟩
  by_cases hlt:j<l.length
  ·obtain⟨x,hx⟩:∃x,l[j]?=some x:=⟨_,m_ hlt⟩
   have hix:R[j * 1]?=some (.int .i64 (x:Int)):=by rw[Nat.mul_one];exact HI.out.at hx
   have hRl:=HI.out.len
   have hij:=HI.out.lt
   have w:=hp R x hRl
   cases hpx:p x with
   |true=>
    have HN:=o_ (HI.out.skip hx hpx)
    rw[hpx]at w
    clear hx hp
    (repeat'(first|refine Ctl ?_|((with_reducible refine k_ hK ?_);clear hK hE K E)|((with_reducible refine ah (fun h=>?_) (fun h=>?_))<;>(try(exfalso;assumption)))|(((with_reducible first|refine ab fun K E hK hE=>?_|refine ae canG (w) ?_|refine d6 ?_))<;>(try simp(disch:=omega) only[go_sem,seval,hRl,hix, *]))))
    all_goals exact⟨m - 1,by omega,j+1,i,R,by omega,by omega,by omega,HN,rfl,ac,ac,ac,ac⟩
   |false=>
    have HN:=o_ (HI.out.store hx hpx)
    rw[hpx]at w
    clear hx hp
    (repeat'(first|refine Ctl ?_|((with_reducible refine k_ hK ?_);clear hK hE K E)|((with_reducible refine ah (fun h=>?_) (fun h=>?_))<;>(try(exfalso;assumption)))|(((with_reducible first|refine ab fun K E hK hE=>?_|refine ae canG (w) ?_|refine d6 ?_|refine dP ?_))<;>(try simp(disch:=omega) only[go_sem,seval,hRl,hix, *]))))
    all_goals exact⟨m - 1,by omega,j+1,i+1,_,by omega,by omega,by omega,HN,rfl,ac,ac,ac,ac⟩
  ·have hjl:j=l.length:=by omega
   have h1:=HI.out
   rw[hjl]at h1
   have hij:=h1.lt
   have hnl:¬ (j:Int)<(l.length:Int):=by omega
   have hRl:=h1.len
   have hd:=h1.hd
   have hi:=h1.hi
   rw[b_]at hd hi
   have HRET:=o_ (And.intro hd hi)
   have hRt:(List.take i R).length=i:=by rw[r_];omega
   clear hp hlt h1 hd hi HI
   (repeat'(first|(with_reducible refine aR 11 ?_)|refine Ctl ?_|((with_reducible refine k_ hK ?_);clear hK hE K E)|((with_reducible refine ah (fun h=>?_) (fun h=>?_))<;>(try(exfalso;omega)))|(((with_reducible refine ab fun K E hK hE=>?_))<;>(try simp(disch:=omega) only[go_sem,seval,hnl, *]))))
   unfold bC
   refine MW (ac) (ac) (q_ _ _ _) hRl hij (by decide) (fun v=>?_)
   rw[St.set_set]
   simp only[go_sem,seval]
   (repeat'(first|refine Ctl ?_|((with_reducible refine k_ hK ?_);clear hK hE K E)|(((with_reducible first|refine ab fun K E hK hE=>?_|refine d6 ?_))<;>(try simp(disch:=omega) only[go_sem,seval,hRt, *]))))
   all_goals(refine aq z6 hQ ?_)
   all_goals refine⟨_,_,Wk.refl _,Fg.refl _,?_,?_⟩
   ·rw[HRET.out.2]
   ·rw[HRET.out.1]
end Go.Proofs.YtohnaepcgnbaiaaGreatDoor
namespace Go.Proofs.YtohnaepcgnbaiaaGreatDoor
open Go.RowKit
attribute [-go_sem] bJ cX bH bG aT cU cT
end Go.Proofs.YtohnaepcgnbaiaaGreatDoor
