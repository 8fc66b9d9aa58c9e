/- Walks. Conditions: in the statements. -/
import Derived.Test.YtohnaepcgnbaiaaGreatDoorJlEi
set_option maxHeartbeats 32000000
set_option linter.unusedSimpArgs false
set_option linter.unusedVariables false
set_option maxRecDepth 100000
namespace Go.Proofs.YtohnaepcgnbaiaaGreatDoor
open Go.RowKit
attribute [-go_sem] cX bH aT cU cT
def szC (ds:TN):Ta:=ds.map fun d=>[.int .i64 (d.2:Int)]
def spC (c q:Nat)(ds:TN)(a:VV):Tb:=[.ptr c 0,.ptr q 0,.lst (szC ds) .no,a,.int .i64 0]
structure RMem (s:St) (K:OB) (x m q c n B:Nat) (ns:Td) (ds:TN) (o:TU):Prop where
 C:CMem s K q c n B ns ds o
 sp:(m=x/\s x=.obj 73 (spC c q ds (.raw (.map none))))\/(∃me,s x=.obj 73 (spC c q ds (.mp m))/\s m=.map (mpZ mu me)/\AskOk ns me)
def kF (K:OB)(x m z:Nat):Prop:=K.has z\/z=x\/z=m
structure RKeep (s u:St) (K K':OB) (x m m':Nat):Prop where
 p:K'.s.p=K.s.p
 q:K'.s.q=K.s.q
 o:K'.o=K.o
 nw:∀z,kF K' x m' z->kF K x m z\/s z=.free
 out:∀z,s z≠.free->¬ kF K x m z->u z=s z
theorem RKeep.refl (s:St)(K:OB)(x m:Nat):RKeep s s K K x m m:=⟨rfl,rfl,rfl,fun _ h=>.inl h,fun _ _ _=>rfl⟩
theorem RKeep.trans {a b d:St}{K K' K'':OB}{x m m' m'':Nat}(h:RKeep a b K K' x m m')(k:RKeep b d K' K'' x m' m''):RKeep a d K K'' x m m'':=by
 refine⟨k.p.trans h.p,k.q.trans h.q,k.o.trans h.o,fun z hz=>?_,fun z hz hn=>?_⟩
 ·rcases k.nw z hz with e|e
  ·exact h.nw z e
  ·by_cases h1:kF K x m z
   ·exact .inl h1
   ·by_cases h2:a z=.free
    ·exact .inr h2
    ·have:=h.out z h2 h1
     rw[e]at this
     exact absurd this.symm h2
 ·have h1:=h.out z hz hn
  rw[<- h1]
  refine k.out z (by rw[h1];exact hz) fun h2=>?_
  rcases h.nw z h2 with e|e
  ·exact hn e
  ·exact hz e
section
variable {s u : St} {K K' : OB} {x m q c n B : Nat} {ns ns' : Td} {ds : List (TT × Nat)} {o : TU}
theorem RMem.xf (h:RMem s K x m q c n B ns ds o):∃a,s x=.obj 73 (spC c q ds a):=by
 rcases h.sp with ⟨_,e⟩|⟨me,e,_⟩<;>exact⟨_,e⟩
theorem RMem.xl (h:RMem s K x m q c n B ns ds o):s x≠.free:=by obtain⟨a,e⟩:=h.xf;rw[e];simp
theorem RMem.xk (h:RMem s K x m q c n B ns ds o):¬ K.has x:=by obtain⟨a,e⟩:=h.xf;exact h.C.om.types e (by decide) (by decide) (by decide)
theorem RMem.ml (h:RMem s K x m q c n B ns ds o):s m≠.free:=by
 rcases h.sp with ⟨e,_⟩|⟨me,_,e,_⟩
 ·rw[e];exact h.xl
 ·rw[e];simp
theorem RMem.mnk (h:RMem s K x m q c n B ns ds o):¬ K.has m:=by
 rcases h.sp with ⟨e,_⟩|⟨me,_,e,_⟩
 ·rw[e];exact h.xk
 ·exact h.C.om.nomap e
theorem RMem.live (h:RMem s K x m q c n B ns ds o){z:Nat}(hz:kF K x m z):s z≠.free:=by
 rcases hz with hz|rfl|rfl
 ·exact h.C.om.live hz
 ·exact h.xl
 ·exact h.ml
theorem RMem.more (h:RMem s K x m q c n B ns ds o)(hu:∀z,s z≠.free->u z=s z):RMem u K x m q c n B ns ds o:=by
 refine⟨⟨h.C.om.keep fun z hz=>hu z (h.C.om.live hz),(hu q (by rw[h.C.qo];simp)).trans h.C.qo,(hu c (by rw[h.C.co];simp)).trans h.C.co⟩,?_⟩
 rcases h.sp with ⟨e,e1⟩|⟨me,e1,e2,e3⟩
 ·exact .inl ⟨e,(hu x h.xl).trans e1⟩
 ·exact .inr ⟨me,(hu x h.xl).trans e1,(hu m h.ml).trans e2,e3⟩
theorem AskOk.app {me:TY}(h:AskOk ns me)(hp:∃l,ns'=ns++l):AskOk ns' me:=fun k w hk=>by
 obtain⟨u,h1,h2,h3⟩:=h k w hk
 exact⟨u,(bn hp h1).1,by rw[(bn hp h1).2];exact h2,h3⟩
theorem RMem.op (h:RMem s K x m q c n B ns ds o)(hm:OMem u K' n B ns')(hp:∃l,ns'=ns++l)(hk:OKeep s u K K'):RMem u K' x m q c n B ns' ds o:=by
 refine⟨h.C.keep hm hk,?_⟩
 rcases h.sp with ⟨e,e1⟩|⟨me,e1,e2,e3⟩
 ·exact .inl ⟨e,(hk.out x h.xl h.xk).trans e1⟩
 ·exact .inr ⟨me,(hk.out x h.xl h.xk).trans e1,(hk.out m h.ml h.mnk).trans e2,e3.app hp⟩
theorem RMem.kp (h:RMem s K x m q c n B ns ds o)(hk:OKeep s u K K'):RKeep s u K K' x m m:=
 ⟨hk.p,hk.q,hk.o,fun z hz=>by
  rcases hz with hz|hz|hz
  ·rcases hk.nw z hz with e|e
   ·exact .inl (.inl e)
   ·exact .inr e
  ·exact .inl (.inr (.inl hz))
  ·exact .inl (.inr (.inr hz)),fun z hz hn=>hk.out z hz fun e=>hn (.inl e)⟩
end
theorem O7:cv (.map none)=.raw (.map none):=rfl
attribute [go_sem] O7
theorem AskM.rm {u:St}{K:OB}{q x m c n B:Nat}{ns:Td}{ds:TN}{o:TU}{me:TY}(A:AskM u K q x m n B ns (.ptr c 0) (.lst (szC ds) .no) me)(hco:u c=.obj 132 [.ptr q 0,.lst (dx ds) .no,.lst (atC o) .no]):RMem u K x m q c n B ns ds o:=
 ⟨⟨A.om,A.qo,hco⟩,.inr ⟨me,A.xo,A.mo,A.ok⟩⟩
abbrev Qu:=St×Nat
theorem BX {s:St}{KK:OB}{x m q c n B:Nat}{ns:Td}{ds:TN}{o:TU}(hn64:n<=64)(hM:RMem s KK x m q c n B ns ds o){t:Tr}(ht:t∈ns)(vs:TW)(ow:Own)(hi:InV vs t)(hv:∀v,v∈vs->v<n)(hl:vs.length<=1000000) :
  SCalls Tryz.prog 64 [.ptr x 0,.int .i64 (ixN ns t:Nat),.lst (ak vs) ow] s fun w u=>∃a:Qu,w=.ret (.int .i64 0)/\u=a.1/\RMem a.1 KK x a.2 q c n B ns ds o/\RKeep s a.1 KK KK x m a.2:=by
 obtain⟨d,cc,ho⟩:=hM.C.om.op
 obtain⟨mk,hnm⟩:=hM.C.om.st.mem
 have wq:=dD s q KK.o KK.s.p hM.C.qo
 have ws:=eU s KK.o KK.s.p d cc ho
 have wn:=c8 s KK.s.p KK.s.g KK.s.q n B (ixN ns t) ns t mk 0 hnm (bS ht)
 have wv:=lA s KK.s.p KK.s.g KK.s.q n B ns mk 0 hnm
 have hok:=hM.C.om.st.ok.ok _ ht
 have ha:∀l:TW,l.foldl fF (cM t)<2 ^ 64:=fun l=>xC (Nat.lt_of_lt_of_le (kE hok) (Nat.pow_le_pow_right (by omega) hn64))
 have hz:((vs.foldl fF (cM t):Nat):Int)=0:=by rw[By hi];rfl
 have hvl:(ak vs).length=vs.length:=natsL_len
 have hat:=fun i k (h:vs[i]?=some k)=>aH h
 have HAT:=o_ hat
 have HA:=o_ ha
 have HM:=o_ hM
 have HV:=o_ hv
 have HT:=o_ ht
 have hxl:=hM.xl
 clear hat ha hnm ho hok hi hv
 obtain⟨R1,hR1⟩:∃z,z=aW n t:=⟨_,rfl⟩
 obtain⟨R2,hR2⟩:∃z,z=lowN ns t:=⟨_,rfl⟩
 obtain⟨R3,hR3⟩:∃z,z=highN ns t:=⟨_,rfl⟩
 rw[<- hR1,<- hR2,<- hR3]at wn
 clear hR1 hR2 hR3
 generalize hkk:ixN ns t=kk at *
 have HKK:=o_ hkk
 clear hkk
 generalize ak vs=V at *
 rcases hM.sp with ⟨hmx,hx⟩|⟨me,hx,hme,hak⟩
 ·unfold spC at hx
  clear hM ht
  generalize hSZ:szC ds=SZ at *
  have HSZ:=o_ hSZ
  clear hSZ
  refine am Tryz.func64 rfl Tryz.ntmps64 rfl fun Q hQ hQe=>?_
  (repeat'(first|refine Ctl ?_|((with_reducible refine k_ hK ?_);clear hK hE K E)|((with_reducible refine bZ (fun h=>?_) (fun h=>?_))<;>(try(exfalso;assumption)))|((first|(with_reducible first|refine ab fun K E hK hE=>?_|refine ae dK (wq) ?_|refine ae iv (ws) ?_|refine ae ey (wn) ?_|refine ae xE (wv) ?_)|((with_reducible refine au (fun b hb=>?_));(try(obtain⟨_,_⟩:=nef hb hxl))))<;>(try simp(disch:=omega) only[go_sem,seval, *]))))
  obtain⟨b0,hb0⟩:∃z,z=b:=⟨_,rfl⟩
  subst hb0
  have hbm:s b0=.free:=hb
  have HB0:=o_ hbm
  obtain⟨u0,hu0⟩:∃u,u=(s.set b0 (.map [])).set x (.obj 73 [.ptr c 0,.ptr q 0,.lst SZ .no,.mp b0,.int .i64 0]):=⟨_,rfl⟩
  rw[<- hu0]
  have hxb:x≠b0:=fun e=>hxl (e ▸ hbm)
  have g0:∀z,s z≠.free->z≠x->u0 z=s z:=fun z hz hzx=>by rw[hu0,j_ _ _ hzx,j_ _ _ (nef hbm hz).1]
  have gm:u0 b0=.map (mpZ mu []):=by rw[hu0,j_ _ _ (fun e=>hxb e.symm),q_];rfl
  have gx:u0 x=.obj 73 [.ptr c 0,.ptr q 0,.lst SZ .no,.mp b0,.int .i64 0]:=by rw[hu0,q_]
  have A0:AskM u0 KK q x b0 n B ns (.ptr c 0) (.lst SZ .no) []:=⟨HM.out.C.om.keep fun z hz=>g0 z (HM.out.C.om.live hz) fun e=>HM.out.xk (e ▸ hz),(g0 q (by rw[HM.out.C.qo];simp) fun e=>by have:=HM.out.C.qo;rw[e,hx]at this;cases this).trans HM.out.C.qo,gx,gm,fun k w hk=>by cases hk⟩
  have G0:=o_ g0
  clear hu0 g0 hbm hxb gm gx hx hb wq ws wn wv
  have w2:=mQ hn64 t HT.out A0
  unfold AskdC at w2
  rw[HKK.out]at w2
  refine ao rG w2 (fun a h=>?_)
  obtain⟨u1,me1⟩:=a
  obtain⟨A1,F1⟩:=h
  dsimp only at A1 F1 ⊢
  have HA1:=o_ A1
  have HF1:=o_ F1
  clear w2 A0 A1 F1
  simp only[go_sem,seval]
  (repeat'(first|refine Ctl ?_|((with_reducible refine k_ hK ?_);clear hK hE K E)|((first|(with_reducible refine ab fun K E hK hE=>?_)|((with_reducible refine au (fun b hb=>?_))))<;>(try simp(disch:=omega) only[go_sem,seval,hvl, *]))))
  obtain⟨bl,hbl⟩:∃z,z=b:=⟨_,rfl⟩
  subst hbl
  have HBL:Hid (u1 bl=.free):=o_ hb
  refine aY (fun m env s'=>∃(i:Nat),i<=vs.length/\m+i=vs.length/\s'=u1.set bl (.obj 171 [.int .u64 (((vs.take i).foldl fF (cM t):Nat):Int),.int .u64 0,.int .u64 0,.int .u64 0])/\env 13=.ptr bl 0/\env 59=.lst V ow/\env 60=.int .i64 vs.length/\env 61=.int .i64 i) vs.length
   ⟨0,by omega,by omega,rfl,ac,ac,ac,ac⟩ ?_
  rintro f env s' ⟨i,hi,hmi,rfl,e13,e59,e60,e61⟩
  by_cases h2:i<vs.length
  ·have hk:=m_ h2
   have hx:=HAT.out _ _ hk
   have hvn:=HV.out _ (y_ hk)
   have e:(vs.take (i+1)).foldl fF (cM t)=fF ((vs.take i).foldl fF (cM t)) vs[i]:=by rw[List.take_add_one,hk,Option.toList,List.foldl_append];rfl
   have f3:=Ay (v:=vs[i]) (by omega)
   have f4:=Av (v:=vs[i]) (by omega)
   have f5:=zF (v:=vs[i]) (by omega)
   have f6:=tR (v:=vs[i]) (HA.out (vs.take i)) (by omega)
   clear hk
   generalize vs[i]=v at *
   generalize (vs.take i).foldl fF (cM t)=a0 at *
   have HE:=o_ e
   clear e
   (repeat'(first|refine Ctl ?_|(with_reducible first|(refine k_ hK ?_;clear hK hE K E)|(refine k_ hKh ?_;clear hKh Kh)|(refine k_ hKb (aC ?_);clear hKb Kb)|refine ax 12 [([0,1,2,3,4,5,6,7,8],9,[[]])] [] hQe fun K E hK hE=>?_)|((with_reducible refine bZ (fun h=>?_) (fun h=>?_))<;>(try(exfalso;assumption)))|(((with_reducible first|refine ab fun K E hK hE=>?_|refine ay fun Kh hKh=>?_|refine aG fun Kh hKh=>?_|refine aB fun Kb hKb=>?_))<;>(try simp(disch:=omega) only[go_sem,seval,hx,f3,f4,f5,f6, *]))))
   all_goals exact⟨f - 1,by omega,i+1,by omega,by omega,by rw[HE.out],ac,ac,ac,ac⟩
  ·have hin:i=vs.length:=by omega
   rw[hin,b_,hz]
   (repeat'(first|refine Ctl ?_|((with_reducible refine k_ hK ?_);clear hK hE K E)|((with_reducible refine bZ (fun h=>?_) (fun h=>?_))<;>(try(exfalso;first|assumption|omega)))|(((with_reducible refine ab fun K E hK hE=>?_))<;>(try simp(disch:=omega) only[go_sem,seval, *]))))
   all_goals(refine aq zZ hQ ?_)
   have A:=HA1.out
   rw[<- HSZ.out]at A
   have hC:=HM.out.C
   have hbm':s b0=.free:=HB0.out
   have hcx:c≠x:=fun e=>by obtain⟨a,e2⟩:=HM.out.xf;have:=hC.co;rw[e,e2]at this;cases this
   have hcb:c≠b0:=fun e=>by have:=hC.co;rw[e,hbm']at this;cases this
   have c0:=G0.out c (by rw[hC.co];simp) hcx
   have c1:=(HF1.out c (by rw[c0,hC.co];simp) hcb).trans (c0.trans hC.co)
   refine⟨_,_,Wk.refl _,w_ _ HBL.out,(u1,b0),rfl,rfl,A.rm c1,rfl,rfl,rfl,fun z hz=>?_,fun z hz hn=>?_⟩
   ·rcases hz with e|e|e
    ·exact .inl (.inl e)
    ·exact .inl (.inr (.inl e))
    ·exact .inr (e ▸ hbm')
   ·have e1:=G0.out z hz fun e=>hn (.inr (.inl e))
    exact(HF1.out z (by rw[e1];exact hz) fun e=>hz (e ▸ hbm')).trans e1
 ·unfold spC at hx
  clear hM ht
  have hml:s m≠.free:=by rw[hme];simp
  generalize hSZ:szC ds=SZ at *
  have HSZ:=o_ hSZ
  clear hSZ
  refine am Tryz.func64 rfl Tryz.ntmps64 rfl fun Q hQ hQe=>?_
  (repeat'(first|refine Ctl ?_|((with_reducible refine k_ hK ?_);clear hK hE K E)|((with_reducible refine bZ (fun h=>?_) (fun h=>?_))<;>(try(exfalso;assumption)))|(((with_reducible first|refine ab fun K E hK hE=>?_|refine ae dK (wq) ?_|refine ae iv (ws) ?_|refine ae ey (wn) ?_|refine ae xE (wv) ?_))<;>(try simp(disch:=omega) only[go_sem,seval, *]))))
  have A0:AskM s KK q x m n B ns (.ptr c 0) (.lst SZ .no) me:=⟨HM.out.C.om,HM.out.C.qo,hx,hme,hak⟩
  have HME:=o_ hme
  clear hx hme hak wq ws wn wv
  have w2:=mQ hn64 t HT.out A0
  unfold AskdC at w2
  rw[HKK.out]at w2
  refine ao rG w2 (fun a h=>?_)
  obtain⟨u1,me1⟩:=a
  obtain⟨A1,F1⟩:=h
  dsimp only at A1 F1 ⊢
  have HA1:=o_ A1
  have HF1:=o_ F1
  clear w2 A0 A1 F1
  simp only[go_sem,seval]
  (repeat'(first|refine Ctl ?_|((with_reducible refine k_ hK ?_);clear hK hE K E)|((first|(with_reducible refine ab fun K E hK hE=>?_)|((with_reducible refine au (fun b hb=>?_))))<;>(try simp(disch:=omega) only[go_sem,seval,hvl, *]))))
  obtain⟨bl,hbl⟩:∃z,z=b:=⟨_,rfl⟩
  subst hbl
  have HBL:Hid (u1 bl=.free):=o_ hb
  refine aY (fun m env s'=>∃(i:Nat),i<=vs.length/\m+i=vs.length/\s'=u1.set bl (.obj 171 [.int .u64 (((vs.take i).foldl fF (cM t):Nat):Int),.int .u64 0,.int .u64 0,.int .u64 0])/\env 13=.ptr bl 0/\env 59=.lst V ow/\env 60=.int .i64 vs.length/\env 61=.int .i64 i) vs.length
   ⟨0,by omega,by omega,rfl,ac,ac,ac,ac⟩ ?_
  rintro f env s' ⟨i,hi,hmi,rfl,e13,e59,e60,e61⟩
  by_cases h2:i<vs.length
  ·have hk:=m_ h2
   have hx:=HAT.out _ _ hk
   have hvn:=HV.out _ (y_ hk)
   have e:(vs.take (i+1)).foldl fF (cM t)=fF ((vs.take i).foldl fF (cM t)) vs[i]:=by rw[List.take_add_one,hk,Option.toList,List.foldl_append];rfl
   have f3:=Ay (v:=vs[i]) (by omega)
   have f4:=Av (v:=vs[i]) (by omega)
   have f5:=zF (v:=vs[i]) (by omega)
   have f6:=tR (v:=vs[i]) (HA.out (vs.take i)) (by omega)
   clear hk
   generalize vs[i]=v at *
   generalize (vs.take i).foldl fF (cM t)=a0 at *
   have HE:=o_ e
   clear e
   (repeat'(first|refine Ctl ?_|(with_reducible first|(refine k_ hK ?_;clear hK hE K E)|(refine k_ hKh ?_;clear hKh Kh)|(refine k_ hKb (aC ?_);clear hKb Kb)|refine ax 12 [([0,1,2,3,4,5,6,7,8],9,[[]])] [] hQe fun K E hK hE=>?_)|((with_reducible refine bZ (fun h=>?_) (fun h=>?_))<;>(try(exfalso;assumption)))|(((with_reducible first|refine ab fun K E hK hE=>?_|refine ay fun Kh hKh=>?_|refine aG fun Kh hKh=>?_|refine aB fun Kb hKb=>?_))<;>(try simp(disch:=omega) only[go_sem,seval,hx,f3,f4,f5,f6, *]))))
   all_goals exact⟨f - 1,by omega,i+1,by omega,by omega,by rw[HE.out],ac,ac,ac,ac⟩
  ·have hin:i=vs.length:=by omega
   rw[hin,b_,hz]
   (repeat'(first|refine Ctl ?_|((with_reducible refine k_ hK ?_);clear hK hE K E)|((with_reducible refine bZ (fun h=>?_) (fun h=>?_))<;>(try(exfalso;first|assumption|omega)))|(((with_reducible refine ab fun K E hK hE=>?_))<;>(try simp(disch:=omega) only[go_sem,seval, *]))))
   all_goals(refine aq zZ hQ ?_)
   have A:=HA1.out
   rw[<- HSZ.out]at A
   have hC:=HM.out.C
   have hcm:c≠m:=fun e=>by have:=hC.co;rw[e,HME.out]at this;cases this
   have c1:=(HF1.out c (by rw[hC.co];simp) hcm).trans hC.co
   exact⟨_,_,Wk.refl _,w_ _ HBL.out,(u1,m),rfl,rfl,A.rm c1,rfl,rfl,rfl,fun z hz=>.inl hz,fun z hz hn=>HF1.out z hz fun e=>hn (.inr (.inr e))⟩
end Go.Proofs.YtohnaepcgnbaiaaGreatDoor
namespace Go.Proofs.YtohnaepcgnbaiaaGreatDoor
open Go.RowKit
def ixA {α:Type}[DecidableEq α](n:α):List α->Int
 |[]=>-1
 |x::l=>if n=x then 0 else(if ixA n l<0 then -1 else ixA n l+1)
section
variable {α : Type} [DecidableEq α]
theorem ot {n:α}:∀{l:List α},(∀x,x∈l->¬ n=x)->ixA n l=-1
 |[],_=>rfl
 |x::l,h=>by
  simp only[ixA]
  rw[if_neg (h x (by simp)),ot fun y hy=>h y (by simp[hy])]
  rfl
theorem vg {n:α}:∀{l:List α} {i:Nat},(∀x,x∈l.take i->¬ n=x)->l[i]?=some n->ixA n l=i
 |[],i,_,h=>by simp at h
 |x::l,0,_,h=>by simp at h;subst h;simp[ixA]
 |x::l,i+1,ha,h=>by
  have h1:¬ n=x:=ha x (by simp)
  have h2:=vg (l:=l) (i:=i) (fun z hz=>ha z (by simp[hz])) (by simpa using h)
  simp only[ixA]
  rw[if_neg h1,h2,if_neg (by omega)]
  omega
theorem xh (n:α):∀l:List α,decide (0<=ixA n l)=decide (n∈l)
 |[]=>by simp[ixA]
 |x::l=>by
  have ih:=xh n l
  by_cases hx:n=x
  ·subst hx;simp[ixA]
  ·have e:ixA n (x::l)=if ixA n l<0 then -1 else ixA n l+1:=by simp only[ixA];rw[if_neg hx]
   have m:n∈x::l↔n∈l:=by simp[hx]
   rw[e,decide_eq_decide,m,<- decide_eq_decide.1 ih]
   split<;>(constructor<;>intro h<;>omega)
end
theorem iD {l:TV}{i:Nat}{x:TT}(h:l[i]?=some x):(az l)[i]?=some [.str x]:=by simp[az,h]
theorem dj (l:TV):(az l).length=l.length:=by simp[az]
theorem xW (l:TV)(o:Own)(n:TT)(hn:l.length<=1000000000)(s:St):SRet Tryz.prog 30 [.lst (az l) o,.str n] s (.int .i64 (ixA n l)) s:=by
 have hsl:=dj l
 refine am Tryz.func30 rfl Tryz.ntmps30 rfl fun Q hQ hQe=>?_
 (repeat'(first|refine Ctl ?_|((with_reducible refine k_ hK ?_);clear hK hE K E)|(((with_reducible refine ab fun K E hK hE=>?_))<;>(try simp(disch:=omega) only[go_sem,seval,hsl, *]))))
 refine aY (fun m env s'=>∃(i:Nat),i<=l.length/\m+i=l.length/\(∀x,x∈l.take i->¬ n=x)/\s'=s/\env 0=.lst (az l) o/\env 1=.str n/\env 7=.int .i64 l.length/\env 8=.int .i64 i) l.length
  ⟨0,by omega,by omega,by simp,rfl,ac,ac,ac,ac⟩ ?_
 rintro m env s' ⟨i,hi,hm,hall,rfl,e0,e1,e7,e8⟩
 by_cases hlt:i<l.length
 ·obtain⟨x,hx⟩:∃x,l[i]?=some x:=⟨_,m_ hlt⟩
  have hsx:=iD hx
  have htake:l.take (i+1)=l.take i++[x]:=by rw[List.take_add_one,hx];rfl
  by_cases hnx:n=x
  ·subst hnx
   have hres:=vg hall hx
   clear hall htake hx
   (repeat'(first|refine Ctl ?_|((with_reducible refine k_ hK ?_);clear hK hE K E)|((with_reducible refine bZ (fun h=>?_) (fun h=>?_))<;>(try(exfalso;assumption)))|(((with_reducible refine ab fun K E hK hE=>?_))<;>(try simp(disch:=omega) only[go_sem,seval,hsl,hsx, *]))))
   all_goals(refine aq Ab hQ ?_)
   all_goals(refine⟨_,_,Wk.of_eq ?_,?_,rfl,rfl⟩)
   all_goals first|(exact bK)|(rw[hres];done)
  ·have hall2:∀y,y∈l.take (i+1)->¬ n=y:=fun y hy=>by
    rw[htake]at hy
    rcases f_.1 hy with hy|hy
    ·exact hall y hy
    ·rw[a_]at hy;subst hy;exact hnx
   clear hall htake hx
   (repeat'(first|refine Ctl ?_|((with_reducible refine k_ hK ?_);clear hK hE K E)|((with_reducible refine bZ (fun h=>?_) (fun h=>?_))<;>(try(exfalso;assumption)))|(((with_reducible refine ab fun K E hK hE=>?_))<;>(try simp(disch:=omega) only[go_sem,seval,hsl,hsx, *]))))
   all_goals exact⟨m - 1,by omega,i+1,by omega,by omega,hall2,rfl,ac,ac,ac,ac⟩
 ·have hres:ixA n l=-1:=ot (by
   have:l.take i=l:=s_ (by omega)
   rw[this]at hall
   exact hall)
  clear hall
  (repeat'(first|refine Ctl ?_|((with_reducible refine k_ hK ?_);clear hK hE K E)|((with_reducible refine bZ (fun h=>?_) (fun h=>?_))<;>(try(exfalso;assumption)))|(((with_reducible refine ab fun K E hK hE=>?_))<;>(try simp(disch:=omega) only[go_sem,seval,hsl, *]))))
  all_goals(refine aq Ab hQ ?_)
  all_goals(refine⟨_,_,Wk.of_eq ?_,?_,rfl,rfl⟩)
  all_goals first|(exact bK)|(rw[hres];done)
theorem QC (l:TW)(o:Own)(n:Nat)(hn:l.length<=1000000000)(s:St):SRet Tryz.prog 65 [.lst (ak l) o,.int .i64 n] s (.int .i64 (ixA n l)) s:=by
 have hsl:=natsL_len (ks:=l)
 refine am Tryz.func65 rfl Tryz.ntmps65 rfl fun Q hQ hQe=>?_
 (repeat'(first|refine Ctl ?_|((with_reducible refine k_ hK ?_);clear hK hE K E)|(((with_reducible refine ab fun K E hK hE=>?_))<;>(try simp(disch:=omega) only[go_sem,seval,hsl, *]))))
 refine aY (fun m env s'=>∃(i:Nat),i<=l.length/\m+i=l.length/\(∀x,x∈l.take i->¬ n=x)/\s'=s/\env 0=.lst (ak l) o/\env 1=.int .i64 n/\env 7=.int .i64 l.length/\env 8=.int .i64 i) l.length
  ⟨0,by omega,by omega,by simp,rfl,ac,ac,ac,ac⟩ ?_
 rintro m env s' ⟨i,hi,hm,hall,rfl,e0,e1,e7,e8⟩
 by_cases hlt:i<l.length
 ·obtain⟨x,hx⟩:∃x,l[i]?=some x:=⟨_,m_ hlt⟩
  have hsx:=aH hx
  have htake:l.take (i+1)=l.take i++[x]:=by rw[List.take_add_one,hx];rfl
  by_cases hnx:n=x
  ·subst hnx
   have hres:=vg hall hx
   clear hall htake hx
   (repeat'(first|refine Ctl ?_|((with_reducible refine k_ hK ?_);clear hK hE K E)|((with_reducible refine bZ (fun h=>?_) (fun h=>?_))<;>(try(exfalso;assumption)))|(((with_reducible refine ab fun K E hK hE=>?_))<;>(try simp(disch:=omega) only[go_sem,seval,hsl,hsx, *]))))
   all_goals(refine aq zY hQ ?_)
   all_goals(refine⟨_,_,Wk.of_eq ?_,?_,rfl,rfl⟩)
   all_goals first|(exact bK)|(rw[hres];done)
  ·have hall2:∀y,y∈l.take (i+1)->¬ n=y:=fun y hy=>by
    rw[htake]at hy
    rcases f_.1 hy with hy|hy
    ·exact hall y hy
    ·rw[a_]at hy;subst hy;exact hnx
   have hnx2:¬ (n:Int)=(x:Int):=by omega
   clear hall htake hx
   (repeat'(first|refine Ctl ?_|((with_reducible refine k_ hK ?_);clear hK hE K E)|((with_reducible refine bZ (fun h=>?_) (fun h=>?_))<;>(try(exfalso;assumption)))|(((with_reducible refine ab fun K E hK hE=>?_))<;>(try simp(disch:=omega) only[go_sem,seval,hsl,hsx,hnx2, *]))))
   all_goals exact⟨m - 1,by omega,i+1,by omega,by omega,hall2,rfl,ac,ac,ac,ac⟩
 ·have hres:ixA n l=-1:=ot (by
   have:l.take i=l:=s_ (by omega)
   rw[this]at hall
   exact hall)
  clear hall
  (repeat'(first|refine Ctl ?_|((with_reducible refine k_ hK ?_);clear hK hE K E)|((with_reducible refine bZ (fun h=>?_) (fun h=>?_))<;>(try(exfalso;assumption)))|(((with_reducible refine ab fun K E hK hE=>?_))<;>(try simp(disch:=omega) only[go_sem,seval,hsl, *]))))
  all_goals(refine aq zY hQ ?_)
  all_goals(refine⟨_,_,Wk.of_eq ?_,?_,rfl,rfl⟩)
  all_goals first|(exact bK)|(rw[hres];done)
theorem rR (l:TW)(o:Own)(n:Nat)(hn:l.length<=1000000000)(s:St):SRet Tryz.prog 31 [.lst (ak l) o,.int .i64 n] s (.bool (decide (n∈l))) s:=by
 have h1:=QC l o n hn
 have h2:=xh n l
 refine am Tryz.func31 rfl Tryz.ntmps31 rfl fun Q hQ hQe=>?_
 (repeat'(first|refine Ctl ?_|((with_reducible refine k_ hK ?_);clear hK hE K E)|(((with_reducible first|refine ab fun K E hK hE=>?_|refine ae P8 (h1 _) ?_))<;>(try simp(disch:=omega) only[go_sem,seval,h2, *]))))
 all_goals(refine aq Gj hQ ?_)
 all_goals(refine⟨_,_,Wk.of_eq ?_,?_,rfl,rfl⟩)
 all_goals(exact bK)
theorem QG (a b:TW)(o o2:Own)(hn:a.length<=1000000000)(s:St):SRet Tryz.prog 66 [.lst (ak a) o,.lst (ak b) o2] s (.bool (decide (a=b))) s:=by
 have hal:=natsL_len (ks:=a)
 have hbl:=natsL_len (ks:=b)
 by_cases hl:a.length=b.length
 ·have hl2:(ak b).length=a.length:=by rw[hbl,hl]
  refine am Tryz.func66 rfl Tryz.ntmps66 rfl fun Q hQ hQe=>?_
  (repeat'(first|refine Ctl ?_|((with_reducible refine k_ hK ?_);clear hK hE K E)|((with_reducible refine bZ (fun h=>?_) (fun h=>?_))<;>(try(exfalso;assumption)))|(((with_reducible refine ab fun K E hK hE=>?_))<;>(try simp(disch:=omega) only[go_sem,seval,hal,hl2, *]))))
  refine aY (fun m env s'=>∃(i:Nat),i<=a.length/\m+i=a.length/\a.take i=b.take i/\s'=s/\env 0=.lst (ak a) o/\env 1=.lst (ak b) o2/\env 12=.int .i64 a.length/\env 13=.int .i64 i) a.length
   ⟨0,by omega,by omega,by simp,rfl,ac,ac,ac,ac⟩ ?_
  rintro m env s' ⟨i,hi,hm,hall,rfl,e0,e1,e12,e13⟩
  by_cases hlt:i<a.length
  ·obtain⟨x,hx⟩:∃x,a[i]?=some x:=⟨_,m_ hlt⟩
   obtain⟨y,hy⟩:∃y,b[i]?=some y:=⟨_,m_ (by omega)⟩
   have hsx:=aH hx
   have hsy:=aH hy
   by_cases hxy:x=y
   ·subst hxy
    have h2:a.take (i+1)=b.take (i+1):=by rw[List.take_add_one,List.take_add_one,hall,hx,hy]
    clear hall hx hy
    (repeat'(first|refine Ctl ?_|(with_reducible first|(refine k_ hK ?_;clear hK hE K E)|(refine k_ hKh ?_;clear hKh Kh)|refine ax 6 [] [0,1,2,3,4,5,6,7,8] hQe fun K E hK hE=>?_)|((with_reducible refine bZ (fun h=>?_) (fun h=>?_))<;>(try(exfalso;first|assumption|omega)))|(((with_reducible first|refine ab fun K E hK hE=>?_|refine aG fun Kh hKh=>?_))<;>(try simp(disch:=omega) only[go_sem,seval,hal,hl2,hsx,hsy, *]))))
    all_goals exact⟨m - 1,by omega,i+1,by omega,by omega,h2,rfl,ac,ac,ac,ac⟩
   ·have hres:decide (a=b)=false:=decide_eq_false fun e=>hxy (by rw[e,hy]at hx;injection hx with hx;exact hx.symm)
    have hxy2:¬ (x:Int)=(y:Int):=by omega
    clear hall hx hy
    (repeat'(first|refine Ctl ?_|(with_reducible first|(refine k_ hK ?_;clear hK hE K E)|(refine k_ hKh ?_;clear hKh Kh)|refine ax 6 [] [0,1,2,3,4,5,6,7,8] hQe fun K E hK hE=>?_)|((with_reducible refine bZ (fun h=>?_) (fun h=>?_))<;>(try(exfalso;first|assumption|omega)))|(((with_reducible first|refine ab fun K E hK hE=>?_|refine aG fun Kh hKh=>?_))<;>(try simp(disch:=omega) only[go_sem,seval,hal,hl2,hsx,hsy,hxy2, *]))))
    all_goals(refine aq wQ hQ ?_)
    all_goals(refine⟨_,_,Wk.of_eq ?_,?_,rfl,rfl⟩)
    all_goals first|(exact bK)|(rw[hres];done)
  ·have hres:decide (a=b)=true:=decide_eq_true (by
    have:i=a.length:=by omega
    rw[this,b_]at hall
    rw[hall,hl,b_])
   clear hall
   (repeat'(first|refine Ctl ?_|((with_reducible refine k_ hK ?_);clear hK hE K E)|((with_reducible refine bZ (fun h=>?_) (fun h=>?_))<;>(try(exfalso;omega)))|(((with_reducible refine ab fun K E hK hE=>?_))<;>(try simp(disch:=omega) only[go_sem,seval,hal,hl2, *]))))
   all_goals(refine aq wQ hQ ?_)
   all_goals(refine⟨_,_,Wk.of_eq ?_,?_,rfl,rfl⟩)
   all_goals first|(exact bK)|(rw[hres];done)
 ·have hres:decide (a=b)=false:=decide_eq_false fun e=>hl (by rw[e])
  have hl3:¬ (a.length:Int)=(b.length:Int):=by omega
  refine am Tryz.func66 rfl Tryz.ntmps66 rfl fun Q hQ hQe=>?_
  (repeat'(first|refine Ctl ?_|((with_reducible refine k_ hK ?_);clear hK hE K E)|((with_reducible refine bZ (fun h=>?_) (fun h=>?_))<;>(try(exfalso;assumption)))|(((with_reducible refine ab fun K E hK hE=>?_))<;>(try simp(disch:=omega) only[go_sem,seval,hal,hbl,hl3, *]))))
  all_goals(refine aq wQ hQ ?_)
  all_goals(refine⟨_,_,Wk.of_eq ?_,?_,rfl,rfl⟩)
  all_goals first|(exact bK)|(rw[hres];done)
def bi (l:TV):Prop:=l.Nodup/\(∀a,a∈l->1<=a.length/\a.length<=16)/\l.length<=8
def g9 (l:TV):List (TT×Bool):=l.map fun a=>(a,true)
theorem nB {k:TT}:∀{l:TV},k∉l->lkA k (g9 l)=none
 |[],_=>rfl
 |a::l,h=>by
  simp only[g9,List.map_cons,lkA]
  rw[if_neg fun e=>h (by simp[e])]
  exact nB fun e=>h (List.mem_cons_of_mem _ e)
theorem nA {k:TT}:∀{l:TV},k∉l->ptA k true (g9 l)=g9 (l++[k])
 |[],_=>rfl
 |a::l,h=>by
  have ih:=nA (k:=k) (l:=l) fun e=>h (List.mem_cons_of_mem _ e)
  simp only[g9,List.map_cons,ptA,List.cons_append]at ih ⊢
  rw[if_neg fun e=>h (by simp[e]),ih]
theorem xV (s:St)(l:TV)(ow:Own)(hl:bi l):SRet Tryz.prog 46 [.lst (az l) ow] s (.bool true) s:=by
 have hsl:=dj l
 have hat:=fun i x (h:l[i]?=some x)=>iD h
 have HAT:=o_ hat
 have HL:=o_ hl
 have h8:(l.length:Int)<=8:=by have:=hl.2.2;omega
 clear hat hl
 generalize az l=V at *
 refine am Tryz.func46 rfl Tryz.ntmps46 rfl fun Q hQ hQe=>?_
 (repeat'(first|refine Ctl ?_|((with_reducible refine k_ hK ?_);clear hK hE K E)|((first|(with_reducible refine ab fun K E hK hE=>?_)|((with_reducible refine au (fun b hb=>?_))))<;>(try simp(disch:=omega) only[go_sem,seval,hsl, *]))))
 obtain⟨bm,hbm⟩:∃z,z=b:=⟨_,rfl⟩
 subst hbm
 have HBM:Hid (s bm=.free):=o_ hb
 refine aY (fun m env s'=>∃(i:Nat),i<=l.length/\m+i=l.length/\s'=s.set bm (.map (mpV bP (g9 (l.take i))))/\env 0=.lst V ow/\env 3=.mp bm/\env 7=.lst V ow/\env 8=.int .i64 l.length/\env 9=.int .i64 i) l.length
  ⟨0,by omega,by omega,rfl,ac,ac,ac,ac,ac⟩ ?_
 rintro m env s' ⟨i,hi,hmi,rfl,e0,e3,e7,e8,e9⟩
 by_cases h2:i<l.length
 ·have hk:=m_ h2
  have hx:=HAT.out _ _ hk
  generalize l[i]=a at hk hx
  have htk:l.take (i+1)=l.take i++[a]:=by rw[List.take_add_one,hk];rfl
  have hno:a∉l.take i:=fun hin=>by
   have h1:(l.take (i+1)).Nodup:=HL.out.1.sublist (List.take_sublist _ _)
   rw[htk,List.nodup_append]at h1
   exact h1.2.2 a hin a (by simp) rfl
  have hpt:=nA hno
  rw[<- htk]at hpt
  have hlk:(lkA a (g9 (l.take i))).getD false=false:=by rw[nB hno];rfl
  obtain⟨a1,a2⟩:=HL.out.2.1 a (y_ hk)
  have ha1:¬ a=[]:=fun e=>by rw[e]at a1;simp at a1
  have ha2:¬ (a.length:Int) > 16:=by omega
  clear hk htk hno a1 a2
  (repeat'(first|refine Ctl ?_|((with_reducible refine k_ hK ?_);clear hK hE K E)|((with_reducible refine bZ (fun h=>?_) (fun h=>?_))<;>(try(exfalso;assumption)))|(((with_reducible refine ab fun K E hK hE=>?_))<;>(try simp(disch:=omega) only[go_sem,seval,hx,hlk,hpt,ha1,ha2, *]))))
  all_goals exact⟨m - 1,by omega,i+1,by omega,by omega,rfl,ac,ac,ac,ac,ac⟩
 ·(repeat'(first|refine Ctl ?_|((with_reducible refine k_ hK ?_);clear hK hE K E)|((with_reducible refine bZ (fun h=>?_) (fun h=>?_))<;>(try(exfalso;assumption)))|(((with_reducible refine ab fun K E hK hE=>?_))<;>(try simp(disch:=omega) only[go_sem,seval,hsl,h8, *]))))
  all_goals(refine aq Gb hQ ?_)
  all_goals exact⟨_,_,Wk.refl _,w_ _ HBM.out,rfl,rfl⟩
end Go.Proofs.YtohnaepcgnbaiaaGreatDoor
