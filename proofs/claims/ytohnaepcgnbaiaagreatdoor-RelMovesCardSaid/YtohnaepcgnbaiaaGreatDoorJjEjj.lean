/- Walks of functions that the claim reaches, and plain facts of them. Conditions: those in the statements. -/
import Derived.Test.YtohnaepcgnbaiaaGreatDoorJjEi
import Derived.Test.YtohnaepcgnbaiaaGreatDoorJjItj
import Derived.Test.YtohnaepcgnbaiaaGreatDoorJjGpj
set_option linter.unusedSimpArgs false
set_option linter.unusedVariables false
set_option maxRecDepth 100000
namespace Go.Proofs.YtohnaepcgnbaiaaGreatDoor
open Go.RowKit
attribute [-go_sem] p_or p_shl p_andNot p_quo p_rem
def szC (ds:List (List UInt8×Nat)):List (List VV):=ds.map fun d=>[.int .i64 (d.2:Int)]
def spC (c q:Nat)(ds:List (List UInt8×Nat))(a:VV):List VV:=[.ptr c 0,.ptr q 0,.lst (szC ds) .no,a,.int .i64 0]
structure RMem (s:St) (K:OB) (x m q c n B:Nat) (ns:List Tr) (ds:List (List UInt8×Nat)) (o:List (List Nat)):Prop where
 C:CMem s K q c n B ns ds o
 sp:(m=x∧s x=.obj 73 (spC c q ds (.raw (.map none))))∨(∃me,s x=.obj 73 (spC c q ds (.mp m))∧s m=.map (mpZ encA me)∧AskOk ns me)
def RHas (K:OB)(x m z:Nat):Prop:=K.has z∨z=x∨z=m
structure RKeep (s u:St) (K K':OB) (x m m':Nat):Prop where
 p:K'.s.p=K.s.p
 q:K'.s.q=K.s.q
 o:K'.o=K.o
 nw:∀z,RHas K' x m' z→RHas K x m z∨s z=.free
 out:∀z,s z≠.free→¬ RHas K x m z→u z=s z
theorem RKeep.refl (s:St)(K:OB)(x m:Nat):RKeep s s K K x m m:=⟨rfl,rfl,rfl,fun _ h=>.inl h,fun _ _ _=>rfl⟩
theorem RKeep.trans {a b d:St}{K K' K'':OB}{x m m' m'':Nat}(h:RKeep a b K K' x m m')(k:RKeep b d K' K'' x m' m''):RKeep a d K K'' x m m'':=by
 refine⟨k.p.trans h.p,k.q.trans h.q,k.o.trans h.o,fun z hz=>?_,fun z hz hn=>?_⟩
 ·rcases k.nw z hz with e|e
  ·exact h.nw z e
  ·by_cases h1:RHas K x m z
   ·exact .inl h1
   ·by_cases h2:a z=.free
    ·exact .inr h2
    ·have:=h.out z h2 h1
     rw[e]at this
     exact absurd this.symm h2
 ·have h1:=h.out z hz hn
  rw[← h1]
  refine k.out z (by rw[h1];exact hz) fun h2=>?_
  rcases h.nw z h2 with e|e
  ·exact hn e
  ·exact hz e
section
variable {s u : St} {K K' : OB} {x m q c n B : Nat} {ns ns' : List Tr} {ds : List (List UInt8 × Nat)} {o : List (List Nat)}
theorem RMem.xf (h:RMem s K x m q c n B ns ds o):∃a,s x=.obj 73 (spC c q ds a):=by
 rcases h.sp with ⟨_,e⟩|⟨me,e,_⟩<;>exact⟨_,e⟩
theorem RMem.xl (h:RMem s K x m q c n B ns ds o):s x≠.free:=by obtain⟨a,e⟩:=h.xf;rw[e];simp
theorem RMem.xk (h:RMem s K x m q c n B ns ds o):¬ K.has x:=by obtain⟨a,e⟩:=h.xf;exact h.C.om.types e (by decide) (by decide) (by decide)
theorem RMem.ml (h:RMem s K x m q c n B ns ds o):s m≠.free:=by
 rcases h.sp with ⟨e,_⟩|⟨me,_,e,_⟩
 ·rw[e];exact h.xl
 ·rw[e];simp
theorem RMem.mnk (h:RMem s K x m q c n B ns ds o):¬ K.has m:=by
 rcases h.sp with ⟨e,_⟩|⟨me,_,e,_⟩
 ·rw[e];exact h.xk
 ·exact h.C.om.nomap e
theorem RMem.live (h:RMem s K x m q c n B ns ds o){z:Nat}(hz:RHas K x m z):s z≠.free:=by
 rcases hz with hz|rfl|rfl
 ·exact h.C.om.live hz
 ·exact h.xl
 ·exact h.ml
theorem RMem.more (h:RMem s K x m q c n B ns ds o)(hu:∀z,s z≠.free→u z=s z):RMem u K x m q c n B ns ds o:=by
 refine⟨⟨h.C.om.keep fun z hz=>hu z (h.C.om.live hz),(hu q (by rw[h.C.qo];simp)).trans h.C.qo,(hu c (by rw[h.C.co];simp)).trans h.C.co⟩,?_⟩
 rcases h.sp with ⟨e,e1⟩|⟨me,e1,e2,e3⟩
 ·exact .inl ⟨e,(hu x h.xl).trans e1⟩
 ·exact .inr ⟨me,(hu x h.xl).trans e1,(hu m h.ml).trans e2,e3⟩
theorem AskOk.app {me:List (Int×Int)}(h:AskOk ns me)(hp:∃l,ns'=ns++l):AskOk ns' me:=fun k w hk=>by
 obtain⟨u,h1,h2,h3⟩:=h k w hk
 exact⟨u,(sub_of hp h1).1,by rw[(sub_of hp h1).2];exact h2,h3⟩
theorem RMem.op (h:RMem s K x m q c n B ns ds o)(hm:OMem u K' n B ns')(hp:∃l,ns'=ns++l)(hk:OKeep s u K K'):RMem u K' x m q c n B ns' ds o:=by
 refine⟨h.C.keep hm hk,?_⟩
 rcases h.sp with ⟨e,e1⟩|⟨me,e1,e2,e3⟩
 ·exact .inl ⟨e,(hk.out x h.xl h.xk).trans e1⟩
 ·exact .inr ⟨me,(hk.out x h.xl h.xk).trans e1,(hk.out m h.ml h.mnk).trans e2,e3.app hp⟩
theorem RMem.kp (h:RMem s K x m q c n B ns ds o)(hk:OKeep s u K K'):RKeep s u K K' x m m:=
 ⟨hk.p,hk.q,hk.o,fun z hz=>by
  rcases hz with hz|hz|hz
  ·rcases hk.nw z hz with e|e
   ·exact .inl (.inl e)
   ·exact .inr e
  ·exact .inl (.inr (.inl hz))
  ·exact .inl (.inr (.inr hz)),fun z hz hn=>hk.out z hz fun e=>hn (.inl e)⟩
end
theorem p_cvm:cv (.map none)=.raw (.map none):=rfl
attribute [go_sem] p_cvm
theorem AskM.rm {u:St}{K:OB}{q x m c n B:Nat}{ns:List Tr}{ds:List (List UInt8×Nat)}{o:List (List Nat)}{me:List (Int×Int)}(A:AskM u K q x m n B ns (.ptr c 0) (.lst (szC ds) .no) me)(hco:u c=.obj 132 [.ptr q 0,.lst (domsC ds) .no,.lst (atC o) .no]):RMem u K x m q c n B ns ds o:=
 ⟨⟨A.om,A.qo,hco⟩,.inr ⟨me,A.xo,A.mo,A.ok⟩⟩
abbrev WinA:=St×Nat
set_option maxHeartbeats 8000000 in
theorem Within_S {s:St}{KK:OB}{x m q c n B:Nat}{ns:List Tr}{ds:List (List UInt8×Nat)}{o:List (List Nat)}(hn64:n≤64)(hM:RMem s KK x m q c n B ns ds o){t:Tr}(ht:t∈ns)(vs:List Nat)(ow:Own)(hi:InV vs t)(hv:∀v,v∈vs→v<n)(hl:vs.length≤1000000) :
  SCalls Tryz.prog 64 [.ptr x 0,.int .i64 (ixN ns t:Nat),.lst (natsL vs) ow] s fun w u=>∃a:WinA,w=.ret (.int .i64 0)∧u=a.1∧RMem a.1 KK x a.2 q c n B ns ds o∧RKeep s a.1 KK KK x m a.2:=by
 obtain⟨d,cc,ho⟩:=hM.C.om.op
 obtain⟨mk,hnm⟩:=hM.C.om.st.mem
 have wq:=Qops_S s q KK.o KK.s.p hM.C.qo
 have ws:=Ostore_S s KK.o KK.s.p d cc ho
 have wn:=Nnode_S s KK.s.p KK.s.g KK.s.q n B (ixN ns t) ns t mk 0 hnm (ixN_get ht)
 have wv:=Nsweeps_S s KK.s.p KK.s.g KK.s.q n B ns mk 0 hnm
 have hok:=hM.C.om.st.ok.ok _ ht
 have ha:∀l:List Nat,l.foldl clrN (askN t)<2 ^ 64:=fun l=>clrs_lt (Nat.lt_of_lt_of_le (askN_lt hok) (Nat.pow_le_pow_right (by omega) hn64))
 have hz:((vs.foldl clrN (askN t):Nat):Int)=0:=by rw[clrs_ask hi];rfl
 have hvl:(natsL vs).length=vs.length:=natsL_len
 have hat:=fun i k (h:vs[i]?=some k)=>natsL_at h
 have HAT:=Lib.hid hat
 have HA:=Lib.hid ha
 have HM:=Lib.hid hM
 have HV:=Lib.hid hv
 have HT:=Lib.hid ht
 have hxl:=hM.xl
 clear hat ha hnm ho hok hi hv
 obtain⟨R1,hR1⟩:∃z,z=varN n t:=⟨_,rfl⟩
 obtain⟨R2,hR2⟩:∃z,z=lowN ns t:=⟨_,rfl⟩
 obtain⟨R3,hR3⟩:∃z,z=highN ns t:=⟨_,rfl⟩
 rw[← hR1,← hR2,← hR3]at wn
 clear hR1 hR2 hR3
 generalize hkk:ixN ns t=kk at *
 have HKK:=Lib.hid hkk
 clear hkk
 generalize natsL vs=V at *
 rcases hM.sp with ⟨hmx,hx⟩|⟨me,hx,hme,hak⟩
 ·unfold spC at hx
  clear hM ht
  generalize hSZ:szC ds=SZ at *
  have HSZ:=Lib.hid hSZ
  clear hSZ
  refine G_enter Tryz.func64 rfl Tryz.ntmps64 rfl fun Q hQ hQe=>?_
  (repeat'(first|refine Ctl ?_|((with_reducible refine Kof.use hK ?_);clear hK hE K E)|((with_reducible refine W_cond (fun h=>?_) (fun h=>?_))<;>(try(exfalso;assumption)))|((first|(with_reducible first|refine G_region fun K E hK hE=>?_|refine call_ret can39 (wq) ?_|refine call_ret can57 (ws) ?_|refine call_ret can98 (wn) ?_|refine call_ret can99 (wv) ?_)|((with_reducible refine W_fresh (fun b hb=>?_));(try(obtain⟨_,_⟩:=nef hb hxl))))<;>(try simp(disch:=omega) only[go_sem,seval, *]))))
  obtain⟨b0,hb0⟩:∃z,z=b:=⟨_,rfl⟩
  subst hb0
  have hbm:s b0=.free:=hb
  have HB0:=Lib.hid hbm
  obtain⟨u0,hu0⟩:∃u,u=(s.set b0 (.map [])).set x (.obj 73 [.ptr c 0,.ptr q 0,.lst SZ .no,.mp b0,.int .i64 0]):=⟨_,rfl⟩
  rw[← hu0]
  have hxb:x≠b0:=fun e=>hxl (e ▸ hbm)
  have g0:∀z,s z≠.free→z≠x→u0 z=s z:=fun z hz hzx=>by rw[hu0,St.set_other _ _ hzx,St.set_other _ _ (nef hbm hz).1]
  have gm:u0 b0=.map (mpZ encA []):=by rw[hu0,St.set_other _ _ (fun e=>hxb e.symm),St.set_same];rfl
  have gx:u0 x=.obj 73 [.ptr c 0,.ptr q 0,.lst SZ .no,.mp b0,.int .i64 0]:=by rw[hu0,St.set_same]
  have A0:AskM u0 KK q x b0 n B ns (.ptr c 0) (.lst SZ .no) []:=⟨HM.out.C.om.keep fun z hz=>g0 z (HM.out.C.om.live hz) fun e=>HM.out.xk (e ▸ hz),(g0 q (by rw[HM.out.C.qo];simp) fun e=>by have:=HM.out.C.qo;rw[e,hx]at this;cases this).trans HM.out.C.qo,gx,gm,fun k w hk=>by cases hk⟩
  have G0:=Lib.hid g0
  clear hu0 g0 hbm hxb gm gx hx hb wq ws wn wv
  have w2:=Asked_S hn64 t HT.out A0
  unfold AskdC at w2
  rw[HKK.out]at w2
  refine call_ex can100 w2 (fun a h=>?_)
  obtain⟨u1,me1⟩:=a
  obtain⟨A1,F1⟩:=h
  dsimp only at A1 F1 ⊢
  have HA1:=Lib.hid A1
  have HF1:=Lib.hid F1
  clear w2 A0 A1 F1
  simp only[go_sem,seval]
  (repeat'(first|refine Ctl ?_|((with_reducible refine Kof.use hK ?_);clear hK hE K E)|((first|(with_reducible refine G_region fun K E hK hE=>?_)|((with_reducible refine W_fresh (fun b hb=>?_))))<;>(try simp(disch:=omega) only[go_sem,seval,hvl, *]))))
  obtain⟨bl,hbl⟩:∃z,z=b:=⟨_,rfl⟩
  subst hbl
  have HBL:Hid (u1 bl=.free):=Lib.hid hb
  refine L_loop (fun m env s'=>∃(i:Nat),i≤vs.length∧m+i=vs.length∧s'=u1.set bl (.obj 171 [.int .u64 (((vs.take i).foldl clrN (askN t):Nat):Int),.int .u64 0,.int .u64 0,.int .u64 0])∧env 13=.ptr bl 0∧env 59=.lst V ow∧env 60=.int .i64 vs.length∧env 61=.int .i64 i) vs.length
   ⟨0,by omega,by omega,rfl,z_sl,z_sl,z_sl,z_sl⟩ ?_
  rintro f env s' ⟨i,hi,hmi,rfl,e13,e59,e60,e61⟩
  by_cases h2:i<vs.length
  ·have hk:=List.getElem?_eq_getElem h2
   have hx:=HAT.out _ _ hk
   have hvn:=HV.out _ (List.mem_of_getElem? hk)
   have e:(vs.take (i+1)).foldl clrN (askN t)=clrN ((vs.take i).foldl clrN (askN t)) vs[i]:=by rw[List.take_add_one,hk,Option.toList,List.foldl_append];rfl
   have f3:=quo_v (v:=vs[i]) (by omega)
   have f4:=rem_v (v:=vs[i]) (by omega)
   have f5:=shl_v (v:=vs[i]) (by omega)
   have f6:=andNot_v (v:=vs[i]) (HA.out (vs.take i)) (by omega)
   clear hk
   generalize vs[i]=v at *
   generalize (vs.take i).foldl clrN (askN t)=a0 at *
   have HE:=Lib.hid e
   clear e
   (repeat'(first|refine Ctl ?_|(with_reducible first|(refine Kof.use hK ?_;clear hK hE K E)|(refine Kof.use hKh ?_;clear hKh Kh)|(refine Kof.use hKb (P_next ?_);clear hKb Kb)|refine G_plan 12 [([0,1,2,3,4,5,6,7,8],9,[[]])] [] hQe fun K E hK hE=>?_)|((with_reducible refine W_cond (fun h=>?_) (fun h=>?_))<;>(try(exfalso;assumption)))|(((with_reducible first|refine G_region fun K E hK hE=>?_|refine P_heads fun Kh hKh=>?_|refine P_fin fun Kh hKh=>?_|refine P_each fun Kb hKb=>?_))<;>(try simp(disch:=omega) only[go_sem,seval,hx,f3,f4,f5,f6, *]))))
   all_goals exact⟨f - 1,by omega,i+1,by omega,by omega,by rw[HE.out],z_sl,z_sl,z_sl,z_sl⟩
  ·have hin:i=vs.length:=by omega
   rw[hin,List.take_length,hz]
   (repeat'(first|refine Ctl ?_|((with_reducible refine Kof.use hK ?_);clear hK hE K E)|((with_reducible refine W_cond (fun h=>?_) (fun h=>?_))<;>(try(exfalso;first|assumption|omega)))|(((with_reducible refine G_region fun K E hK hE=>?_))<;>(try simp(disch:=omega) only[go_sem,seval, *]))))
   all_goals(refine W_ret res64 hQ ?_)
   have A:=HA1.out
   rw[← HSZ.out]at A
   have hC:=HM.out.C
   have hbm':s b0=.free:=HB0.out
   have hcx:c≠x:=fun e=>by obtain⟨a,e2⟩:=HM.out.xf;have:=hC.co;rw[e,e2]at this;cases this
   have hcb:c≠b0:=fun e=>by have:=hC.co;rw[e,hbm']at this;cases this
   have c0:=G0.out c (by rw[hC.co];simp) hcx
   have c1:=(HF1.out c (by rw[c0,hC.co];simp) hcb).trans (c0.trans hC.co)
   refine⟨_,_,Wk.refl _,Fg.of_set _ HBL.out,(u1,b0),rfl,rfl,A.rm c1,rfl,rfl,rfl,fun z hz=>?_,fun z hz hn=>?_⟩
   ·rcases hz with e|e|e
    ·exact .inl (.inl e)
    ·exact .inl (.inr (.inl e))
    ·exact .inr (e ▸ hbm')
   ·have e1:=G0.out z hz fun e=>hn (.inr (.inl e))
    exact(HF1.out z (by rw[e1];exact hz) fun e=>hz (e ▸ hbm')).trans e1
 ·unfold spC at hx
  clear hM ht
  have hml:s m≠.free:=by rw[hme];simp
  generalize hSZ:szC ds=SZ at *
  have HSZ:=Lib.hid hSZ
  clear hSZ
  refine G_enter Tryz.func64 rfl Tryz.ntmps64 rfl fun Q hQ hQe=>?_
  (repeat'(first|refine Ctl ?_|((with_reducible refine Kof.use hK ?_);clear hK hE K E)|((with_reducible refine W_cond (fun h=>?_) (fun h=>?_))<;>(try(exfalso;assumption)))|(((with_reducible first|refine G_region fun K E hK hE=>?_|refine call_ret can39 (wq) ?_|refine call_ret can57 (ws) ?_|refine call_ret can98 (wn) ?_|refine call_ret can99 (wv) ?_))<;>(try simp(disch:=omega) only[go_sem,seval, *]))))
  have A0:AskM s KK q x m n B ns (.ptr c 0) (.lst SZ .no) me:=⟨HM.out.C.om,HM.out.C.qo,hx,hme,hak⟩
  have HME:=Lib.hid hme
  clear hx hme hak wq ws wn wv
  have w2:=Asked_S hn64 t HT.out A0
  unfold AskdC at w2
  rw[HKK.out]at w2
  refine call_ex can100 w2 (fun a h=>?_)
  obtain⟨u1,me1⟩:=a
  obtain⟨A1,F1⟩:=h
  dsimp only at A1 F1 ⊢
  have HA1:=Lib.hid A1
  have HF1:=Lib.hid F1
  clear w2 A0 A1 F1
  simp only[go_sem,seval]
  (repeat'(first|refine Ctl ?_|((with_reducible refine Kof.use hK ?_);clear hK hE K E)|((first|(with_reducible refine G_region fun K E hK hE=>?_)|((with_reducible refine W_fresh (fun b hb=>?_))))<;>(try simp(disch:=omega) only[go_sem,seval,hvl, *]))))
  obtain⟨bl,hbl⟩:∃z,z=b:=⟨_,rfl⟩
  subst hbl
  have HBL:Hid (u1 bl=.free):=Lib.hid hb
  refine L_loop (fun m env s'=>∃(i:Nat),i≤vs.length∧m+i=vs.length∧s'=u1.set bl (.obj 171 [.int .u64 (((vs.take i).foldl clrN (askN t):Nat):Int),.int .u64 0,.int .u64 0,.int .u64 0])∧env 13=.ptr bl 0∧env 59=.lst V ow∧env 60=.int .i64 vs.length∧env 61=.int .i64 i) vs.length
   ⟨0,by omega,by omega,rfl,z_sl,z_sl,z_sl,z_sl⟩ ?_
  rintro f env s' ⟨i,hi,hmi,rfl,e13,e59,e60,e61⟩
  by_cases h2:i<vs.length
  ·have hk:=List.getElem?_eq_getElem h2
   have hx:=HAT.out _ _ hk
   have hvn:=HV.out _ (List.mem_of_getElem? hk)
   have e:(vs.take (i+1)).foldl clrN (askN t)=clrN ((vs.take i).foldl clrN (askN t)) vs[i]:=by rw[List.take_add_one,hk,Option.toList,List.foldl_append];rfl
   have f3:=quo_v (v:=vs[i]) (by omega)
   have f4:=rem_v (v:=vs[i]) (by omega)
   have f5:=shl_v (v:=vs[i]) (by omega)
   have f6:=andNot_v (v:=vs[i]) (HA.out (vs.take i)) (by omega)
   clear hk
   generalize vs[i]=v at *
   generalize (vs.take i).foldl clrN (askN t)=a0 at *
   have HE:=Lib.hid e
   clear e
   (repeat'(first|refine Ctl ?_|(with_reducible first|(refine Kof.use hK ?_;clear hK hE K E)|(refine Kof.use hKh ?_;clear hKh Kh)|(refine Kof.use hKb (P_next ?_);clear hKb Kb)|refine G_plan 12 [([0,1,2,3,4,5,6,7,8],9,[[]])] [] hQe fun K E hK hE=>?_)|((with_reducible refine W_cond (fun h=>?_) (fun h=>?_))<;>(try(exfalso;assumption)))|(((with_reducible first|refine G_region fun K E hK hE=>?_|refine P_heads fun Kh hKh=>?_|refine P_fin fun Kh hKh=>?_|refine P_each fun Kb hKb=>?_))<;>(try simp(disch:=omega) only[go_sem,seval,hx,f3,f4,f5,f6, *]))))
   all_goals exact⟨f - 1,by omega,i+1,by omega,by omega,by rw[HE.out],z_sl,z_sl,z_sl,z_sl⟩
  ·have hin:i=vs.length:=by omega
   rw[hin,List.take_length,hz]
   (repeat'(first|refine Ctl ?_|((with_reducible refine Kof.use hK ?_);clear hK hE K E)|((with_reducible refine W_cond (fun h=>?_) (fun h=>?_))<;>(try(exfalso;first|assumption|omega)))|(((with_reducible refine G_region fun K E hK hE=>?_))<;>(try simp(disch:=omega) only[go_sem,seval, *]))))
   all_goals(refine W_ret res64 hQ ?_)
   have A:=HA1.out
   rw[← HSZ.out]at A
   have hC:=HM.out.C
   have hcm:c≠m:=fun e=>by have:=hC.co;rw[e,HME.out]at this;cases this
   have c1:=(HF1.out c (by rw[hC.co];simp) hcm).trans hC.co
   exact⟨_,_,Wk.refl _,Fg.of_set _ HBL.out,(u1,m),rfl,rfl,A.rm c1,rfl,rfl,rfl,fun z hz=>.inl hz,fun z hz hn=>HF1.out z hz fun e=>hn (.inr (.inr e))⟩
end Go.Proofs.YtohnaepcgnbaiaaGreatDoor
namespace Go.Proofs.YtohnaepcgnbaiaaGreatDoor
open Go.RowKit
def ixA {α:Type}[DecidableEq α](n:α):List α→Int
 |[]=>-1
 |x::l=>if n=x then 0 else(if ixA n l<0 then -1 else ixA n l+1)
section
variable {α : Type} [DecidableEq α]
theorem ixA_none {n:α}:∀{l:List α},(∀x,x∈l→¬ n=x)→ixA n l=-1
 |[],_=>rfl
 |x::l,h=>by
  simp only[ixA]
  rw[if_neg (h x (by simp)),ixA_none fun y hy=>h y (by simp[hy])]
  rfl
theorem ixA_at {n:α}:∀{l:List α} {i:Nat},(∀x,x∈l.take i→¬ n=x)→l[i]?=some n→ixA n l=i
 |[],i,_,h=>by simp at h
 |x::l,0,_,h=>by simp at h;subst h;simp[ixA]
 |x::l,i+1,ha,h=>by
  have h1:¬ n=x:=ha x (by simp)
  have h2:=ixA_at (l:=l) (i:=i) (fun z hz=>ha z (by simp[hz])) (by simpa using h)
  simp only[ixA]
  rw[if_neg h1,h2,if_neg (by omega)]
  omega
theorem ixA_any (n:α):∀l:List α,decide (0≤ixA n l)=decide (n∈l)
 |[]=>by simp[ixA]
 |x::l=>by
  have ih:=ixA_any n l
  by_cases hx:n=x
  ·subst hx;simp[ixA]
  ·have e:ixA n (x::l)=if ixA n l<0 then -1 else ixA n l+1:=by simp only[ixA];rw[if_neg hx]
   have m:n∈x::l↔n∈l:=by simp[hx]
   rw[e,decide_eq_decide,m,← decide_eq_decide.1 ih]
   split<;>(constructor<;>intro h<;>omega)
end
theorem strs_at {l:List (List UInt8)}{i:Nat}{x:List UInt8}(h:l[i]?=some x):(strs l)[i]?=some [.str x]:=by simp[strs,h]
theorem strs_ln (l:List (List UInt8)):(strs l).length=l.length:=by simp[strs]
theorem IxS_S (l:List (List UInt8))(o:Own)(n:List UInt8)(hn:l.length≤1000000000)(s:St):SRet Tryz.prog 30 [.lst (strs l) o,.str n] s (.int .i64 (ixA n l)) s:=by
 have hsl:=strs_ln l
 refine G_enter Tryz.func30 rfl Tryz.ntmps30 rfl fun Q hQ hQe=>?_
 (repeat'(first|refine Ctl ?_|((with_reducible refine Kof.use hK ?_);clear hK hE K E)|(((with_reducible refine G_region fun K E hK hE=>?_))<;>(try simp(disch:=omega) only[go_sem,seval,hsl, *]))))
 refine L_loop (fun m env s'=>∃(i:Nat),i≤l.length∧m+i=l.length∧(∀x,x∈l.take i→¬ n=x)∧s'=s∧env 0=.lst (strs l) o∧env 1=.str n∧env 7=.int .i64 l.length∧env 8=.int .i64 i) l.length
  ⟨0,by omega,by omega,by simp,rfl,z_sl,z_sl,z_sl,z_sl⟩ ?_
 rintro m env s' ⟨i,hi,hm,hall,rfl,e0,e1,e7,e8⟩
 by_cases hlt:i<l.length
 ·obtain⟨x,hx⟩:∃x,l[i]?=some x:=⟨_,List.getElem?_eq_getElem hlt⟩
  have hsx:=strs_at hx
  have htake:l.take (i+1)=l.take i++[x]:=by rw[List.take_add_one,hx];rfl
  by_cases hnx:n=x
  ·subst hnx
   have hres:=ixA_at hall hx
   clear hall htake hx
   (repeat'(first|refine Ctl ?_|((with_reducible refine Kof.use hK ?_);clear hK hE K E)|((with_reducible refine W_cond (fun h=>?_) (fun h=>?_))<;>(try(exfalso;assumption)))|(((with_reducible refine G_region fun K E hK hE=>?_))<;>(try simp(disch:=omega) only[go_sem,seval,hsl,hsx, *]))))
   all_goals(refine W_ret res30 hQ ?_)
   all_goals(refine⟨_,_,Wk.of_eq ?_,?_,rfl,rfl⟩)
   all_goals first|(exact z_fg)|(rw[hres];done)
  ·have hall2:∀y,y∈l.take (i+1)→¬ n=y:=fun y hy=>by
    rw[htake]at hy
    rcases List.mem_append.1 hy with hy|hy
    ·exact hall y hy
    ·rw[List.mem_singleton]at hy;subst hy;exact hnx
   clear hall htake hx
   (repeat'(first|refine Ctl ?_|((with_reducible refine Kof.use hK ?_);clear hK hE K E)|((with_reducible refine W_cond (fun h=>?_) (fun h=>?_))<;>(try(exfalso;assumption)))|(((with_reducible refine G_region fun K E hK hE=>?_))<;>(try simp(disch:=omega) only[go_sem,seval,hsl,hsx, *]))))
   all_goals exact⟨m - 1,by omega,i+1,by omega,by omega,hall2,rfl,z_sl,z_sl,z_sl,z_sl⟩
 ·have hres:ixA n l=-1:=ixA_none (by
   have:l.take i=l:=List.take_of_length_le (by omega)
   rw[this]at hall
   exact hall)
  clear hall
  (repeat'(first|refine Ctl ?_|((with_reducible refine Kof.use hK ?_);clear hK hE K E)|((with_reducible refine W_cond (fun h=>?_) (fun h=>?_))<;>(try(exfalso;assumption)))|(((with_reducible refine G_region fun K E hK hE=>?_))<;>(try simp(disch:=omega) only[go_sem,seval,hsl, *]))))
  all_goals(refine W_ret res30 hQ ?_)
  all_goals(refine⟨_,_,Wk.of_eq ?_,?_,rfl,rfl⟩)
  all_goals first|(exact z_fg)|(rw[hres];done)
theorem IxN_S (l:List Nat)(o:Own)(n:Nat)(hn:l.length≤1000000000)(s:St):SRet Tryz.prog 65 [.lst (natsL l) o,.int .i64 n] s (.int .i64 (ixA n l)) s:=by
 have hsl:=natsL_len (ks:=l)
 refine G_enter Tryz.func65 rfl Tryz.ntmps65 rfl fun Q hQ hQe=>?_
 (repeat'(first|refine Ctl ?_|((with_reducible refine Kof.use hK ?_);clear hK hE K E)|(((with_reducible refine G_region fun K E hK hE=>?_))<;>(try simp(disch:=omega) only[go_sem,seval,hsl, *]))))
 refine L_loop (fun m env s'=>∃(i:Nat),i≤l.length∧m+i=l.length∧(∀x,x∈l.take i→¬ n=x)∧s'=s∧env 0=.lst (natsL l) o∧env 1=.int .i64 n∧env 7=.int .i64 l.length∧env 8=.int .i64 i) l.length
  ⟨0,by omega,by omega,by simp,rfl,z_sl,z_sl,z_sl,z_sl⟩ ?_
 rintro m env s' ⟨i,hi,hm,hall,rfl,e0,e1,e7,e8⟩
 by_cases hlt:i<l.length
 ·obtain⟨x,hx⟩:∃x,l[i]?=some x:=⟨_,List.getElem?_eq_getElem hlt⟩
  have hsx:=natsL_at hx
  have htake:l.take (i+1)=l.take i++[x]:=by rw[List.take_add_one,hx];rfl
  by_cases hnx:n=x
  ·subst hnx
   have hres:=ixA_at hall hx
   clear hall htake hx
   (repeat'(first|refine Ctl ?_|((with_reducible refine Kof.use hK ?_);clear hK hE K E)|((with_reducible refine W_cond (fun h=>?_) (fun h=>?_))<;>(try(exfalso;assumption)))|(((with_reducible refine G_region fun K E hK hE=>?_))<;>(try simp(disch:=omega) only[go_sem,seval,hsl,hsx, *]))))
   all_goals(refine W_ret res65 hQ ?_)
   all_goals(refine⟨_,_,Wk.of_eq ?_,?_,rfl,rfl⟩)
   all_goals first|(exact z_fg)|(rw[hres];done)
  ·have hall2:∀y,y∈l.take (i+1)→¬ n=y:=fun y hy=>by
    rw[htake]at hy
    rcases List.mem_append.1 hy with hy|hy
    ·exact hall y hy
    ·rw[List.mem_singleton]at hy;subst hy;exact hnx
   have hnx2:¬ (n:Int)=(x:Int):=by omega
   clear hall htake hx
   (repeat'(first|refine Ctl ?_|((with_reducible refine Kof.use hK ?_);clear hK hE K E)|((with_reducible refine W_cond (fun h=>?_) (fun h=>?_))<;>(try(exfalso;assumption)))|(((with_reducible refine G_region fun K E hK hE=>?_))<;>(try simp(disch:=omega) only[go_sem,seval,hsl,hsx,hnx2, *]))))
   all_goals exact⟨m - 1,by omega,i+1,by omega,by omega,hall2,rfl,z_sl,z_sl,z_sl,z_sl⟩
 ·have hres:ixA n l=-1:=ixA_none (by
   have:l.take i=l:=List.take_of_length_le (by omega)
   rw[this]at hall
   exact hall)
  clear hall
  (repeat'(first|refine Ctl ?_|((with_reducible refine Kof.use hK ?_);clear hK hE K E)|((with_reducible refine W_cond (fun h=>?_) (fun h=>?_))<;>(try(exfalso;assumption)))|(((with_reducible refine G_region fun K E hK hE=>?_))<;>(try simp(disch:=omega) only[go_sem,seval,hsl, *]))))
  all_goals(refine W_ret res65 hQ ?_)
  all_goals(refine⟨_,_,Wk.of_eq ?_,?_,rfl,rfl⟩)
  all_goals first|(exact z_fg)|(rw[hres];done)
theorem ContN_S (l:List Nat)(o:Own)(n:Nat)(hn:l.length≤1000000000)(s:St):SRet Tryz.prog 31 [.lst (natsL l) o,.int .i64 n] s (.bool (decide (n∈l))) s:=by
 have h1:=IxN_S l o n hn
 have h2:=ixA_any n l
 refine G_enter Tryz.func31 rfl Tryz.ntmps31 rfl fun Q hQ hQe=>?_
 (repeat'(first|refine Ctl ?_|((with_reducible refine Kof.use hK ?_);clear hK hE K E)|(((with_reducible first|refine G_region fun K E hK hE=>?_|refine call_ret can65 (h1 _) ?_))<;>(try simp(disch:=omega) only[go_sem,seval,h2, *]))))
 all_goals(refine W_ret res31 hQ ?_)
 all_goals(refine⟨_,_,Wk.of_eq ?_,?_,rfl,rfl⟩)
 all_goals(exact z_fg)
theorem EqN_S (a b:List Nat)(o o2:Own)(hn:a.length≤1000000000)(s:St):SRet Tryz.prog 66 [.lst (natsL a) o,.lst (natsL b) o2] s (.bool (decide (a=b))) s:=by
 have hal:=natsL_len (ks:=a)
 have hbl:=natsL_len (ks:=b)
 by_cases hl:a.length=b.length
 ·have hl2:(natsL b).length=a.length:=by rw[hbl,hl]
  refine G_enter Tryz.func66 rfl Tryz.ntmps66 rfl fun Q hQ hQe=>?_
  (repeat'(first|refine Ctl ?_|((with_reducible refine Kof.use hK ?_);clear hK hE K E)|((with_reducible refine W_cond (fun h=>?_) (fun h=>?_))<;>(try(exfalso;assumption)))|(((with_reducible refine G_region fun K E hK hE=>?_))<;>(try simp(disch:=omega) only[go_sem,seval,hal,hl2, *]))))
  refine L_loop (fun m env s'=>∃(i:Nat),i≤a.length∧m+i=a.length∧a.take i=b.take i∧s'=s∧env 0=.lst (natsL a) o∧env 1=.lst (natsL b) o2∧env 12=.int .i64 a.length∧env 13=.int .i64 i) a.length
   ⟨0,by omega,by omega,by simp,rfl,z_sl,z_sl,z_sl,z_sl⟩ ?_
  rintro m env s' ⟨i,hi,hm,hall,rfl,e0,e1,e12,e13⟩
  by_cases hlt:i<a.length
  ·obtain⟨x,hx⟩:∃x,a[i]?=some x:=⟨_,List.getElem?_eq_getElem hlt⟩
   obtain⟨y,hy⟩:∃y,b[i]?=some y:=⟨_,List.getElem?_eq_getElem (by omega)⟩
   have hsx:=natsL_at hx
   have hsy:=natsL_at hy
   by_cases hxy:x=y
   ·subst hxy
    have h2:a.take (i+1)=b.take (i+1):=by rw[List.take_add_one,List.take_add_one,hall,hx,hy]
    clear hall hx hy
    (repeat'(first|refine Ctl ?_|(with_reducible first|(refine Kof.use hK ?_;clear hK hE K E)|(refine Kof.use hKh ?_;clear hKh Kh)|refine G_plan 6 [] [0,1,2,3,4,5,6,7,8] hQe fun K E hK hE=>?_)|((with_reducible refine W_cond (fun h=>?_) (fun h=>?_))<;>(try(exfalso;first|assumption|omega)))|(((with_reducible first|refine G_region fun K E hK hE=>?_|refine P_fin fun Kh hKh=>?_))<;>(try simp(disch:=omega) only[go_sem,seval,hal,hl2,hsx,hsy, *]))))
    all_goals exact⟨m - 1,by omega,i+1,by omega,by omega,h2,rfl,z_sl,z_sl,z_sl,z_sl⟩
   ·have hres:decide (a=b)=false:=decide_eq_false fun e=>hxy (by rw[e,hy]at hx;injection hx with hx;exact hx.symm)
    have hxy2:¬ (x:Int)=(y:Int):=by omega
    clear hall hx hy
    (repeat'(first|refine Ctl ?_|(with_reducible first|(refine Kof.use hK ?_;clear hK hE K E)|(refine Kof.use hKh ?_;clear hKh Kh)|refine G_plan 6 [] [0,1,2,3,4,5,6,7,8] hQe fun K E hK hE=>?_)|((with_reducible refine W_cond (fun h=>?_) (fun h=>?_))<;>(try(exfalso;first|assumption|omega)))|(((with_reducible first|refine G_region fun K E hK hE=>?_|refine P_fin fun Kh hKh=>?_))<;>(try simp(disch:=omega) only[go_sem,seval,hal,hl2,hsx,hsy,hxy2, *]))))
    all_goals(refine W_ret res66 hQ ?_)
    all_goals(refine⟨_,_,Wk.of_eq ?_,?_,rfl,rfl⟩)
    all_goals first|(exact z_fg)|(rw[hres];done)
  ·have hres:decide (a=b)=true:=decide_eq_true (by
    have:i=a.length:=by omega
    rw[this,List.take_length]at hall
    rw[hall,hl,List.take_length])
   clear hall
   (repeat'(first|refine Ctl ?_|((with_reducible refine Kof.use hK ?_);clear hK hE K E)|((with_reducible refine W_cond (fun h=>?_) (fun h=>?_))<;>(try(exfalso;omega)))|(((with_reducible refine G_region fun K E hK hE=>?_))<;>(try simp(disch:=omega) only[go_sem,seval,hal,hl2, *]))))
   all_goals(refine W_ret res66 hQ ?_)
   all_goals(refine⟨_,_,Wk.of_eq ?_,?_,rfl,rfl⟩)
   all_goals first|(exact z_fg)|(rw[hres];done)
 ·have hres:decide (a=b)=false:=decide_eq_false fun e=>hl (by rw[e])
  have hl3:¬ (a.length:Int)=(b.length:Int):=by omega
  refine G_enter Tryz.func66 rfl Tryz.ntmps66 rfl fun Q hQ hQe=>?_
  (repeat'(first|refine Ctl ?_|((with_reducible refine Kof.use hK ?_);clear hK hE K E)|((with_reducible refine W_cond (fun h=>?_) (fun h=>?_))<;>(try(exfalso;assumption)))|(((with_reducible refine G_region fun K E hK hE=>?_))<;>(try simp(disch:=omega) only[go_sem,seval,hal,hbl,hl3, *]))))
  all_goals(refine W_ret res66 hQ ?_)
  all_goals(refine⟨_,_,Wk.of_eq ?_,?_,rfl,rfl⟩)
  all_goals first|(exact z_fg)|(rw[hres];done)
def NamesOk (l:List (List UInt8)):Prop:=l.Nodup∧(∀a,a∈l→1≤a.length∧a.length≤16)∧l.length≤8
def seenS (l:List (List UInt8)):List (List UInt8×Bool):=l.map fun a=>(a,true)
theorem seenS_no {k:List UInt8}:∀{l:List (List UInt8)},k∉l→lkA k (seenS l)=none
 |[],_=>rfl
 |a::l,h=>by
  simp only[seenS,List.map_cons,lkA]
  rw[if_neg fun e=>h (by simp[e])]
  exact seenS_no fun e=>h (List.mem_cons_of_mem _ e)
theorem seenS_pt {k:List UInt8}:∀{l:List (List UInt8)},k∉l→ptA k true (seenS l)=seenS (l++[k])
 |[],_=>rfl
 |a::l,h=>by
  have ih:=seenS_pt (k:=k) (l:=l) fun e=>h (List.mem_cons_of_mem _ e)
  simp only[seenS,List.map_cons,ptA,List.cons_append]at ih ⊢
  rw[if_neg fun e=>h (by simp[e]),ih]
set_option maxHeartbeats 4000000 in
theorem Names_S (s:St)(l:List (List UInt8))(ow:Own)(hl:NamesOk l):SRet Tryz.prog 46 [.lst (strs l) ow] s (.bool true) s:=by
 have hsl:=strs_ln l
 have hat:=fun i x (h:l[i]?=some x)=>strs_at h
 have HAT:=Lib.hid hat
 have HL:=Lib.hid hl
 have h8:(l.length:Int)≤8:=by have:=hl.2.2;omega
 clear hat hl
 generalize strs l=V at *
 refine G_enter Tryz.func46 rfl Tryz.ntmps46 rfl fun Q hQ hQe=>?_
 (repeat'(first|refine Ctl ?_|((with_reducible refine Kof.use hK ?_);clear hK hE K E)|((first|(with_reducible refine G_region fun K E hK hE=>?_)|((with_reducible refine W_fresh (fun b hb=>?_))))<;>(try simp(disch:=omega) only[go_sem,seval,hsl, *]))))
 obtain⟨bm,hbm⟩:∃z,z=b:=⟨_,rfl⟩
 subst hbm
 have HBM:Hid (s bm=.free):=Lib.hid hb
 refine L_loop (fun m env s'=>∃(i:Nat),i≤l.length∧m+i=l.length∧s'=s.set bm (.map (mpV encB (seenS (l.take i))))∧env 0=.lst V ow∧env 3=.mp bm∧env 7=.lst V ow∧env 8=.int .i64 l.length∧env 9=.int .i64 i) l.length
  ⟨0,by omega,by omega,rfl,z_sl,z_sl,z_sl,z_sl,z_sl⟩ ?_
 rintro m env s' ⟨i,hi,hmi,rfl,e0,e3,e7,e8,e9⟩
 by_cases h2:i<l.length
 ·have hk:=List.getElem?_eq_getElem h2
  have hx:=HAT.out _ _ hk
  generalize l[i]=a at hk hx
  have htk:l.take (i+1)=l.take i++[a]:=by rw[List.take_add_one,hk];rfl
  have hno:a∉l.take i:=fun hin=>by
   have h1:(l.take (i+1)).Nodup:=HL.out.1.sublist (List.take_sublist _ _)
   rw[htk,List.nodup_append]at h1
   exact h1.2.2 a hin a (by simp) rfl
  have hpt:=seenS_pt hno
  rw[← htk]at hpt
  have hlk:(lkA a (seenS (l.take i))).getD false=false:=by rw[seenS_no hno];rfl
  obtain⟨a1,a2⟩:=HL.out.2.1 a (List.mem_of_getElem? hk)
  have ha1:¬ a=[]:=fun e=>by rw[e]at a1;simp at a1
  have ha2:¬ (a.length:Int) > 16:=by omega
  clear hk htk hno a1 a2
  (repeat'(first|refine Ctl ?_|((with_reducible refine Kof.use hK ?_);clear hK hE K E)|((with_reducible refine W_cond (fun h=>?_) (fun h=>?_))<;>(try(exfalso;assumption)))|(((with_reducible refine G_region fun K E hK hE=>?_))<;>(try simp(disch:=omega) only[go_sem,seval,hx,hlk,hpt,ha1,ha2, *]))))
  all_goals exact⟨m - 1,by omega,i+1,by omega,by omega,rfl,z_sl,z_sl,z_sl,z_sl,z_sl⟩
 ·(repeat'(first|refine Ctl ?_|((with_reducible refine Kof.use hK ?_);clear hK hE K E)|((with_reducible refine W_cond (fun h=>?_) (fun h=>?_))<;>(try(exfalso;assumption)))|(((with_reducible refine G_region fun K E hK hE=>?_))<;>(try simp(disch:=omega) only[go_sem,seval,hsl,h8, *]))))
  all_goals(refine W_ret res46 hQ ?_)
  all_goals exact⟨_,_,Wk.refl _,Fg.of_set _ HBM.out,rfl,rfl⟩
end Go.Proofs.YtohnaepcgnbaiaaGreatDoor
