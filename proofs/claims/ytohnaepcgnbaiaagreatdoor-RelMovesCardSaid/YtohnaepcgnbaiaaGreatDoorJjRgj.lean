/- Walks of functions that the claim reaches, and plain facts of them. Conditions: those in the statements. -/
import Derived.Test.YtohnaepcgnbaiaaGreatDoorJjQkj
import Derived.Test.YtohnaepcgnbaiaaGreatDoorJjItj
import Derived.Test.YtohnaepcgnbaiaaGreatDoorJjSoundFj
set_option linter.unusedSimpArgs false
set_option linter.unusedVariables false
set_option maxRecDepth 100000
namespace Go.Proofs.YtohnaepcgnbaiaaGreatDoor
open Go.RowKit
abbrev SatA:=St×List (Int×Int)
def MemoOk (ns:List Tr)(pos:Nat→Nat)(W:Nat)(me:List (Int×Int)):Prop:=∀k x,lkZ k me=some x→∃u,u∈ns∧k=((ixN ns u:Nat):Int)∧x=((cntT pos W u:Nat):Int)
def SatC (s:St)(J:SatB)(n B:Nat)(ns:List Tr)(mk:Int)(V:List (List VV))(PZ:List (Int×Int))(pos:Nat→Nat)(t:Tr):Prop:=
 SCalls Tryz.prog 124 [.int .i64 (ixN ns t:Nat),.ptr J.b11 0,.ptr J.b3 0,.ptr J.b10 0,.ptr J.b12 0] s fun w u=>∃a:SatA,w=.ret (.int .i64 (cntT pos V.length t:Nat))∧u=a.1∧SatS a.1 J n B ns mk V PZ a.2∧MemoOk ns pos V.length a.2∧∀z,z≠J.m2→a.1 z=s z
theorem SatC.ret {s:St}{J:SatB}{n B:Nat}{ns:List Tr}{mk:Int}{V:List (List VV)}{PZ me:List (Int×Int)}{pos:Nat→Nat}{t:Tr}(hA:SatS s J n B ns mk V PZ me)(hM:MemoOk ns pos V.length me)
  (h:SRet Tryz.prog 124 [.int .i64 (ixN ns t:Nat),.ptr J.b11 0,.ptr J.b3 0,.ptr J.b10 0,.ptr J.b12 0] s (.int .i64 (cntT pos V.length t:Nat)) s):SatC s J n B ns mk V PZ pos t:=by
 refine SCalls.mono (h:=h) ?_
 rintro w u ⟨rfl,rfl⟩
 exact⟨(u,me),rfl,rfl,hA,hM,fun _ _=>rfl⟩
set_option maxHeartbeats 4000000 in
theorem Sat2_lf {s:St}{J:SatB}{n B:Nat}{ns:List Tr}{mk:Int}{V:List (List VV)}{PZ me:List (Int×Int)}{pos:Nat→Nat}{b:Bool}(hA:SatS s J n B ns mk V PZ me)(hN:NsOk n ns)(hM:MemoOk ns pos V.length me):SatC s J n B ns mk V PZ pos (.lf b):=by
 refine SatC.ret hA hM ?_
 have hk:ixN ns (.lf b)=cntT pos V.length (.lf b):=by rw[(hN.lf b).2];rfl
 have hk2:ixN ns (.lf b)<2:=by rw[(hN.lf b).2];cases b<;>decide
 rw[← hk]
 have h1:((ixN ns (.lf b):Nat):Int)<2:=by omega
 generalize ixN ns (.lf b)=k at *
 clear hM hN hk hk2 hA
 refine G_enter Tryz.func124 rfl Tryz.ntmps124 rfl fun Q hQ hQe=>?_
 (repeat'(first|refine Ctl ?_|((with_reducible refine Kof.use hK ?_);clear hK hE K E)|((with_reducible refine W_cond (fun h=>?_) (fun h=>?_))<;>(try(exfalso;assumption)))|(((with_reducible refine G_region fun K E hK hE=>?_))<;>(try simp(disch:=omega) only[go_sem,seval,h1, *]))))
 all_goals(refine W_ret res124 hQ ?_)
 all_goals exact⟨_,_,Wk.refl _,Fg.refl _,rfl,rfl⟩
set_option maxHeartbeats 4000000 in
theorem Sat2_hit {s:St}{J:SatB}{n B:Nat}{ns:List Tr}{mk:Int}{V:List (List VV)}{PZ me:List (Int×Int)}{pos:Nat→Nat}{v:Nat}{l r:Tr}(hA:SatS s J n B ns mk V PZ me)(hN:NsOk n ns)(hM:MemoOk ns pos V.length me)(hm:.nd v l r∈ns)
  {x:Int} (hx:lkZ ((ixN ns (.nd v l r):Nat):Int) me=some x):SatC s J n B ns mk V PZ pos (.nd v l r):=by
 refine SatC.ret hA hM ?_
 obtain⟨u,hu,e1,rfl⟩:=hM _ _ hx
 have:=ixN_inj hm hu (by omega)
 subst this
 have h1:¬ ((ixN ns (.nd v l r):Nat):Int)<2:=by have:=hN.two hm;omega
 have o11:=hA.o11
 have c2:=hA.c2
 have hx1:(lkZ ((ixN ns (.nd v l r):Nat):Int) me).isSome=true:=by rw[hx];rfl
 have hx2:(lkZ ((ixN ns (.nd v l r):Nat):Int) me).getD 0=((cntT pos V.length (.nd v l r):Nat):Int):=by rw[hx];rfl
 clear hx
 generalize ixN ns (.nd v l r)=k at *
 generalize cntT pos V.length (.nd v l r)=y at *
 clear hM hN hm hA hu e1
 refine G_enter Tryz.func124 rfl Tryz.ntmps124 rfl fun Q hQ hQe=>?_
 (repeat'(first|refine Ctl ?_|((with_reducible refine Kof.use hK ?_);clear hK hE K E)|((with_reducible refine W_cond (fun h=>?_) (fun h=>?_))<;>(try(exfalso;assumption)))|(((with_reducible refine G_region fun K E hK hE=>?_))<;>(try simp(disch:=omega) only[go_sem,seval,h1,hx1,hx2, *]))))
 all_goals(refine W_ret res124 hQ ?_)
 all_goals exact⟨_,_,Wk.refl _,Fg.refl _,rfl,rfl⟩
set_option maxHeartbeats 4000000 in
theorem Sat2_nd {s:St}{J:SatB}{n B:Nat}{ns:List Tr}{mk:Int}{V:List (List VV)}{PZ me:List (Int×Int)}{pos:Nat→Nat}{v:Nat}{l r:Tr}(hA:SatS s J n B ns mk V PZ me)(hN:NsOk n ns)(hM:MemoOk ns pos V.length me)(hm:.nd v l r∈ns)
  (hx:lkZ ((ixN ns (.nd v l r):Nat):Int) me=none) (hp:∀w,occT w (.nd v l r)=true→lkZ (w:Int) PZ=some ((pos w:Nat):Int)) (hP:PosT pos V.length (.nd v l r)) (hV:V.length≤61)
  (ihl:∀{s:St} {me:List (Int×Int)},SatS s J n B ns mk V PZ me→MemoOk ns pos V.length me→SatC s J n B ns mk V PZ pos l) (ihr:∀{s:St} {me:List (Int×Int)},SatS s J n B ns mk V PZ me→MemoOk ns pos V.length me→SatC s J n B ns mk V PZ pos r):SatC s J n B ns mk V PZ pos (.nd v l r):=by
 obtain⟨hl,hr⟩:=hN.ch _ _ _ hm
 have h1:¬ ((ixN ns (.nd v l r):Nat):Int)<2:=by have:=hN.two hm;omega
 have w1:=Nnode_S s J.p J.g J.q n B (ixN ns (.nd v l r)) ns (.nd v l r) mk 0 hA.nm (ixN_get hm)
 have w2:=Sat1_S hA hN hm pos hp
 have wl:=fun(u:St) (me':List (Int×Int)) (h:SatS u J n B ns mk V PZ me')=>Sat1_S h hN hl pos fun w hw=>hp w (by simp[occT,hw])
 have wr:=fun(u:St) (me':List (Int×Int)) (h:SatS u J n B ns mk V PZ me')=>Sat1_S h hN hr pos fun w hw=>hp w (by simp[occT,hw])
 have w3:=ihl hA hM
 have hcn:cntT pos V.length (.nd v l r)=cntT pos V.length l * 2 ^ (levT pos V.length l - (pos v+1))+cntT pos V.length r * 2 ^ (levT pos V.length r - (pos v+1)):=rfl
 have hle:cntT pos V.length (.nd v l r)≤2 ^ 61:=Nat.le_trans hP.cnt (Nat.pow_le_pow_right (by omega) (by omega))
 obtain⟨p1,p2,p3,p4,p5⟩:=hP
 have c1:cntT pos V.length l≤2 ^ 61:=Nat.le_trans p4.cnt (Nat.pow_le_pow_right (by omega) (by omega))
 have c2:cntT pos V.length r≤2 ^ 61:=Nat.le_trans p5.cnt (Nat.pow_le_pow_right (by omega) (by omega))
 have q1:=p4.lev
 have q2:=p5.lev
 unfold SatC at w3 ihr ⊢
 simp only[varN,lowN,highN]at w1
 simp only[levT]at w2
 clear hl hr hp p1 p4 p5
 generalize hCN:cntT pos V.length (.nd v l r)=CN at *
 generalize levT pos V.length l=LL at *
 generalize levT pos V.length r=RR at *
 generalize cntT pos V.length l=CL at *
 generalize cntT pos V.length r=CR at *
 generalize pos v=pv at *
 obtain⟨DL,hDL⟩:∃d,d=LL - (pv+1):=⟨_,rfl⟩
 obtain⟨DR,hDR⟩:∃d,d=RR - (pv+1):=⟨_,rfl⟩
 rw[← hDL,← hDR]at hcn
 have e1:(LL:Int) - ((pv+1:Nat):Int)=(DL:Int):=by omega
 have e2:(RR:Int) - ((pv+1:Nat):Int)=(DR:Int):=by omega
 have wp1:=fun u=>Bpow_S u DL (by omega)
 have wp2:=fun u=>Bpow_S u DR (by omega)
 have z1:2 ^ DL≤2 ^ 61:=Nat.pow_le_pow_right (by omega) (by omega)
 have z2:2 ^ DR≤2 ^ 61:=Nat.pow_le_pow_right (by omega) (by omega)
 generalize 2 ^ DL=PL at *
 generalize 2 ^ DR=PR at *
 have wm1:=fun u=>Bmul_S u CL PL (by omega) (by omega) (by omega)
 have wm2:=fun u=>Bmul_S u CR PR (by omega) (by omega) (by omega)
 generalize CL * PL=XL at *
 generalize CR * PR=XR at *
 have wd:=fun u=>Badd_S u XL XR (by omega)
 rw[← hcn]at wd
 have o3:=hA.o3
 have o10:=hA.o10
 have o11:=hA.o11
 have o12:=hA.o12
 have c2:=hA.c2
 have hx1:(lkZ ((ixN ns (.nd v l r):Nat):Int) me).isSome=false:=by rw[hx];rfl
 have pvb:pv≤61:=by omega
 have pvl:pv+1≤LL∧LL≤61:=by omega
 have pvr:pv+1≤RR∧RR≤61:=by omega
 have HX:=Lib.hid hx
 have WL:=Lib.hid wl
 have WR:=Lib.hid wr
 have HA:=Lib.hid hA
 have HM:=Lib.hid hM
 have HR:=Lib.hid (fun(s:St) (me:List (Int×Int))=>@ihr s me)
 have HN:=Lib.hid hN
 have HMM:=Lib.hid hm
 have HCN:=Lib.hid hCN
 have WP1:=Lib.hid wp1
 have WP2:=Lib.hid wp2
 have WM1:=Lib.hid wm1
 have WM2:=Lib.hid wm2
 have WD:=Lib.hid wd
 clear hM hN hm hA wl wr ihl ihr hx hCN wp1 wp2 wm1 wm2 wd hcn hle c1 p2 p3 q1 q2 hDL hDR z1 z2
 obtain⟨pvl1,pvl2⟩:=pvl
 obtain⟨pvr1,pvr2⟩:=pvr
 refine G_enter Tryz.func124 rfl Tryz.ntmps124 rfl fun Q hQ hQe=>?_
 (repeat'(first|refine Ctl ?_|(with_reducible first|(refine Kof.use hK ?_;clear hK hE K E)|(refine Kof.use hKh ?_;clear hKh Kh)|refine G_plan 8 [([0,1,3,4,6,10,11,13,14,16],2,[[3,4,6,10,11,13,14,16]]),([],5,[[],[6,10,11,13,14,16]]),([7],8,[[],[],[10,11,13,14,16]]),([],9,[[],[],[],[10,11,13,14,16]]),([],12,[[],[],[],[],[13,14,16]]),([],15,[[],[],[],[],[],[16]]),([17],18,[[],[],[],[],[],[],[]]),([],19,[[],[],[],[],[],[],[],[]]),([],20,[[],[],[],[],[],[],[],[],[]])] [21] hQe fun K E hK hE=>?_)|((with_reducible refine W_cond (fun h=>?_) (fun h=>?_))<;>(try(exfalso;assumption)))|(((with_reducible first|refine G_region fun K E hK hE=>?_|refine call_ret can98 (w1) ?_|refine call_ret can123 (w2) ?_|refine P_heads fun Kh hKh=>?_|refine P_each fun Kb hKb=>?_))<;>(try simp(disch:=omega) only[go_sem,seval,h1,hx1, *]))))
 all_goals
  refine call_ex can124 w3 (fun a h=>?_)
  obtain⟨u1,me1⟩:=a
  obtain⟨hA3,hM3,hF3⟩:=h
  dsimp only at hA3 hM3 hF3 ⊢
  have w4:=WL.out _ _ hA3
  have w5:=HR.out _ _ hA3 hM3
  have p10:=hA3.o10
  have p12:=hA3.o12
  have wp1:=WP1.out u1
  have wm1:=WM1.out u1
  have HF3:=Lib.hid hF3
  clear hA3 hM3 hF3
  simp only[go_sem,seval]
  (repeat'(first|(with_reducible first|(refine Kof.use hKh ?_;clear hKh Kh)|(refine Kof.use hKb (P_next ?_);clear hKb Kb))|(((with_reducible first|refine call_ret can123 (w4) ?_|refine call_ret can127 (wp1) ?_|refine call_ret can126 (wm1) ?_|refine P_heads fun Kh hKh=>?_|refine P_each fun Kb hKb=>?_))<;>(try simp(disch:=omega) only[go_sem,seval,e1,e2, *]))))
 all_goals
  refine call_ex can124 w5 (fun a h=>?_)
  obtain⟨u2,me2⟩:=a
  obtain⟨hA4,hM4,hF4⟩:=h
  dsimp only at hA4 hM4 hF4 ⊢
  have w6:=WR.out _ _ hA4
  have r10:=hA4.o10
  have r11:=hA4.o11
  have r12:=hA4.o12
  have rc:=hA4.c2
  have wp2:=WP2.out u2
  have wm2:=WM2.out u2
  have wd:=WD.out u2
  have HF4:=Lib.hid hF4
  have HA4:=Lib.hid hA4
  have HM4:=Lib.hid hM4
  clear w4 w5 wp1 wm1 hA4 hM4 hF4
  simp only[go_sem,seval]
  (repeat'(first|refine Ctl ?_|(with_reducible first|(refine Kof.use hK ?_;clear hK hE K E)|(refine Kof.use hKh ?_;clear hKh Kh)|(refine Kof.use hKb (P_next ?_);clear hKb Kb))|(((with_reducible first|refine G_region fun K E hK hE=>?_|refine call_ret can123 (w6) ?_|refine call_ret can127 (wp2) ?_|refine call_ret can126 (wm2) ?_|refine call_ret can125 (wd) ?_|refine P_heads fun Kh hKh=>?_|refine P_fin fun Kh hKh=>?_|refine P_each fun Kb hKb=>?_))<;>(try simp(disch:=omega) only[go_sem,seval,e1,e2, *]))))
 all_goals(refine W_ret res124 hQ ?_)
 refine⟨_,_,Wk.refl _,Fg.refl _,(_,_),rfl,rfl,HA4.out.put (fun z hz=>St.set_other _ _ hz) (St.set_same _ _ _),?_,fun z hz=>?_⟩
 ·intro k x hk
  rw[lkZ_pt]at hk
  by_cases e:k=((ixN ns (.nd v l r):Nat):Int)
  ·rw[if_pos e]at hk
   injection hk with hk
   exact⟨_,HMM.out,e,by rw[HCN.out];exact hk.symm⟩
  ·rw[if_neg e]at hk
   exact HM4.out _ _ hk
 ·exact(St.set_other _ _ hz).trans ((HF4.out z hz).trans (HF3.out z hz))
theorem Sat2_S {n B:Nat}{ns:List Tr}{mk:Int}{J:SatB}{V:List (List VV)}{PZ:List (Int×Int)}{pos:Nat→Nat}(hN:NsOk n ns)(hV:V.length≤61):∀(t:Tr) {s:St} {me:List (Int×Int)},t∈ns→SatS s J n B ns mk V PZ me→MemoOk ns pos V.length me →
  (∀w,occT w t=true→lkZ (w:Int) PZ=some ((pos w:Nat):Int))→PosT pos V.length t→SatC s J n B ns mk V PZ pos t
 |.lf b,s,me,hm,hA,hM,hp,hP=>Sat2_lf hA hN hM
 |.nd v l r,s,me,hm,hA,hM,hp,hP=>by
  obtain⟨hl,hr⟩:=hN.ch _ _ _ hm
  cases hx:lkZ ((ixN ns (.nd v l r):Nat):Int) me with
  |some x=>exact Sat2_hit hA hN hM hm hx
  |none=>exact Sat2_nd hA hN hM hm hx hp hP hV (fun hA hM=>Sat2_S hN hV l hl hA hM (fun w hw=>hp w (by simp[occT,hw])) hP.2.2.2.1) (fun hA hM=>Sat2_S hN hV r hr hA hM (fun w hw=>hp w (by simp[occT,hw])) hP.2.2.2.2)
structure OpT (s:St) (K:OB) (n B:Nat) (ns:List Tr) (N':Nat) (T:Tr) (a:IteA):Prop where
 m:OMem a.1 a.2.1 n B a.2.2
 pre:∃l,a.2.2=ns++l
 mem:T∈a.2.2
 cnt:CntN a.2.2 N'
 k:OKeep s a.1 K a.2.1
def OpTC (f:FuncId)(xs:List VV)(s:St)(K:OB)(n B:Nat)(ns:List Tr)(N':Nat)(T:Tr):Prop:=
 SCalls Tryz.prog f xs s fun w u=>∃a:IteA,w=.ret (.tup [.int .i64 (ixN a.2.2 T:Nat),.int .i64 0])∧u=a.1∧OpT s K n B ns N' T a
theorem OpC.toT {f:FuncId}{xs:List VV}{s:St}{K:OB}{n B N m:Nat}{ns:List Tr}{T:Tr}(h:OpC f xs s K n B ns T)(hc:CntN ns N)(hm:SubN T m):OpTC f xs s K n B ns (N+m) T:=by
 refine SCalls.mono (h:=h) ?_
 rintro w u ⟨a,rfl,rfl,h1,h2,h3⟩
 exact⟨a,rfl,rfl,h1,h2.pre,h2.mem,hc.ext hm h2,h3⟩
theorem OMem.nomap {s:St}{K:OB}{n B:Nat}{ns:List Tr}(h:OMem s K n B ns){z:Nat}{es:List (VV×VV)}(hz:s z=.map es):¬ K.has z:=by
 obtain⟨mk,hm⟩:=h.st.mem
 obtain⟨ps,ht,_⟩:=h.st.tab
 obtain⟨d,c,ho⟩:=h.op
 rintro((e|e|e|e)|e|e)
 ·have:=hm.o;rw[← e,hz]at this;cases this
 ·have:=hm.r;rw[← e,hz]at this;cases this
 ·have:=ht.tab.o;rw[← e,hz]at this;cases this
 ·have:=ht.tab.r;rw[← e,hz]at this;cases this
 ·rw[← e,hz]at ho;cases ho
 ·rcases h with h|h
  ·rw[h.c]at e;have:=h.ob;rw[← e,hz]at this;cases this
  ·obtain⟨xs,he,_⟩:=h.ca;rw[← e,hz]at he;cases he
structure WKeep (s u:St) (K K':OB) (m:Nat):Prop where
 p:K'.s.p=K.s.p
 q:K'.s.q=K.s.q
 o:K'.o=K.o
 nw:∀z,K'.has z→K.has z∨s z=.free
 out:∀z,s z≠.free→¬ K.has z→z≠m→u z=s z
theorem WKeep.refl (s:St)(K:OB)(m:Nat):WKeep s s K K m:=⟨rfl,rfl,rfl,fun _ h=>.inl h,fun _ _ _ _=>rfl⟩
theorem WKeep.op {a b c:St}{K K' K'':OB}{m:Nat}(h:WKeep a b K K' m)(k:OKeep b c K' K'')(hm:b m≠.free):WKeep a c K K'' m:=by
 refine⟨k.p.trans h.p,k.q.trans h.q,k.o.trans h.o,fun z hz=>?_,fun z hz hn hzm=>?_⟩
 ·rcases k.nw z hz with e|e
  ·exact h.nw z e
  ·by_cases h1:K.has z
   ·exact .inl h1
   ·by_cases h2:a z=.free
    ·exact .inr h2
    ·by_cases h3:z=m
     ·exact absurd (h3 ▸ e) hm
     ·have:=h.out z h2 h1 h3
      rw[e]at this
      exact absurd this.symm h2
 ·have h1:=h.out z hz hn hzm
  rw[← h1]
  refine k.out z (by rw[h1];exact hz) fun h2=>?_
  rcases h.nw z h2 with e|e
  ·exact hn e
  ·exact hz e
theorem WKeep.set {a b:St}{K K':OB}{m:Nat}{x:Cell}(h:WKeep a b K K' m):WKeep a (b.set m x) K K' m:=
 ⟨h.p,h.q,h.o,h.nw,fun z hz hn hzm=>(St.set_other _ _ hzm).trans (h.out z hz hn hzm)⟩
def MemoW (ns:List Tr)(W:Tr→Tr)(me:List (Int×Int)):Prop:=∀k x,lkZ k me=some x→∃u,u∈ns∧W u∈ns∧k=((ixN ns u:Nat):Int)∧x=((ixN ns (W u):Nat):Int)
theorem MemoW.app {ns ns':List Tr}{W:Tr→Tr}{me:List (Int×Int)}(h:MemoW ns W me)(hp:∃l,ns'=ns++l):MemoW ns' W me:=fun k x hk=>by
 obtain⟨u,h1,h2,h3,h4⟩:=h k x hk
 exact⟨u,(sub_of hp h1).1,(sub_of hp h2).1,by rw[(sub_of hp h1).2];exact h3,by rw[(sub_of hp h2).2];exact h4⟩
abbrev WalkA:=St×OB×List Tr×List (Int×Int)
structure WalkR (s:St) (K:OB) (m n B:Nat) (ns:List Tr) (W:Tr→Tr) (N':Nat) (T:Tr) (a:WalkA):Prop where
 om:OMem a.1 a.2.1 n B a.2.2.1
 pre:∃l,a.2.2.1=ns++l
 mem:T∈a.2.2.1
 cnt:CntN a.2.2.1 N'
 k:WKeep s a.1 K a.2.1 m
 me:a.1 m=.map (mpZ encI a.2.2.2)
 ok:MemoW a.2.2.1 W a.2.2.2
def WalkC (q m:Nat)(g:FuncId)(caps:List VV)(W:Tr→Tr)(s0:St)(K0:OB)(s:St)(n B:Nat)(ns:List Tr)(N':Nat)(t:Tr):Prop:=
 SCalls Tryz.prog 77 [.ptr q 0,.int .i64 (ixN ns t:Nat),.mp m,.fn g caps] s fun w u=>∃a:WalkA,w=.ret (.tup [.int .i64 (ixN a.2.2.1 (W t):Nat),.int .i64 0])∧u=a.1∧WalkR s0 K0 m n B ns W N' (W t) a
def PutC (m:Nat)(g:FuncId)(caps:List VV)(put:Nat→Tr→Tr→Tr)(c:Nat→Nat)(P:Tr→Prop)(s0:St)(K0:OB)(n B:Nat):Prop:=
 ∀(u:St) (K:OB) (ns:List Tr) (N v:Nat) (l h:Tr),P (.nd v l h)→WKeep s0 u K0 K m→OMem u K n B ns→walkT put l∈ns→walkT put h∈ns→CntN ns N→N+c v≤B →
  OpTC g ([.int .i64 (v:Int),.int .i64 (ixN ns (walkT put l):Nat),.int .i64 (ixN ns (walkT put h):Nat)]++caps) u K n B ns (N+c v) (put v (walkT put l) (walkT put h))
theorem WalkC.ret {q m:Nat}{g:FuncId}{caps:List VV}{W:Tr→Tr}{s0:St}{K0:OB}{s:St}{K:OB}{n B N:Nat}{ns:List Tr}{t:Tr}{me:List (Int×Int)}(hO:OMem s K n B ns)(hk:WKeep s0 s K0 K m)(hm:s m=.map (mpZ encI me))(hM:MemoW ns W me)(hc:CntN ns N)(hW:W t∈ns)
  (h:SRet Tryz.prog 77 [.ptr q 0,.int .i64 (ixN ns t:Nat),.mp m,.fn g caps] s (.tup [.int .i64 (ixN ns (W t):Nat),.int .i64 0]) s):WalkC q m g caps W s0 K0 s n B ns N t:=by
 refine SCalls.mono (h:=h) ?_
 rintro w u ⟨rfl,rfl⟩
 exact⟨(u,K,ns,me),rfl,rfl,hO,⟨[],by simp⟩,hW,hc,hk,hm,hM⟩
set_option maxHeartbeats 4000000 in
theorem Qwalk_lf {q m:Nat}{g:FuncId}{caps:List VV}{put:Nat→Tr→Tr→Tr}{s0:St}{K0:OB}{s:St}{K:OB}{n B N:Nat}{ns:List Tr}{b:Bool}{me:List (Int×Int)}(hO:OMem s K n B ns)(hk:WKeep s0 s K0 K m)(hm:s m=.map (mpZ encI me))(hM:MemoW ns (walkT put) me)(hc:CntN ns N):WalkC q m g caps (walkT put) s0 K0 s n B ns N (.lf b):=by
 have hN:=hO.st.ok
 refine WalkC.ret hO hk hm hM hc (hN.lf b).1 ?_
 have hk2:ixN ns (.lf b)<2:=by rw[(hN.lf b).2];cases b<;>decide
 simp only[walkT]
 have h1:((ixN ns (.lf b):Nat):Int)<2:=by omega
 generalize ixN ns (.lf b)=k at *
 clear hM hN hk2 hO hk hm hc
 refine G_enter Tryz.func77 rfl Tryz.ntmps77 rfl fun Q hQ hQe=>?_
 (repeat'(first|refine Ctl ?_|((with_reducible refine Kof.use hK ?_);clear hK hE K E)|((with_reducible refine W_cond (fun h=>?_) (fun h=>?_))<;>(try(exfalso;assumption)))|(((with_reducible refine G_region fun K E hK hE=>?_))<;>(try simp(disch:=omega) only[go_sem,seval,h1, *]))))
 all_goals(refine W_ret res77 hQ ?_)
 all_goals exact⟨_,_,Wk.refl _,Fg.refl _,rfl,rfl⟩
set_option maxHeartbeats 4000000 in
theorem Qwalk_hit {q m:Nat}{g:FuncId}{caps:List VV}{put:Nat→Tr→Tr→Tr}{s0:St}{K0:OB}{s:St}{K:OB}{n B N:Nat}{ns:List Tr}{v:Nat}{l r:Tr}{me:List (Int×Int)}(hO:OMem s K n B ns)(hk:WKeep s0 s K0 K m)(hm:s m=.map (mpZ encI me))(hM:MemoW ns (walkT put) me)(hc:CntN ns N)(ht:.nd v l r∈ns)
  {x:Int} (hx:lkZ ((ixN ns (.nd v l r):Nat):Int) me=some x):WalkC q m g caps (walkT put) s0 K0 s n B ns N (.nd v l r):=by
 have hN:=hO.st.ok
 obtain⟨u,hu,hw,e1,rfl⟩:=hM _ _ hx
 have:=ixN_inj ht hu (by omega)
 subst this
 refine WalkC.ret hO hk hm hM hc hw ?_
 have h1:¬ ((ixN ns (.nd v l r):Nat):Int)<2:=by have:=hN.two ht;omega
 have hx1:(lkZ ((ixN ns (.nd v l r):Nat):Int) me).isSome=true:=by rw[hx];rfl
 have hx2:(lkZ ((ixN ns (.nd v l r):Nat):Int) me).getD 0=((ixN ns (walkT put (.nd v l r)):Nat):Int):=by rw[hx];rfl
 clear hx
 generalize ixN ns (.nd v l r)=k at *
 generalize ixN ns (walkT put (.nd v l r))=y at *
 clear hM hN ht hO hu e1 hk hc hw
 refine G_enter Tryz.func77 rfl Tryz.ntmps77 rfl fun Q hQ hQe=>?_
 (repeat'(first|refine Ctl ?_|((with_reducible refine Kof.use hK ?_);clear hK hE K E)|((with_reducible refine W_cond (fun h=>?_) (fun h=>?_))<;>(try(exfalso;assumption)))|(((with_reducible refine G_region fun K E hK hE=>?_))<;>(try simp(disch:=omega) only[go_sem,seval,h1,hx1,hx2, *]))))
 all_goals(refine W_ret res77 hQ ?_)
 all_goals exact⟨_,_,Wk.refl _,Fg.refl _,rfl,rfl⟩
set_option maxHeartbeats 8000000 in
theorem Qwalk_nd {q m:Nat}{g:FuncId}{caps:List VV}{put:Nat→Tr→Tr→Tr}{c:Nat→Nat}{P:Tr→Prop}{s0:St}{K0:OB}{n B:Nat}(hg:Callable Tryz.prog g)(hP:PutC m g caps put c P s0 K0 n B)(hq:s0 q=.obj 126 [.ptr K0.o 0,.ptr K0.s.p 0])(hqk:¬ K0.has q)(hqm:q≠m)(hmf:s0 m≠.free)(hmk:¬ K0.has m)
  {s:St} {K:OB} {N:Nat} {ns:List Tr} {v:Nat} {l r:Tr} {me:List (Int×Int)} (hO:OMem s K n B ns) (hk:WKeep s0 s K0 K m) (hm:s m=.map (mpZ encI me)) (hM:MemoW ns (walkT put) me) (hc:CntN ns N) (ht:.nd v l r∈ns) (hp:P (.nd v l r)) (hB:N+costT c (.nd v l r)≤B)
  (hx:lkZ ((ixN ns (.nd v l r):Nat):Int) me=none)
  (ihl:∀{s:St} {K:OB} {N:Nat} {ns:List Tr} {me:List (Int×Int)},OMem s K n B ns→WKeep s0 s K0 K m→s m=.map (mpZ encI me)→MemoW ns (walkT put) me→CntN ns N→l∈ns→N+costT c l≤B→WalkC q m g caps (walkT put) s0 K0 s n B ns (N+costT c l) l)
  (ihr:∀{s:St} {K:OB} {N:Nat} {ns:List Tr} {me:List (Int×Int)},OMem s K n B ns→WKeep s0 s K0 K m→s m=.map (mpZ encI me)→MemoW ns (walkT put) me→CntN ns N→r∈ns→N+costT c r≤B→WalkC q m g caps (walkT put) s0 K0 s n B ns (N+costT c r) r) :
  WalkC q m g caps (walkT put) s0 K0 s n B ns (N+costT c (.nd v l r)) (.nd v l r):=by
 have hN:=hO.st.ok
 obtain⟨hl,hr⟩:=hN.ch _ _ _ ht
 simp only[costT]at hB
 have h1:¬ ((ixN ns (.nd v l r):Nat):Int)<2:=by have:=hN.two ht;omega
 obtain⟨mk,hnm⟩:=hO.st.mem
 have w1:=Nnode_S s K.s.p K.s.g K.s.q n B (ixN ns (.nd v l r)) ns (.nd v l r) mk 0 hnm (ixN_get ht)
 rw[hk.p]at w1
 have hqf:s0 q≠.free:=by rw[hq];simp
 have hq1:=(hk.out q hqf hqk hqm).trans hq
 have hx1:(lkZ ((ixN ns (.nd v l r):Nat):Int) me).isSome=false:=by rw[hx];rfl
 have w2:=ihl hO hk hm hM hc hl (by omega)
 unfold WalkC at w2 ihr ⊢
 simp only[varN,lowN,highN]at w1
 have HQ:=Lib.hid (fun(u:St) (K':OB) (h:WKeep s0 u K0 K' m)=>(h.out q hqf hqk hqm).trans hq)
 have HIR:=Lib.hid (fun(s:St) (K:OB) (N:Nat) (ns:List Tr) (me:List (Int×Int))=>@ihr s K N ns me)
 have HT:=Lib.hid ht
 have HR:=Lib.hid hr
 have HPP:=Lib.hid hp
 have HP:=Lib.hid hP
 have HB:=Lib.hid hB
 have HMF:=Lib.hid hmf
 have HMK:=Lib.hid hmk
 clear hO hk hM hN hnm hc hl hr ht hp hP ihl ihr hx hB hq hqf hqk hqm hmf hmk
 generalize hkk:ixN ns (.nd v l r)=kk at *
 generalize hkl:ixN ns l=kl at *
 generalize hkr:ixN ns r=kr at *
 have HKK:=Lib.hid hkk
 have HKR:=Lib.hid hkr
 clear hkk hkl hkr
 refine G_enter Tryz.func77 rfl Tryz.ntmps77 rfl fun Q hQ hQe=>?_
 (repeat'(first|refine Ctl ?_|((with_reducible refine Kof.use hK ?_);clear hK hE K E)|((with_reducible refine W_cond (fun h=>?_) (fun h=>?_))<;>(try(exfalso;assumption)))|(((with_reducible first|refine G_region fun K E hK hE=>?_|refine call_ret can98 (w1) ?_))<;>(try simp(disch:=omega) only[go_sem,seval,h1,hx1, *]))))
 refine call_ex can77 w2 (fun a h=>?_)
 obtain⟨u1,K1,ns1,me1⟩:=a
 obtain⟨a1,a2,a3,a4,a5,a6,a7⟩:=h
 dsimp only at a1 a2 a3 a4 a5 a6 a7 ⊢
 obtain⟨r1,r2⟩:=sub_of a2 HR.out
 obtain⟨t1,t2⟩:=sub_of a2 HT.out
 have w3:=HIR.out _ _ _ _ _ a1 a5 a6 a7 a4 r1 (by have:=HB.out;omega)
 rw[r2,HKR.out]at w3
 rw[HKK.out]at t2
 have HT1:=Lib.hid t1
 have HT2:=Lib.hid t2
 have HL:=Lib.hid a3
 have HA2:=Lib.hid a2
 clear w1 w2 r1 r2 t1 t2 a1 a2 a3 a4 a5 a6 a7
 generalize hkl1:ixN ns1 (walkT put l)=kl1 at *
 have HKL1:=Lib.hid hkl1
 clear hkl1
 simp only[go_sem,seval]
 (repeat'(first|refine Ctl ?_|((with_reducible refine Kof.use hK ?_);clear hK hE K E)|((with_reducible refine W_cond (fun h=>?_) (fun h=>?_))<;>(try(exfalso;assumption)))|(((with_reducible refine G_region fun K E hK hE=>?_))<;>(try simp(disch:=omega) only[go_sem,seval, *]))))
 refine call_ex can77 w3 (fun a h=>?_)
 obtain⟨u2,K2,ns2,me2⟩:=a
 obtain⟨a1,a2,a3,a4,a5,a6,a7⟩:=h
 dsimp only at a1 a2 a3 a4 a5 a6 a7 ⊢
 obtain⟨l1,l2⟩:=sub_of a2 HL.out
 obtain⟨t1,t2⟩:=sub_of a2 HT1.out
 rw[HKL1.out]at l2
 rw[HT2.out]at t2
 have w4:=HP.out _ _ _ _ _ _ _ HPP.out a5 a1 l1 a3 a4 (by have:=HB.out;omega)
 rw[l2]at w4
 have HT3:=Lib.hid t1
 have HT4:=Lib.hid t2
 have HA3:=Lib.hid a2
 have HK2:=Lib.hid a5
 have HM2:=Lib.hid a7
 have HME2:=Lib.hid a6
 clear w3 l1 l2 t1 t2 a1 a2 a3 a4 a5 a6 a7
 generalize hkr2:ixN ns2 (walkT put r)=kr2 at *
 clear hkr2
 unfold OpTC at w4
 simp only[go_sem,seval]
 (repeat'(first|refine Ctl ?_|((with_reducible refine Kof.use hK ?_);clear hK hE K E)|((with_reducible refine W_cond (fun h=>?_) (fun h=>?_))<;>(try(exfalso;assumption)))|(((with_reducible refine G_region fun K E hK hE=>?_))<;>(try simp(disch:=omega) only[go_sem,seval, *]))))
 refine call_ex hg w4 (fun a h=>?_)
 obtain⟨u3,K3,ns3⟩:=a
 obtain⟨a1,a2,a3,a4,a5⟩:=h
 dsimp only at a1 a2 a3 a4 a5 ⊢
 have hmf2:u2 m≠.free:=by rw[HME2.out];simp
 have k3:=HK2.out.op a5 hmf2
 have hmk2:¬ K2.has m:=fun e=>by
  rcases HK2.out.nw m e with e|e
  ·exact HMK.out e
  ·exact HMF.out e
 have hm3:u3 m=.map (mpZ encI me2):=(a5.out m hmf2 hmk2).trans HME2.out
 have hmk3:¬ K3.has m:=a1.nomap hm3
 obtain⟨t1,t2⟩:=sub_of a2 HT3.out
 rw[HT4.out]at t2
 have HFIN:Hid (∀x:Int,x=((ixN ns3 (put v (walkT put l) (walkT put r)):Nat):Int)→WalkR s0 K0 m n B ns (walkT put) (N+(costT c l+costT c r+c v)) (walkT put (.nd v l r)) (u3.set m (.map (mpZ encI (ptZ (kk:Int) x me2))),K3,ns3,ptZ (kk:Int) x me2)):=Lib.hid fun x hxx=>by
  obtain⟨x1,hx1⟩:=HA2.out
  obtain⟨x2,hx2⟩:=HA3.out
  obtain⟨x3,hx3⟩:=a2
  refine⟨a1.keep fun z hz=>St.set_other _ _ fun e=>hmk3 (e ▸ hz),⟨x1++x2++x3,by rw[hx3,hx2,hx1];simp⟩,a3,?_,k3.set,St.set_same _ _ _,?_⟩
  ·exact a4.mono (by omega)
  ·intro k y hk
   rw[lkZ_pt]at hk
   by_cases e:k=(kk:Int)
   ·rw[if_pos e]at hk
    injection hk with hk
    exact⟨_,t1,a3,by rw[e,t2],by rw[← hk,hxx];rfl⟩
   ·rw[if_neg e]at hk
    exact(HM2.out.app ⟨x3,hx3⟩) _ _ hk
 clear w4 a1 a2 a3 a4 a5 hmf2 k3 hmk2 hmk3 t1 t2
 generalize hkx:ixN ns3 (put v (walkT put l) (walkT put r))=kx at *
 have HKX:=Lib.hid hkx
 clear hkx
 simp only[go_sem,seval]
 (repeat'(first|refine Ctl ?_|((with_reducible refine Kof.use hK ?_);clear hK hE K E)|((with_reducible refine W_cond (fun h=>?_) (fun h=>?_))<;>(try(exfalso;assumption)))|(((with_reducible refine G_region fun K E hK hE=>?_))<;>(try simp(disch:=omega) only[go_sem,seval, *]))))
 all_goals(refine W_ret res77 hQ ?_)
 all_goals exact⟨_,_,Wk.refl _,Fg.refl _,(_,K3,ns3,_),congrArg (fun z:Nat=>SEnd.ret (.tup [.int .i64 (z:Int),.int .i64 0])) HKX.out.symm,rfl,HFIN.out _ rfl⟩
theorem Qwalk_S {q m:Nat}{g:FuncId}{caps:List VV}{put:Nat→Tr→Tr→Tr}{c:Nat→Nat}{P:Tr→Prop}{s0:St}{K0:OB}{n B:Nat}(hg:Callable Tryz.prog g)(hP:PutC m g caps put c P s0 K0 n B)(hq:s0 q=.obj 126 [.ptr K0.o 0,.ptr K0.s.p 0])(hqk:¬ K0.has q)(hqm:q≠m)(hmf:s0 m≠.free)(hmk:¬ K0.has m)(hPc:∀v l h,P (.nd v l h)→P l∧P h) :
  ∀(t:Tr) {s:St} {K:OB} {N:Nat} {ns:List Tr} {me:List (Int×Int)},P t→OMem s K n B ns→WKeep s0 s K0 K m→s m=.map (mpZ encI me)→MemoW ns (walkT put) me→CntN ns N→t∈ns→N+costT c t≤B→WalkC q m g caps (walkT put) s0 K0 s n B ns (N+costT c t) t
 |.lf b,s,K,N,ns,me,hp,hO,hk,hm,hM,hc,ht,hB=>Qwalk_lf hO hk hm hM hc
 |.nd v l r,s,K,N,ns,me,hp,hO,hk,hm,hM,hc,ht,hB=>by
  obtain⟨p1,p2⟩:=hPc _ _ _ hp
  cases hx:lkZ ((ixN ns (.nd v l r):Nat):Int) me with
  |some x=>
   have:=Qwalk_hit (q:=q) (g:=g) (caps:=caps) hO hk hm hM (hc.mono (Nat.le_add_right N (costT c (.nd v l r)))) ht hx
   exact this
  |none=>exact Qwalk_nd hg hP hq hqk hqm hmf hmk hO hk hm hM hc ht hp hB hx (fun a b d e f g h=>Qwalk_S hg hP hq hqk hqm hmf hmk hPc l p1 a b d e f g h) (fun a b d e f g h=>Qwalk_S hg hP hq hqk hqm hmf hmk hPc r p2 a b d e f g h)
theorem inV_dep {S:List Nat}:∀{t:Tr},InV S t→DepF S (evT t)
 |.lf b,_,x,y,e=>rfl
 |.nd v l h,⟨h1,h2,h3⟩,x,y,e=>by
  simp only[evT]
  rw[e v h1,inV_dep h2 x y e,inV_dep h3 x y e]
theorem OMk_T {s:St}{K:OB}{n B v N m:Nat}{ns:List Tr}{a b:Tr}(hO:OMem s K n B ns)(ma:a∈ns)(mb:b∈ns)(oa:OkT n (v+1) a)(ob:OkT n (v+1) b)(hv:v<n)(hc:CntN ns N)(hm:SubN (mkT v a b) m)(hB:N+m≤B) :
  OpTC 79 [.ptr K.s.p 0,.int .i64 v,.int .i64 (ixN ns a:Nat),.int .i64 (ixN ns b:Nat)] s K n B ns (N+m) (mkT v a b):=by
 refine SCalls.mono (h:=Nmk_S hO.st ma mb oa ob hv (.of hc hm hB)) ?_
 rintro w u ⟨⟨u,K',ns'⟩,rfl,rfl,h1,h2,h3⟩
 exact⟨(u,⟨K',K.o,K.c⟩,ns'),rfl,rfl,hO.mk h1 h2 h3,h2.pre,h2.mem,hc.ext hm h2,h3.toO⟩
set_option maxHeartbeats 4000000 in
theorem Qmay_S {s:St}{K:OB}{n B q:Nat}{ns:List Tr}(hO:OMem s K n B ns)(hq:s q=.obj 126 [.ptr K.o 0,.ptr K.s.p 0])(vs ks:List Nat)(ow ow2:Own)(hv:∀v,v∈vs→v<n)(hl:vs.length≤256)(hk:∀k,k∈ks→k<ns.length)(hkl:ks.length≤1000000) :
  SRet Tryz.prog 75 [.ptr q 0,.lst (natsL vs) ow,.lst (natsL ks) ow2] s (.int .i64 0) s:=by
 have hvl:(natsL vs).length=vs.length:=natsL_len
 have hkl2:(natsL ks).length=ks.length:=natsL_len
 have hat:=fun i k (h:vs[i]?=some k)=>natsL_at h
 have hak:=fun i k (h:ks[i]?=some k)=>natsL_at h
 obtain⟨mk,hm⟩:=hO.st.mem
 have w1:=fun(k:Nat) (t:Tr) (hk:ns[k]?=some t)=>Nnode_S s K.s.p K.s.g K.s.q n B k ns t mk 0 hm hk
 have w2:=Nvars_S s K.s.p K.s.g K.s.q n B ns mk 0 hm
 have h256:¬ (vs.length:Int) > 256:=by omega
 generalize K.o=o at *
 generalize K.s.p=p at *
 clear hm hO
 have HV:=Lib.hid hv
 have HK:=Lib.hid hk
 have HA:=Lib.hid hat
 have HAK:=Lib.hid hak
 have HW:=Lib.hid w1
 clear hv hk hat hak w1
 generalize natsL vs=V at *
 generalize natsL ks=L at *
 refine G_enter Tryz.func75 rfl Tryz.ntmps75 rfl fun Q hQ hQe=>?_
 (repeat'(first|refine Ctl ?_|((with_reducible refine Kof.use hK ?_);clear hK hE K E)|((with_reducible refine W_cond (fun h=>?_) (fun h=>?_))<;>(try(exfalso;assumption)))|(((with_reducible refine G_region fun K E hK hE=>?_))<;>(try simp(disch:=omega) only[go_sem,seval,hvl,h256, *]))))
 refine L_loop (fun m env s'=>∃(i:Nat),i≤vs.length∧m+i=vs.length∧s'=s∧env 0=.ptr q 0∧env 2=.lst L ow2∧env 29=.lst V ow∧env 30=.int .i64 vs.length∧env 31=.int .i64 i) vs.length
  ⟨0,by omega,by omega,rfl,z_sl,z_sl,z_sl,z_sl,z_sl⟩ ?_
 rintro m env s' ⟨i,hi,hmi,rfl,e0,e2,e29,e30,e31⟩
 by_cases h2:i<vs.length
 ·have hk:=List.getElem?_eq_getElem h2
  have hvn:=HV.out _ (List.mem_of_getElem? hk)
  have hx:=HA.out _ _ hk
  clear hk
  generalize vs[i]=v at *
  have c1:¬ (v:Int)<0:=by omega
  have c2:¬ (v:Int)≥(n:Int):=by omega
  (repeat'(first|refine Ctl ?_|((with_reducible refine Kof.use hK ?_);clear hK hE K E)|((with_reducible refine W_cond (fun h=>?_) (fun h=>?_))<;>(try(exfalso;assumption)))|(((with_reducible first|refine G_region fun K E hK hE=>?_|refine call_ret can60 (w2) ?_))<;>(try simp(disch:=omega) only[go_sem,seval,hx,c1,c2, *]))))
  all_goals exact⟨m - 1,by omega,i+1,by omega,by omega,rfl,z_sl,z_sl,z_sl,z_sl,z_sl⟩
 ·(repeat'(first|refine Ctl ?_|((with_reducible refine Kof.use hK ?_);clear hK hE K E)|((with_reducible refine W_cond (fun h=>?_) (fun h=>?_))<;>(try(exfalso;assumption)))|(((with_reducible refine G_region fun K E hK hE=>?_))<;>(try simp(disch:=omega) only[go_sem,seval,hkl2, *]))))
  refine L_loop (fun m env s''=>∃(i:Nat),i≤ks.length∧m+i=ks.length∧s''=s'∧env 0=.ptr q 0∧env 47=.lst L ow2∧env 48=.int .i64 ks.length∧env 49=.int .i64 i) ks.length
   ⟨0,by omega,by omega,rfl,z_sl,z_sl,z_sl,z_sl⟩ ?_
  clear e0 e2 e29 e30 e31
  rintro m env s'' ⟨i,hi,hmi,rfl,e0,e47,e48,e49⟩
  by_cases h3:i<ks.length
  ·have hk:=List.getElem?_eq_getElem h3
   have hkn:=HK.out _ (List.mem_of_getElem? hk)
   have hx:=HAK.out _ _ hk
   have w1:=HW.out _ _ (List.getElem?_eq_getElem hkn)
   clear hk
   generalize ks[i]=k at *
   (repeat'(first|refine Ctl ?_|((with_reducible refine Kof.use hK ?_);clear hK hE K E)|((with_reducible refine W_cond (fun h=>?_) (fun h=>?_))<;>(try(exfalso;assumption)))|(((with_reducible first|refine G_region fun K E hK hE=>?_|refine call_ret can98 (w1) ?_))<;>(try simp(disch:=omega) only[go_sem,seval,hx, *]))))
   all_goals exact⟨m - 1,by omega,i+1,by omega,by omega,rfl,z_sl,z_sl,z_sl,z_sl⟩
  ·(repeat'(first|refine Ctl ?_|((with_reducible refine Kof.use hK ?_);clear hK hE K E)|((with_reducible refine W_cond (fun h=>?_) (fun h=>?_))<;>(try(exfalso;assumption)))|(((with_reducible refine G_region fun K E hK hE=>?_))<;>(try simp(disch:=omega) only[go_sem,seval, *]))))
   all_goals(refine W_ret res75 hQ ?_)
   all_goals exact⟨_,_,Wk.refl _,Fg.refl _,rfl,rfl⟩
set_option maxHeartbeats 4000000 in
theorem Qset_S (s:St)(vs:List Nat)(ow:Own)(hn:vs.Nodup)(hl:vs.length≤1000000) :
  SCalls Tryz.prog 76 [.lst (natsL vs) ow] s fun w u=>∃a:St×Nat,w=.ret (.mp a.2)∧u=a.1∧s a.2=.free∧a.1=s.set a.2 (.map (mpZ encB (seenZ vs))):=by
 have hvl:(natsL vs).length=vs.length:=natsL_len
 have hat:=fun i k (h:vs[i]?=some k)=>natsL_at h
 have HA:=Lib.hid hat
 have HN:=Lib.hid hn
 clear hat hn
 generalize natsL vs=V at *
 refine G_enter Tryz.func76 rfl Tryz.ntmps76 rfl fun Q hQ hQe=>?_
 (repeat'(first|refine Ctl ?_|((with_reducible refine Kof.use hK ?_);clear hK hE K E)|((first|(with_reducible refine G_region fun K E hK hE=>?_)|((with_reducible refine W_fresh (fun b hb=>?_))))<;>(try simp(disch:=omega) only[go_sem,seval,hvl, *]))))
 obtain⟨bm,hbm⟩:∃z,z=b:=⟨_,rfl⟩
 subst hbm
 have HBM:=Lib.hid hb
 refine L_loop (fun m env s'=>∃(i:Nat),i≤vs.length∧m+i=vs.length∧s'=s.set bm (.map (mpZ encB (seenZ (vs.take i))))∧env 3=.mp bm∧env 7=.lst V ow∧env 8=.int .i64 vs.length∧env 9=.int .i64 i) vs.length
  ⟨0,by omega,by omega,rfl,z_sl,z_sl,z_sl,z_sl⟩ ?_
 rintro m env s' ⟨i,hi,hmi,rfl,e3,e7,e8,e9⟩
 by_cases h2:i<vs.length
 ·have hk:=List.getElem?_eq_getElem h2
  have hx:=HA.out _ _ hk
  generalize vs[i]=k at hk hx
  have htk:vs.take (i+1)=vs.take i++[k]:=by rw[List.take_add_one,hk];rfl
  have hin:k∉vs.take i:=fun hin=>by
   have h1:(vs.take (i+1)).Nodup:=HN.out.sublist (List.take_sublist _ _)
   rw[htk,List.nodup_append]at h1
   exact h1.2.2 k hin k (by simp) rfl
  have hpt:=seenZ_pt hin
  rw[← htk]at hpt
  clear hk htk hin
  (repeat'(first|refine Ctl ?_|((with_reducible refine Kof.use hK ?_);clear hK hE K E)|((with_reducible refine W_cond (fun h=>?_) (fun h=>?_))<;>(try(exfalso;assumption)))|(((with_reducible refine G_region fun K E hK hE=>?_))<;>(try simp(disch:=omega) only[go_sem,seval,hx,hpt, *]))))
  all_goals exact⟨m - 1,by omega,i+1,by omega,by omega,rfl,z_sl,z_sl,z_sl,z_sl⟩
 ·have hin:i=vs.length:=by omega
  rw[hin,List.take_length]
  (repeat'(first|refine Ctl ?_|((with_reducible refine Kof.use hK ?_);clear hK hE K E)|((with_reducible refine W_cond (fun h=>?_) (fun h=>?_))<;>(try(exfalso;omega)))|(((with_reducible refine G_region fun K E hK hE=>?_))<;>(try simp(disch:=omega) only[go_sem,seval, *]))))
  all_goals(refine W_ret res76 hQ ?_)
  exact⟨_,_,Wk.refl _,Fg.refl _,(_,bm),rfl,rfl,HBM.out,rfl⟩
structure CloS (u:St) (K:OB) (q bq bg mg:Nat) (T:TypeId) (es:List (VV×VV)):Prop where
 o1:u q=.obj 126 [.ptr K.o 0,.ptr K.s.p 0]
 o2:u bq=.obj 60 [.ptr q 0]
 o3:u bg=.obj T [.mp mg]
 o4:u mg=.map es
theorem costS_le {n:Nat}{S:List Nat}{c:Nat→Nat}(hc:∀v,c v≤2 ^ kkS S v+1){t:Tr}(ho:OkT n 0 t)(hi:InV S t):costT c t≤(S.length+2) * 2 ^ S.length:=by
 have h:=cost_le hc (fun p q h=>kkS_mono h) (fun v h=>kkS_step h) ho hi
 have h2:(kkS S 0+2) * 2 ^ kkS S 0≤(S.length+2) * 2 ^ S.length:=Nat.mul_le_mul (Nat.add_le_add_right kkS_le 2) (Nat.pow_le_pow_right (by omega) kkS_le)
 omega
theorem WKeep.toO {s u a:St}{K K':OB}{m:Nat}(h:WKeep u a K K' m)(hg:∀z,s z≠.free→u z=s z)(hm:s m=.free):OKeep s a K K':=
 ⟨h.p,h.q,h.o,fun z hz=>by
  rcases h.nw z hz with e|e
  ·exact .inl e
  ·refine .inr ?_
   by_cases h1:s z=.free
   ·exact h1
   ·exact(hg z h1).symm.trans e,fun z hz hn=>by
  have h1:=hg z hz
  exact(h.out z (by rw[h1];exact hz) hn fun e=>hz (e ▸ hm)).trans h1⟩
def byZ (fr tt:List Nat):List (Int×Int):=(fr.zip tt).map fun p=>((p.1:Int),(p.2:Int))
def renB (fr tt:List Nat)(v:Nat):Nat:=match lkZ (v:Int) (byZ fr tt)with
 |some w=>w.toNat
 |none=>v
theorem byZ_fst {fr tt:List Nat}(h:tt.length=fr.length):(byZ fr tt).map (·.1)=fr.map fun(k:Nat)=>(k:Int):=by
 simp only[byZ,List.map_map]
 show (fr.zip tt).map (fun p=>((p.1:Nat):Int))=_
 have e2:=List.map_map (f:=Prod.fst) (g:=fun k:Nat=>(k:Int)) (l:=fr.zip tt)
 rw[List.map_fst_zip (by omega)]at e2
 exact e2.symm
theorem byZ_take {fr tt:List Nat}{i v w:Nat}(hl:tt.length=fr.length)(hn:fr.Nodup)(h1:fr[i]?=some v)(h2:tt[i]?=some w):ptZ (v:Int) (w:Int) (byZ (fr.take i) (tt.take i))=byZ (fr.take (i+1)) (tt.take (i+1)):=by
 have hno:lkZ (v:Int) (byZ (fr.take i) (tt.take i))=none:=by
  rw[lkZ_none,byZ_fst (by rw[List.length_take,List.length_take,hl])]
  intro h
  obtain⟨a,ha,e⟩:=List.mem_map.1 h
  have:a=v:=by omega
  subst this
  have h3:(fr.take (i+1)).Nodup:=hn.sublist (List.take_sublist _ _)
  rw[List.take_add_one,h1,List.nodup_append]at h3
  exact h3.2.2 a ha a (by simp) rfl
 have hi:i<fr.length:=(List.getElem?_eq_some_iff.1 h1).1
 rw[ptZ_new hno,List.take_add_one,List.take_add_one,h1,h2]
 simp only[byZ,Option.toList]
 rw[List.zip_append (by rw[List.length_take,List.length_take,hl])]
 simp
theorem lkZ_pair {k x:Int}:∀{l:List (Int×Int)},(l.map (·.1)).Nodup→(k,x)∈l→lkZ k l=some x
 |[],_,h=>by cases h
 |(a,y)::l,hn,h=>by
  simp only[List.map_cons,List.nodup_cons]at hn
  simp only[lkZ]
  rcases List.mem_cons.1 h with h|h
  ·injection h with h1 h2
   rw[if_pos h1,h2]
  ·rw[if_neg fun e=>hn.1 (by rw[← e];exact List.mem_map_of_mem (f:=(·.1)) h)]
   exact lkZ_pair hn.2 h
theorem renB_at {fr tt:List Nat}(hl:tt.length=fr.length)(hn:fr.Nodup){i v w:Nat}(h1:fr[i]?=some v)(h2:tt[i]?=some w):renB fr tt v=w:=by
 have hm:((v:Int),(w:Int))∈byZ fr tt:=by
  refine List.mem_map.2 ⟨(v,w),?_,rfl⟩
  rw[List.mem_iff_getElem?]
  exact⟨i,by rw[List.getElem?_zip_eq_some];exact⟨h1,h2⟩⟩
 have hnd:((byZ fr tt).map (·.1)).Nodup:=by
  rw[byZ_fst hl]
  exact List.Pairwise.map _ (fun a b h e=>h (by omega)) hn
 unfold renB
 rw[lkZ_pair hnd hm]
 rfl
theorem lkZ_val {k x:Int}:∀{l:List (Int×Int)},lkZ k l=some x→(k,x)∈l
 |[],h=>by cases h
 |(a,y)::l,h=>by
  simp only[lkZ]at h
  split at h
  ·rename_i e;injection h with h;rw[e,h];exact List.mem_cons_self ..
  ·exact List.mem_cons_of_mem _ (lkZ_val h)
theorem renB_lt {fr tt:List Nat}{n v:Nat}(ht:∀w,w∈tt→w<n)(hv:v<n):renB fr tt v<n:=by
 unfold renB
 cases h:lkZ (v:Int) (byZ fr tt)with
 |none=>exact hv
 |some w=>
  obtain⟨p,hp,e⟩:=List.mem_map.1 (lkZ_val h)
  injection e with e1 e2
  have:=ht _ (List.of_mem_zip hp).2
  show w.toNat<n
  omega
theorem okT_filter {n:Nat}{S:List Nat}:∀{t:Tr} {m j:Nat},OkT n m t→j≤m→InV S t→InV (S.filter fun v=>decide (j≤v)) t
 |.lf _,_,_,_,_,_=>trivial
 |.nd v l h,m,j,⟨h1,h2,h3,h4,h5⟩,hj,⟨i1,i2,i3⟩=>⟨List.mem_filter.2 ⟨i1,by simp;omega⟩,okT_filter h4 (by omega) i2,okT_filter h5 (by omega) i3⟩
theorem rnT_subN {n m:Nat}{S:List Nat}{by_:Nat→Nat}(hb:∀v,v<n→by_ v<n){t:Tr}(ho:OkT n m t)(hi:InV S t):SubN (rnT n by_ t) (2 ^ kkS S m - 1):=by
 refine subN_dep (S:=(S.filter fun v=>decide (m≤v)).map by_) (rnT_ok (t:=t)) (inV_of (rnT_ok (t:=t)) ?_) ?_
 ·have e:evT (rnT n by_ t)=rnF by_ (evT t):=by
   funext x
   exact rnT_ev hb ho x
  rw[e]
  exact rnF_dep (inV_dep (okT_filter ho (Nat.le_refl _) hi))
 ·rw[List.length_map,← List.countP_eq_length_filter]
  exact Nat.le_refl _
set_option maxHeartbeats 4000000 in
theorem Rename1_S {u:St}{K:OB}{n B N m q bq bg mg v:Nat}{ns:List Tr}{a b:Tr}{fr tt:List Nat}(hC:CloS u K q bq bg mg 146 (mpZ encI (byZ fr tt)))(hO:OMem u K n B ns)(ma:a∈ns)(mb:b∈ns)(hv:v<n)(htt:∀w,w∈tt→w<n)(hc:CntN ns N)
  (hm:SubN (rnP n (renB fr tt) v a b) m) (hB:N+(m+1)≤B) :
  OpTC 101 [.int .i64 (v:Int),.int .i64 (ixN ns a:Nat),.int .i64 (ixN ns b:Nat),.ptr bg 0,.ptr bq 0] u K n B ns (N+(m+1)) (rnP n (renB fr tt) v a b):=by
 obtain⟨c1,c2,c3,c4⟩:=hC
 have hrl:=renB_lt (fr:=fr) htt hv
 have hN:=hO.st.ok
 have hs1:SubN (mkT (renB fr tt v) (.lf false) (.lf true)) 1:=by
  refine⟨[mkT (renB fr tt v) (.lf false) (.lf true)],by simp,fun t ht=>?_⟩
  simpa [mkT,subsT]using ht
 have wm:=OMk_T hO (hN.lf false).1 (hN.lf true).1 (v:=renB fr tt v) (by trivial) (by trivial) hrl hc hs1 (by omega)
 rw[(hN.lf false).2,(hN.lf true).2]at wm
 have wi:=fun(u':St) (K':OB) (ns':List Tr) (h:OpT u K n B ns (N+1) (mkT (renB fr tt v) (.lf false) (.lf true)) (u',K',ns'))=>(OIte_S h.m h.mem (sub_of h.pre mb).1 (sub_of h.pre ma).1 (.of h.cnt hm (by omega))).toT h.cnt hm
 have hixa:=fun(u':St) (K':OB) (ns':List Tr) (h:OpT u K n B ns (N+1) (mkT (renB fr tt v) (.lf false) (.lf true)) (u',K',ns'))=>And.intro (sub_of h.pre ma).2 (sub_of h.pre mb).2
 have hqk:¬ K.has q:=hO.types c1 (by decide) (by decide) (by decide)
 have hqk2:¬ K.has bq:=hO.types c2 (by decide) (by decide) (by decide)
 have WI:=Lib.hid wi
 have HX:=Lib.hid hixa
 have HQK:=Lib.hid hqk
 have HQK2:=Lib.hid hqk2
 have hlk:(lkZ (v:Int) (byZ fr tt)=none∧renB fr tt v=v)∨∃w:Nat,lkZ (v:Int) (byZ fr tt)=some (w:Int)∧renB fr tt v=w:=by
  unfold renB
  cases h:lkZ (v:Int) (byZ fr tt)with
  |none=>exact .inl ⟨rfl,rfl⟩
  |some w=>
   refine .inr ⟨w.toNat,?_,rfl⟩
   obtain⟨p,hp,e⟩:=List.mem_map.1 (lkZ_val h)
   injection e with e1 e2
   congr 1
   omega
 have rnP_def:rnP n (renB fr tt) v a b=iteT n (mkT (renB fr tt v) (.lf false) (.lf true)) b a:=rfl
 unfold OpTC at wm ⊢
 clear hO ma mb hv htt hc hm hB wi hixa hqk hqk2 hN hs1 hrl
 rw[rnP_def]
 generalize hrb:renB fr tt v=rv at *
 generalize hka:ixN ns a=ka at *
 generalize hkb:ixN ns b=kb at *
 clear rnP_def
 generalize byZ fr tt=BZ at *
 have key:∀(u':St) (K':OB) (ns':List Tr) (h:OpT u K n B ns (N+1) (mkT rv (.lf false) (.lf true)) (u',K',ns')),u' q=.obj 126 [.ptr K.o 0,.ptr K.s.p 0]∧u' bq=.obj 60 [.ptr q 0] ∧
   OpTC 72 [.ptr K.o 0,.int .i64 (ixN ns' (mkT rv (.lf false) (.lf true)):Nat),.int .i64 (kb:Int),.int .i64 (ka:Int)] u' K' n B ns' (N+1+m) (iteT n (mkT rv (.lf false) (.lf true)) b a):=fun u' K' ns' h=>by
  have w:=WI.out u' K' ns' h
  have hx:=HX.out u' K' ns' h
  dsimp only at w hx
  rw[hx.1,hx.2,h.k.o]at w
  exact⟨(h.k.out q (by rw[c1];simp) HQK.out).trans c1,(h.k.out bq (by rw[c2];simp) HQK2.out).trans c2,w⟩
 have HKEY:=Lib.hid key
 clear WI HX key
 have fin:∀(u':St) (K':OB) (ns':List Tr) (h:OpT u K n B ns (N+1) (mkT rv (.lf false) (.lf true)) (u',K',ns')) (a3:IteA),OpT u' K' n B ns' (N+1+m) (iteT n (mkT rv (.lf false) (.lf true)) b a) a3→OpT u K n B ns (N+(m+1)) (iteT n (mkT rv (.lf false) (.lf true)) b a) a3:=fun u' K' ns' h a3 h3=>by
  obtain⟨x1,e1⟩:=h.pre
  obtain⟨x2,e2⟩:=h3.pre
  dsimp only at e1
  exact⟨h3.m,⟨x1++x2,by rw[e2,e1];simp⟩,h3.mem,h3.cnt.mono (by omega),h.k.trans h3.k⟩
 have HFIN:=Lib.hid fin
 clear fin
 rcases hlk with ⟨l1,l2⟩|⟨w,l1,l2⟩
 ·have hi1:(lkZ (v:Int) BZ).isSome=false:=by rw[l1];rfl
  subst l2
  clear l1
  refine G_enter Tryz.func101 rfl Tryz.ntmps101 rfl fun Q hQ hQe=>?_
  (repeat'(first|refine Ctl ?_|((with_reducible refine Kof.use hK ?_);clear hK hE K E)|((with_reducible refine W_cond (fun h=>?_) (fun h=>?_))<;>(try(exfalso;assumption)))|(((with_reducible refine G_region fun K E hK hE=>?_))<;>(try simp(disch:=omega) only[go_sem,seval,hi1, *]))))
  refine call_ex can79 wm (fun a h=>?_)
  obtain⟨u1,K1,ns1⟩:=a
  obtain⟨k1,k2,wi⟩:=HKEY.out _ _ _ h
  have HF:=Lib.hid (HFIN.out _ _ _ h)
  dsimp only
  unfold OpTC at wi
  clear h wm HKEY HFIN
  generalize ixN ns1 (mkT rv (.lf false) (.lf true))=kx at *
  simp only[go_sem,seval]
  (repeat'(first|refine Ctl ?_|((with_reducible refine Kof.use hK ?_);clear hK hE K E)|((with_reducible refine W_cond (fun h=>?_) (fun h=>?_))<;>(try(exfalso;assumption)))|(((with_reducible refine G_region fun K E hK hE=>?_))<;>(try simp(disch:=omega) only[go_sem,seval, *]))))
  refine call_ex can72 wi (fun a3 h3=>?_)
  have H:=Lib.hid (HF.out _ h3)
  obtain⟨u3,K3,ns3⟩:=a3
  dsimp only
  clear h3 wi HF
  simp only[go_sem,seval]
  (repeat'(first|refine Ctl ?_|((with_reducible refine Kof.use hK ?_);clear hK hE K E)))
  (refine W_ret res101 hQ ?_)
  exact⟨_,_,Wk.refl _,Fg.refl _,(u3,K3,ns3),rfl,rfl,H.out⟩
 ·have hi1:(lkZ (v:Int) BZ).isSome=true:=by rw[l1];rfl
  have hi2:(lkZ (v:Int) BZ).getD 0=(w:Int):=by rw[l1];rfl
  subst l2
  clear l1
  refine G_enter Tryz.func101 rfl Tryz.ntmps101 rfl fun Q hQ hQe=>?_
  (repeat'(first|refine Ctl ?_|((with_reducible refine Kof.use hK ?_);clear hK hE K E)|((with_reducible refine W_cond (fun h=>?_) (fun h=>?_))<;>(try(exfalso;assumption)))|(((with_reducible refine G_region fun K E hK hE=>?_))<;>(try simp(disch:=omega) only[go_sem,seval,hi1,hi2, *]))))
  refine call_ex can79 wm (fun a h=>?_)
  obtain⟨u1,K1,ns1⟩:=a
  obtain⟨k1,k2,wi⟩:=HKEY.out _ _ _ h
  have HF:=Lib.hid (HFIN.out _ _ _ h)
  dsimp only
  unfold OpTC at wi
  clear h wm HKEY HFIN
  generalize ixN ns1 (mkT rv (.lf false) (.lf true))=kx at *
  simp only[go_sem,seval]
  (repeat'(first|refine Ctl ?_|((with_reducible refine Kof.use hK ?_);clear hK hE K E)|((with_reducible refine W_cond (fun h=>?_) (fun h=>?_))<;>(try(exfalso;assumption)))|(((with_reducible refine G_region fun K E hK hE=>?_))<;>(try simp(disch:=omega) only[go_sem,seval, *]))))
  refine call_ex can72 wi (fun a3 h3=>?_)
  have H:=Lib.hid (HF.out _ h3)
  obtain⟨u3,K3,ns3⟩:=a3
  dsimp only
  clear h3 wi HF
  simp only[go_sem,seval]
  (repeat'(first|refine Ctl ?_|((with_reducible refine Kof.use hK ?_);clear hK hE K E)))
  (refine W_ret res101 hQ ?_)
  exact⟨_,_,Wk.refl _,Fg.refl _,(u3,K3,ns3),rfl,rfl,H.out⟩
set_option maxHeartbeats 4000000 in
theorem Qrename_S {s:St}{KK:OB}{n B N q:Nat}{ns:List Tr}{f:(Nat→Bool)→Bool}{S fr tt:List Nat}(hO:OMem s KK n B ns)(hq:s q=.obj 126 [.ptr KK.o 0,.ptr KK.s.p 0])(hf:DepF S f)(hS:∀v,v∈S→v<n)(mf:treeT n f∈ns)(ow ow2:Own)(hlen:tt.length=fr.length)(hfn:fr.Nodup)(hfl:∀v,v∈fr→v<n)(htl:∀v,v∈tt→v<n)(hl:fr.length≤256)(hc:CntN ns N)(hB:N+(S.length+2) * 2 ^ S.length≤B) :
  OpFC 67 [.ptr q 0,.int .i64 (ixF n ns f:Nat),.lst (natsL fr) ow,.lst (natsL tt) ow2] s KK n B ns (N+(S.length+2) * 2 ^ S.length) (rnF (renB fr tt) f):=by
 have hqf:s q≠.free:=by rw[hq];simp
 have hqk:¬ KK.has q:=hO.types hq (by decide) (by decide) (by decide)
 have hm0:=fun(u:St) (h:∀z,s z≠.free→u z=s z)=>Qmay_S (hO.keep fun z hz=>h z (hO.live hz)) ((h q hqf).trans hq) tt [ixF n ns f] ow2 .full htl (by omega) (fun k hk=>by rw[List.mem_singleton]at hk;subst hk;exact ixN_lt mf) (by simp)
 rw[show natsL [ixF n ns f]=[[.int .i64 ((ixF n ns f:Nat):Int)]] from rfl]at hm0
 have hm1:=fun(u:St) (h:∀z,s z≠.free→u z=s z)=>Qmay_S (hO.keep fun z hz=>h z (hO.live hz)) ((h q hqf).trans hq) fr [] ow .full hfl hl (fun k hk=>by cases hk) (by simp)
 rw[show natsL []=[] from rfl]at hm1
 have hll:(natsL fr).length=fr.length:=natsL_len
 have hll2:(natsL tt).length=fr.length:=by rw[natsL_len,hlen]
 have hsz:(mpZ encB (seenZ fr)).length=fr.length:=by simp[mpZ,seenZ]
 have hat:=fun i k (h:fr[i]?=some k)=>natsL_at h
 have hat2:=fun i k (h:tt[i]?=some k)=>natsL_at h
 have HAT:=Lib.hid hat
 have HAT2:=Lib.hid hat2
 have WM:=Lib.hid hm0
 have WM1:=Lib.hid hm1
 clear hm0 hm1 hat hat2
 refine G_enter Tryz.func67 rfl Tryz.ntmps67 rfl fun Q hQ hQe=>?_
 (repeat'(first|refine Ctl ?_|((with_reducible refine Kof.use hK ?_);clear hK hE K E)|((first|(with_reducible refine G_region fun K E hK hE=>?_)|((with_reducible refine W_fresh (fun b hb=>?_))))<;>(try simp(disch:=omega) only[go_sem,seval,hll,hll2, *]))))
 obtain⟨bq,hbq⟩:∃z,z=b:=⟨_,rfl⟩
 subst hbq
 obtain⟨u0,hu0⟩:∃u,u=s.set bq (.obj 60 [.ptr q 0]):=⟨_,rfl⟩
 rw[← hu0]
 have g0:∀z,s z≠.free→u0 z=s z:=fun z hz=>by rw[hu0,St.set_other _ _ (nef hb hz).1]
 have k0:u0 bq=.obj 60 [.ptr q 0]:=by rw[hu0,St.set_same]
 have ws:=Qset_S u0 fr ow hfn (by omega)
 have hbs:s bq=.free:=hb
 clear hu0 hb
 refine call_ex can76 ws (fun a h=>?_)
 obtain⟨u1,mg0⟩:=a
 obtain⟨hmf,hu1⟩:=h
 dsimp only at hmf hu1 ⊢
 have g1:∀z,u0 z≠.free→u1 z=u0 z:=fun z hz=>by rw[hu1,St.set_other _ _ (nef hmf hz).1]
 have m1:u1 mg0=.map (mpZ encB (seenZ fr)):=by rw[hu1,St.set_same]
 have k1:u1 bq=.obj 60 [.ptr q 0]:=(g1 bq (by rw[k0];simp)).trans k0
 have gs:∀z,s z≠.free→u1 z=s z:=fun z hz=>(g1 z (by rw[g0 z hz];exact hz)).trans (g0 z hz)
 have wm:=WM.out u1 gs
 have wm1:=WM1.out u1 gs
 have hsl:(seenZ fr).length=fr.length:=by simp[seenZ]
 clear hu1 ws
 simp only[go_sem,seval,m1,hsz,hsl]
 have hbqf:u1 bq≠.free:=by rw[k1];simp
 (repeat'(first|refine Ctl ?_|((with_reducible refine Kof.use hK ?_);clear hK hE K E)|((with_reducible refine W_cond (fun h=>?_) (fun h=>?_))<;>(try(exfalso;assumption)))|((first|(with_reducible first|refine G_region fun K E hK hE=>?_|refine call_ret can75 (wm1) ?_)|((with_reducible refine W_gd (fun h=>?_) (fun h=>?_))<;>(try(exfalso;omega))))<;>(try simp(disch:=omega) only[go_sem,seval,hll,hll2,m1,hsl,hsz, *]))))
 (repeat'(first|refine Ctl ?_|((with_reducible refine Kof.use hK ?_);clear hK hE K E)|((with_reducible refine W_cond (fun h=>?_) (fun h=>?_))<;>(try(exfalso;assumption)))|((first|(with_reducible first|refine G_region fun K E hK hE=>?_|refine call_ret can75 (wm) ?_)|((with_reducible refine W_fresh (fun b hb=>?_));(repeat(obtain⟨_,hb⟩:=hb));(try(obtain⟨_,_⟩:=nef hb hbqf))))<;>(try simp(disch:=omega) only[go_sem,seval,hll,hll2, *]))))
 rename_i _ _ mg hbm n1 n1' n2 n2' n3 n3'
 obtain⟨bg,hbb⟩:∃z,z=b:=⟨_,rfl⟩
 subst hbb
 have hbg:u1 bg=.free:=hb
 have hst:(u1.set mg (.map [])).set bg (.obj 146 [.mp mg])=(u1.set bg (.obj 146 [.mp mg])).set mg (.map (mpZ encI (byZ (fr.take 0) (tt.take 0)))):=by
  funext z
  by_cases e1:z=bg
  ·subst e1;rw[St.set_same,St.set_other _ _ n2,St.set_same]
  ·rw[St.set_other _ _ e1]
   by_cases e2:z=mg
   ·subst e2;rw[St.set_same,St.set_same];rfl
   ·rw[St.set_other _ _ e2,St.set_other _ _ e2,St.set_other _ _ e1]
 rw[hst]
 obtain⟨uB,huB⟩:∃u,u=u1.set bg (.obj 146 [.mp mg]):=⟨_,rfl⟩
 rw[← huB]
 have gB:∀z,u1 z≠.free→uB z=u1 z:=fun z hz=>by rw[huB,St.set_other _ _ (nef hbg hz).1]
 have fB:uB bg=.obj 146 [.mp mg]:=by rw[huB,St.set_same]
 have fM:uB mg=.free:=by rw[huB,St.set_other _ _ (fun e=>n2 e.symm)];exact hbm
 have fQ:uB bq=.obj 60 [.ptr q 0]:=(gB bq (by rw[k1];simp)).trans k1
 have HG:=Lib.hid (And.intro gs (And.intro gB (And.intro hbm hbg)))
 have HFN:=Lib.hid hfn
 have HLEN:=Lib.hid hlen
 clear hst huB gs gB hb hbm hbg wm wm1 m1 k1 g1 g0 k0 hbqf hsz hsl n3 n3' hmf
 refine L_loop (fun m env s'=>∃(i:Nat),i≤fr.length∧m+i=fr.length∧s'=uB.set mg (.map (mpZ encI (byZ (fr.take i) (tt.take i))))∧env 1=.int .i64 ((ixF n ns f:Nat):Int)∧env 3=.lst (natsL tt) ow2∧env 4=.ptr bq 0∧env 11=.ptr bg 0∧env 42=.lst (natsL fr) ow∧env 43=.int .i64 fr.length∧env 44=.int .i64 i) fr.length
  ⟨0,by omega,by omega,rfl,z_sl,z_sl,z_sl,z_sl,z_sl,z_sl,z_sl⟩ ?_
 rintro m env s' ⟨i,hi,hmi,rfl,e1,e3,e4,e11,e42,e43,e44⟩
 by_cases h2:i<fr.length
 ·have hk:=List.getElem?_eq_getElem h2
  have hk2:=List.getElem?_eq_getElem (show i<tt.length by have:=HLEN.out;omega)
  have hx:=HAT.out _ _ hk
  have hx2:=HAT2.out _ _ hk2
  have hpt:=byZ_take HLEN.out HFN.out hk hk2
  clear hk hk2
  generalize fr[i]=v at *
  generalize tt[i]=w at *
  generalize hF:byZ (fr.take i) (tt.take i)=BZ at *
  clear hF
  (repeat'(first|refine Ctl ?_|(with_reducible first|(refine Kof.use hK ?_;clear hK hE K E)|(refine Kof.use hKh ?_;clear hKh Kh)|(refine Kof.use hKb (P_next ?_);clear hKb Kb)|refine G_plan 10 [([0,1,2,3,4,5],6,[[]])] [] hQe fun K E hK hE=>?_)|((with_reducible refine W_cond (fun h=>?_) (fun h=>?_))<;>(try(exfalso;assumption)))|(((with_reducible first|refine G_region fun K E hK hE=>?_|refine P_heads fun Kh hKh=>?_|refine P_fin fun Kh hKh=>?_|refine P_each fun Kb hKb=>?_))<;>(try simp(disch:=omega) only[go_sem,seval,hx,hx2,hll2,hpt, *]))))
  all_goals exact⟨m - 1,by omega,i+1,by omega,by omega,rfl,z_sl,z_sl,z_sl,z_sl,z_sl,z_sl,z_sl⟩
 ·have hin:i=fr.length:=by omega
  have htl2:tt.take fr.length=tt:=by rw[← HLEN.out,List.take_length]
  rw[hin,List.take_length,htl2]
  clear hmi e3 e42
  obtain⟨u2,hu2⟩:∃u,u=uB.set mg (.map (mpZ encI (byZ fr tt))):=⟨_,rfl⟩
  rw[← hu2]
  have p1:∀z,uB z≠.free→u2 z=uB z:=fun z hz=>by rw[hu2,St.set_other _ _ (nef fM hz).1]
  have p2:u2 mg=.map (mpZ encI (byZ fr tt)):=by rw[hu2,St.set_same]
  have p3:u2 bg=.obj 146 [.mp mg]:=(p1 bg (by rw[fB];simp)).trans fB
  have p4:u2 bq=.obj 60 [.ptr q 0]:=(p1 bq (by rw[fQ];simp)).trans fQ
  have hbqf:u2 bq≠.free:=by rw[p4];simp
  clear hu2
  (repeat'(first|refine Ctl ?_|((with_reducible refine Kof.use hK ?_);clear hK hE K E)|((with_reducible refine W_cond (fun h=>?_) (fun h=>?_))<;>(try(exfalso;omega)))|((first|(with_reducible refine G_region fun K E hK hE=>?_)|((with_reducible refine W_fresh (fun b hb=>?_));(try(obtain⟨_,_⟩:=nef hb hbqf))))<;>(try simp(disch:=omega) only[go_sem,seval, *]))))
  obtain⟨m,hmm⟩:∃z,z=b:=⟨_,rfl⟩
  subst hmm
  have hbm2:u2 m=.free:=hb
  obtain⟨u3,hu3⟩:∃u,u=u2.set m (.map []):=⟨_,rfl⟩
  rw[← hu3]
  obtain⟨hgs,hgB,hbmm,hbgg⟩:=HG.out
  have q1:∀z,u2 z≠.free→u3 z=u2 z:=fun z hz=>by rw[hu3,St.set_other _ _ (nef hbm2 hz).1]
  have g2:∀z,s z≠.free→u2 z=s z:=fun z hz=>by
   have a1:=hgs z hz
   have a2:=hgB z (by rw[a1];exact hz)
   rw[p1 z (by rw[a2,a1];exact hz),a2,a1]
  have g3:∀z,s z≠.free→u3 z=s z:=fun z hz=>(q1 z (by rw[g2 z hz];exact hz)).trans (g2 z hz)
  have m2:u3 m=.map (mpZ encI []):=by rw[hu3,St.set_same];rfl
  have c3:u3 bg=.obj 146 [.mp mg]:=(q1 bg (by rw[p3];simp)).trans p3
  have c2:u3 bq=.obj 60 [.ptr q 0]:=(q1 bq (by rw[p4];simp)).trans p4
  have c4:u3 mg=.map (mpZ encI (byZ fr tt)):=(q1 mg (by rw[p2];simp)).trans p2
  have c1:u3 q=.obj 126 [.ptr KK.o 0,.ptr KK.s.p 0]:=(g3 q hqf).trans hq
  have hO2:OMem u3 KK n B ns:=hO.keep fun z hz=>g3 z (hO.live hz)
  have hsm:s m=.free:=by
   by_cases e:s m=.free
   ·exact e
   ·exact absurd (g2 m e ▸ hbm2) e
  have hmne:m≠mg:=fun e=>by rw[e]at hbm2;rw[p2]at hbm2;cases hbm2
  have e1:¬ KK.has bq:=hO2.types c2 (by decide) (by decide) (by decide)
  have e2:¬ KK.has bg:=hO2.types c3 (by decide) (by decide) (by decide)
  have e3:¬ KK.has mg:=hO2.nomap c4
  have e4:¬ KK.has m:=hO2.nomap m2
  have n1:q≠m:=fun e=>by rw[← e]at m2;rw[c1]at m2;cases m2
  have n2:bq≠m:=fun e=>by rw[← e]at m2;rw[c2]at m2;cases m2
  have n3:bg≠m:=fun e=>by rw[← e]at m2;rw[c3]at m2;cases m2
  have hby:∀v,v<n→renB fr tt v<n:=fun v hv=>renB_lt htl hv
  have hput:PutC m 101 [.ptr bg 0,.ptr bq 0] (rnP n (renB fr tt)) (fun v=>2 ^ kkS S v - 1+1) (fun t=>∃j,OkT n j t∧InV S t) u3 KK n B:=by
   rintro u K ns N v l h ⟨j,ho,hi⟩ hk hO ml mh hc hB
   obtain⟨o1,o2,o3,o4,o5⟩:=ho
   have hCl:CloS u K q bq bg mg 146 (mpZ encI (byZ fr tt)):=⟨by rw[hk.out q (by rw[c1];simp) hqk n1,c1,hk.o,hk.p],by rw[hk.out bq (by rw[c2];simp) e1 n2,c2],by rw[hk.out bg (by rw[c3];simp) e2 n3,c3],by rw[hk.out mg (by rw[c4];simp) e3 fun e=>hmne e.symm,c4]⟩
   have ho2:OkT n v (.nd v l h):=⟨Nat.le_refl _,o2,o3,o4,o5⟩
   exact Rename1_S hCl hO ml mh o2 htl hc (rnT_subN hby ho2 hi) hB
  have hto:OkT n 0 (treeT n f):=treeT_ok
  have hti:InV S (treeT n f):=treeT_inV hS hf
  have hcost:costT (fun v=>2 ^ kkS S v - 1+1) (treeT n f)≤(S.length+2) * 2 ^ S.length:=costS_le (fun v=>Nat.add_le_add_right (Nat.sub_le _ _) 1) hto hti
  have w:=Qwalk_S (q:=q) (caps:=[.ptr bg 0,.ptr bq 0]) can101 hput c1 hqk n1 (by rw[m2];simp) e4 (fun v l h ⟨j,ho,hi⟩=>⟨⟨_,ho.2.2.2.1,hi.2.1⟩,⟨_,ho.2.2.2.2,hi.2.2⟩⟩) (treeT n f) (N:=N) (ns:=ns) (me:=[]) ⟨0,hto,hti⟩ hO2 (.refl _ _ _) m2 (fun k x hk=>by cases hk) hc mf (by omega)
  unfold WalkC at w
  have HE:=Lib.hid (show walkT (rnP n (renB fr tt)) (treeT n f)=treeT n (rnF (renB fr tt) f) from rnT_tree hby (hf.hang hS))
  have HF:=Lib.hid (fun(a:WalkA) (h:WalkR u3 KK m n B ns (walkT (rnP n (renB fr tt))) (N+costT (fun v=>2 ^ kkS S v - 1+1) (treeT n f)) (walkT (rnP n (renB fr tt)) (treeT n f)) a)=>show OpF s KK n B ns (N+(S.length+2) * 2 ^ S.length) (rnF (renB fr tt) f) (a.1,a.2.1,a.2.2.1) from
   ⟨h.om,h.pre,HE.out ▸ h.mem,h.cnt.mono (by omega),h.k.toO g3 hsm⟩)
  clear hput hto hti hcost hu3 g2 g3 m2 c1 c2 c3 c4 hO2 hsm hmne e2 e3 e4 n1 n2 n3 hby
  clear hO hq hf hS mf htl hfl hc hB HG hgs hgB hbmm hbgg p1 p2 p3 p4 q1 hbqf hbm2 hb fB fM fQ
  change SCalls Tryz.prog _ [.ptr q 0,.int .i64 ((ixF n ns f:Nat):Int),_,_] _ _ at w
  refine call_ex can77 w (fun a h=>?_)
  obtain⟨u4,K4,ns4,me4⟩:=a
  have HF3:=Lib.hid (HF.out _ h)
  dsimp only at HF3 ⊢
  rw[HE.out]
  clear h w HF
  simp only[go_sem,seval]
  (repeat'(first|refine Ctl ?_|((with_reducible refine Kof.use hK ?_);clear hK hE K E)))
  all_goals(refine W_ret res67 hQ ?_)
  all_goals exact⟨_,_,Wk.refl _,Fg.refl _,(u4,K4,ns4),rfl,rfl,HF3.out⟩
end Go.Proofs.YtohnaepcgnbaiaaGreatDoor
