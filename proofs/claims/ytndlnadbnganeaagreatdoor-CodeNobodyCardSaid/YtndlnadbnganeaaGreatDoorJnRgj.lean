/- Walks of functions that the claim reaches, and plain facts of them. Conditions: those in the statements. -/
import Derived.Test.YtndlnadbnganeaaGreatDoorJnQkj
import Derived.Test.YtndlnadbnganeaaGreatDoorJnQcj
import Derived.Test.YtndlnadbnganeaaGreatDoorJnHej
import Derived.Test.YtndlnadbnganeaaGreatDoorJnPkj
set_option linter.unusedSimpArgs false
set_option linter.unusedVariables false
set_option maxRecDepth 100000
namespace Go.Proofs.YtndlnadbnganeaaGreatDoor
open Go.RowKit
abbrev SatA:=St×List (Int×Int)
def MemoOk (ns:List Tr)(pos:Nat→Nat)(W:Nat)(me:List (Int×Int)):Prop:=∀k x,lkZ k me=some x→∃u,u∈ns∧k=((ixN ns u:Nat):Int)∧x=((cntT pos W u:Nat):Int)
def SatC (s:St)(J:SatB)(n B:Nat)(ns:List Tr)(mk:Int)(V:List (List VV))(PZ:List (Int×Int))(pos:Nat→Nat)(t:Tr):Prop:=
 SCalls Tryz.prog 92 [.int .i64 (ixN ns t:Nat),.ptr J.b11 0,.ptr J.b3 0,.ptr J.b10 0,.ptr J.b12 0] s fun w u=>∃a:SatA,w=.ret (.int .i64 (cntT pos V.length t:Nat))∧u=a.1∧SatS a.1 J n B ns mk V PZ a.2∧MemoOk ns pos V.length a.2∧∀z,z≠J.m2→a.1 z=s z
theorem SatC.ret {s:St}{J:SatB}{n B:Nat}{ns:List Tr}{mk:Int}{V:List (List VV)}{PZ me:List (Int×Int)}{pos:Nat→Nat}{t:Tr}(hA:SatS s J n B ns mk V PZ me)(hM:MemoOk ns pos V.length me)
  (h:SRet Tryz.prog 92 [.int .i64 (ixN ns t:Nat),.ptr J.b11 0,.ptr J.b3 0,.ptr J.b10 0,.ptr J.b12 0] s (.int .i64 (cntT pos V.length t:Nat)) s):SatC s J n B ns mk V PZ pos t:=by
 refine SCalls.mono (h:=h) ?_
 rintro w u ⟨rfl,rfl⟩
 exact⟨(u,me),rfl,rfl,hA,hM,fun _ _=>rfl⟩
set_option maxHeartbeats 4000000 in
theorem Sat2_lf {s:St}{J:SatB}{n B:Nat}{ns:List Tr}{mk:Int}{V:List (List VV)}{PZ me:List (Int×Int)}{pos:Nat→Nat}{b:Bool}(hA:SatS s J n B ns mk V PZ me)(hN:NsOk n ns)(hM:MemoOk ns pos V.length me):SatC s J n B ns mk V PZ pos (.lf b):=by
 refine SatC.ret hA hM ?_
 have hk:ixN ns (.lf b)=cntT pos V.length (.lf b):=by rw[(hN.lf b).2];rfl
 have hk2:ixN ns (.lf b)<2:=by rw[(hN.lf b).2];cases b<;>decide
 rw[← hk]
 have h1:((ixN ns (.lf b):Nat):Int)<2:=by omega
 generalize ixN ns (.lf b)=k at *
 clear hM hN hk hk2 hA
 refine G_enter Tryz.func92 rfl Tryz.ntmps92 rfl fun Q hQ hQe=>?_
 (repeat'(first|refine Ctl ?_|((with_reducible refine Kof.use hK ?_);clear hK hE K E)|((with_reducible refine W_cond (fun h=>?_) (fun h=>?_))<;>(try(exfalso;assumption)))|(((with_reducible refine G_region fun K E hK hE=>?_))<;>(try simp(disch:=omega) only[go_sem,seval,h1, *]))))
 all_goals(refine W_ret res92 hQ ?_)
 all_goals exact⟨_,_,Wk.refl _,Fg.refl _,rfl,rfl⟩
set_option maxHeartbeats 4000000 in
theorem Sat2_hit {s:St}{J:SatB}{n B:Nat}{ns:List Tr}{mk:Int}{V:List (List VV)}{PZ me:List (Int×Int)}{pos:Nat→Nat}{v:Nat}{l r:Tr}(hA:SatS s J n B ns mk V PZ me)(hN:NsOk n ns)(hM:MemoOk ns pos V.length me)(hm:.nd v l r∈ns)
  {x:Int} (hx:lkZ ((ixN ns (.nd v l r):Nat):Int) me=some x):SatC s J n B ns mk V PZ pos (.nd v l r):=by
 refine SatC.ret hA hM ?_
 obtain⟨u,hu,e1,rfl⟩:=hM _ _ hx
 have:=ixN_inj hm hu (by omega)
 subst this
 have h1:¬ ((ixN ns (.nd v l r):Nat):Int)<2:=by have:=hN.two hm;omega
 have o11:=hA.o11
 have c2:=hA.c2
 have hx1:(lkZ ((ixN ns (.nd v l r):Nat):Int) me).isSome=true:=by rw[hx];rfl
 have hx2:(lkZ ((ixN ns (.nd v l r):Nat):Int) me).getD 0=((cntT pos V.length (.nd v l r):Nat):Int):=by rw[hx];rfl
 clear hx
 generalize ixN ns (.nd v l r)=k at *
 generalize cntT pos V.length (.nd v l r)=y at *
 clear hM hN hm hA hu e1
 refine G_enter Tryz.func92 rfl Tryz.ntmps92 rfl fun Q hQ hQe=>?_
 (repeat'(first|refine Ctl ?_|((with_reducible refine Kof.use hK ?_);clear hK hE K E)|((with_reducible refine W_cond (fun h=>?_) (fun h=>?_))<;>(try(exfalso;assumption)))|(((with_reducible refine G_region fun K E hK hE=>?_))<;>(try simp(disch:=omega) only[go_sem,seval,h1,hx1,hx2, *]))))
 all_goals(refine W_ret res92 hQ ?_)
 all_goals exact⟨_,_,Wk.refl _,Fg.refl _,rfl,rfl⟩
set_option maxHeartbeats 4000000 in
theorem Sat2_nd {s:St}{J:SatB}{n B:Nat}{ns:List Tr}{mk:Int}{V:List (List VV)}{PZ me:List (Int×Int)}{pos:Nat→Nat}{v:Nat}{l r:Tr}(hA:SatS s J n B ns mk V PZ me)(hN:NsOk n ns)(hM:MemoOk ns pos V.length me)(hm:.nd v l r∈ns)
  (hx:lkZ ((ixN ns (.nd v l r):Nat):Int) me=none) (hp:∀w,occT w (.nd v l r)=true→lkZ (w:Int) PZ=some ((pos w:Nat):Int)) (hP:PosT pos V.length (.nd v l r)) (hV:V.length≤61)
  (ihl:∀{s:St} {me:List (Int×Int)},SatS s J n B ns mk V PZ me→MemoOk ns pos V.length me→SatC s J n B ns mk V PZ pos l) (ihr:∀{s:St} {me:List (Int×Int)},SatS s J n B ns mk V PZ me→MemoOk ns pos V.length me→SatC s J n B ns mk V PZ pos r):SatC s J n B ns mk V PZ pos (.nd v l r):=by
 obtain⟨hl,hr⟩:=hN.ch _ _ _ hm
 have h1:¬ ((ixN ns (.nd v l r):Nat):Int)<2:=by have:=hN.two hm;omega
 have w1:=Nnode_S s J.p J.g J.q n B (ixN ns (.nd v l r)) ns (.nd v l r) mk 0 hA.nm (ixN_get hm)
 have w2:=Sat1_S hA hN hm pos hp
 have wl:=fun(u:St) (me':List (Int×Int)) (h:SatS u J n B ns mk V PZ me')=>Sat1_S h hN hl pos fun w hw=>hp w (by simp[occT,hw])
 have wr:=fun(u:St) (me':List (Int×Int)) (h:SatS u J n B ns mk V PZ me')=>Sat1_S h hN hr pos fun w hw=>hp w (by simp[occT,hw])
 have w3:=ihl hA hM
 have hcn:cntT pos V.length (.nd v l r)=cntT pos V.length l * 2 ^ (levT pos V.length l - (pos v+1))+cntT pos V.length r * 2 ^ (levT pos V.length r - (pos v+1)):=rfl
 have hle:cntT pos V.length (.nd v l r)≤2 ^ 61:=Nat.le_trans hP.cnt (Nat.pow_le_pow_right (by omega) (by omega))
 obtain⟨p1,p2,p3,p4,p5⟩:=hP
 have c1:cntT pos V.length l≤2 ^ 61:=Nat.le_trans p4.cnt (Nat.pow_le_pow_right (by omega) (by omega))
 have c2:cntT pos V.length r≤2 ^ 61:=Nat.le_trans p5.cnt (Nat.pow_le_pow_right (by omega) (by omega))
 have q1:=p4.lev
 have q2:=p5.lev
 unfold SatC at w3 ihr ⊢
 simp only[varN,lowN,highN]at w1
 simp only[levT]at w2
 clear hl hr hp p1 p4 p5
 generalize hCN:cntT pos V.length (.nd v l r)=CN at *
 generalize levT pos V.length l=LL at *
 generalize levT pos V.length r=RR at *
 generalize cntT pos V.length l=CL at *
 generalize cntT pos V.length r=CR at *
 generalize pos v=pv at *
 obtain⟨DL,hDL⟩:∃d,d=LL - (pv+1):=⟨_,rfl⟩
 obtain⟨DR,hDR⟩:∃d,d=RR - (pv+1):=⟨_,rfl⟩
 rw[← hDL,← hDR]at hcn
 have e1:(LL:Int) - ((pv+1:Nat):Int)=(DL:Int):=by omega
 have e2:(RR:Int) - ((pv+1:Nat):Int)=(DR:Int):=by omega
 have wp1:=fun u=>Bpow_S u DL (by omega)
 have wp2:=fun u=>Bpow_S u DR (by omega)
 have z1:2 ^ DL≤2 ^ 61:=Nat.pow_le_pow_right (by omega) (by omega)
 have z2:2 ^ DR≤2 ^ 61:=Nat.pow_le_pow_right (by omega) (by omega)
 generalize 2 ^ DL=PL at *
 generalize 2 ^ DR=PR at *
 have wm1:=fun u=>Bmul_S u CL PL (by omega) (by omega) (by omega)
 have wm2:=fun u=>Bmul_S u CR PR (by omega) (by omega) (by omega)
 generalize CL * PL=XL at *
 generalize CR * PR=XR at *
 have wd:=fun u=>Badd_S u XL XR (by omega)
 rw[← hcn]at wd
 have o3:=hA.o3
 have o10:=hA.o10
 have o11:=hA.o11
 have o12:=hA.o12
 have c2:=hA.c2
 have hx1:(lkZ ((ixN ns (.nd v l r):Nat):Int) me).isSome=false:=by rw[hx];rfl
 have pvb:pv≤61:=by omega
 have pvl:pv+1≤LL∧LL≤61:=by omega
 have pvr:pv+1≤RR∧RR≤61:=by omega
 have HX:=Lib.hid hx
 have WL:=Lib.hid wl
 have WR:=Lib.hid wr
 have HA:=Lib.hid hA
 have HM:=Lib.hid hM
 have HR:=Lib.hid (fun(s:St) (me:List (Int×Int))=>@ihr s me)
 have HN:=Lib.hid hN
 have HMM:=Lib.hid hm
 have HCN:=Lib.hid hCN
 have WP1:=Lib.hid wp1
 have WP2:=Lib.hid wp2
 have WM1:=Lib.hid wm1
 have WM2:=Lib.hid wm2
 have WD:=Lib.hid wd
 clear hM hN hm hA wl wr ihl ihr hx hCN wp1 wp2 wm1 wm2 wd hcn hle c1 p2 p3 q1 q2 hDL hDR z1 z2
 obtain⟨pvl1,pvl2⟩:=pvl
 obtain⟨pvr1,pvr2⟩:=pvr
 refine G_enter Tryz.func92 rfl Tryz.ntmps92 rfl fun Q hQ hQe=>?_
 (repeat'(first|refine Ctl ?_|(with_reducible first|(refine Kof.use hK ?_;clear hK hE K E)|(refine Kof.use hKh ?_;clear hKh Kh)|refine G_plan 8 [([0,1,3,4,6,10,11,13,14,16],2,[[3,4,6,10,11,13,14,16]]),([],5,[[],[6,10,11,13,14,16]]),([7],8,[[],[],[10,11,13,14,16]]),([],9,[[],[],[],[10,11,13,14,16]]),([],12,[[],[],[],[],[13,14,16]]),([],15,[[],[],[],[],[],[16]]),([17],18,[[],[],[],[],[],[],[]]),([],19,[[],[],[],[],[],[],[],[]]),([],20,[[],[],[],[],[],[],[],[],[]])] [21] hQe fun K E hK hE=>?_)|((with_reducible refine W_cond (fun h=>?_) (fun h=>?_))<;>(try(exfalso;assumption)))|(((with_reducible first|refine G_region fun K E hK hE=>?_|refine call_ret can91 (w1) ?_|refine call_ret can90 (w2) ?_|refine P_heads fun Kh hKh=>?_|refine P_each fun Kb hKb=>?_))<;>(try simp(disch:=omega) only[go_sem,seval,h1,hx1, *]))))
 all_goals
  refine call_ex can92 w3 (fun a h=>?_)
  obtain⟨u1,me1⟩:=a
  obtain⟨hA3,hM3,hF3⟩:=h
  dsimp only at hA3 hM3 hF3 ⊢
  have w4:=WL.out _ _ hA3
  have w5:=HR.out _ _ hA3 hM3
  have p10:=hA3.o10
  have p12:=hA3.o12
  have wp1:=WP1.out u1
  have wm1:=WM1.out u1
  have HF3:=Lib.hid hF3
  clear hA3 hM3 hF3
  simp only[go_sem,seval]
  (repeat'(first|(with_reducible first|(refine Kof.use hKh ?_;clear hKh Kh)|(refine Kof.use hKb (P_next ?_);clear hKb Kb))|(((with_reducible first|refine call_ret can90 (w4) ?_|refine call_ret can95 (wp1) ?_|refine call_ret can94 (wm1) ?_|refine P_heads fun Kh hKh=>?_|refine P_each fun Kb hKb=>?_))<;>(try simp(disch:=omega) only[go_sem,seval,e1,e2, *]))))
 all_goals
  refine call_ex can92 w5 (fun a h=>?_)
  obtain⟨u2,me2⟩:=a
  obtain⟨hA4,hM4,hF4⟩:=h
  dsimp only at hA4 hM4 hF4 ⊢
  have w6:=WR.out _ _ hA4
  have r10:=hA4.o10
  have r11:=hA4.o11
  have r12:=hA4.o12
  have rc:=hA4.c2
  have wp2:=WP2.out u2
  have wm2:=WM2.out u2
  have wd:=WD.out u2
  have HF4:=Lib.hid hF4
  have HA4:=Lib.hid hA4
  have HM4:=Lib.hid hM4
  clear w4 w5 wp1 wm1 hA4 hM4 hF4
  simp only[go_sem,seval]
  (repeat'(first|refine Ctl ?_|(with_reducible first|(refine Kof.use hK ?_;clear hK hE K E)|(refine Kof.use hKh ?_;clear hKh Kh)|(refine Kof.use hKb (P_next ?_);clear hKb Kb))|(((with_reducible first|refine G_region fun K E hK hE=>?_|refine call_ret can90 (w6) ?_|refine call_ret can95 (wp2) ?_|refine call_ret can94 (wm2) ?_|refine call_ret can93 (wd) ?_|refine P_heads fun Kh hKh=>?_|refine P_fin fun Kh hKh=>?_|refine P_each fun Kb hKb=>?_))<;>(try simp(disch:=omega) only[go_sem,seval,e1,e2, *]))))
 all_goals(refine W_ret res92 hQ ?_)
 refine⟨_,_,Wk.refl _,Fg.refl _,(_,_),rfl,rfl,HA4.out.put (fun z hz=>St.set_other _ _ hz) (St.set_same _ _ _),?_,fun z hz=>?_⟩
 ·intro k x hk
  rw[lkZ_pt]at hk
  by_cases e:k=((ixN ns (.nd v l r):Nat):Int)
  ·rw[if_pos e]at hk
   injection hk with hk
   exact⟨_,HMM.out,e,by rw[HCN.out];exact hk.symm⟩
  ·rw[if_neg e]at hk
   exact HM4.out _ _ hk
 ·exact(St.set_other _ _ hz).trans ((HF4.out z hz).trans (HF3.out z hz))
theorem Sat2_S {n B:Nat}{ns:List Tr}{mk:Int}{J:SatB}{V:List (List VV)}{PZ:List (Int×Int)}{pos:Nat→Nat}(hN:NsOk n ns)(hV:V.length≤61):∀(t:Tr) {s:St} {me:List (Int×Int)},t∈ns→SatS s J n B ns mk V PZ me→MemoOk ns pos V.length me →
  (∀w,occT w t=true→lkZ (w:Int) PZ=some ((pos w:Nat):Int))→PosT pos V.length t→SatC s J n B ns mk V PZ pos t
 |.lf b,s,me,hm,hA,hM,hp,hP=>Sat2_lf hA hN hM
 |.nd v l r,s,me,hm,hA,hM,hp,hP=>by
  obtain⟨hl,hr⟩:=hN.ch _ _ _ hm
  cases hx:lkZ ((ixN ns (.nd v l r):Nat):Int) me with
  |some x=>exact Sat2_hit hA hN hM hm hx
  |none=>exact Sat2_nd hA hN hM hm hx hp hP hV (fun hA hM=>Sat2_S hN hV l hl hA hM (fun w hw=>hp w (by simp[occT,hw])) hP.2.2.2.1) (fun hA hM=>Sat2_S hN hV r hr hA hM (fun w hw=>hp w (by simp[occT,hw])) hP.2.2.2.2)
set_option maxHeartbeats 8000000 in
theorem Ksat_S {s:St}{p g q n B:Nat}{ns:List Tr}{mk:Int}(hM:NMem s p g q n B ns mk 0)(hN:NsOk n ns)(hn:n≤256)(hBs:ns.length≤1048576){t:Tr}(ht:t∈ns){vs:List Nat}(hv:vs.Nodup)(hlt:∀v,v∈vs→v<n)(hoc:∀v,occT v t=true→v∈vs)(h61:vs.length≤61) :
  SRet Tryz.prog 62 [.ptr p 0,.int .i64 (ixN ns t:Nat),.lst (natsL vs) .no] s (.tup [.int .i64 ((satV t vs).length:Nat),.int .i64 0]) s:=by
 have hpf:s p≠.free:=by rw[hM.o];simp
 have hgf:s g≠.free:=by rw[hM.r];simp
 have hoff:∀(u:St),(∀z,s z≠.free→u z=s z)→NMem u p g q n B ns mk 0:=fun u hu=>⟨by rw[hu p hpf];exact hM.o,by rw[hu g hgf];exact hM.r⟩
 have ww:=fun(u:St) (h:NMem u p g q n B ns mk 0)=>Kwithin_S h hN hn hBs ht hv hlt hoc
 have hSr:=srtN_rise n vs
 have hSn:=srtN_nodup n vs
 have hSl:(srtN n vs).length=vs.length:=(srtN_perm hv hlt).length_eq.symm
 have hI:InV (srtN n vs) t:=inV_occ fun v h=>(srtN_mem hlt).2 (hoc v h)
 have hP:PosT (posN (srtN n vs)) (natsL vs).length t:=by
  refine posT_of (S:=srtN n vs) (fun v w a b c=>posN_mono hSr a b c) (fun v h=>?_) (hN.ok t ht) hI
  rw[natsL_len,← hSl]
  exact posN_lt hSn h
 have hcnt:(satV t vs).length=cntT (posN (srtN n vs)) (natsL vs).length t * 2 ^ levT (posN (srtN n vs)) (natsL vs).length t:=by
  rw[natsL_len]
  exact satV_T (hN.ok t ht) hI hv (srtN_perm hv hlt) hSr fun i v h=>posN_at hSn h
 have hlk:∀w,occT w t=true→lkZ (w:Int) (posZ (srtN n vs))=some ((posN (srtN n vs) w:Nat):Int):=fun w h=>posN_lk hSn ((srtN_mem hlt).2 (hoc w h))
 have hle:(satV t vs).length≤2 ^ 61:=Nat.le_trans (satV_le t vs) (Nat.pow_le_pow_right (by omega) h61)
 have hV:(natsL vs).length≤61:=by rw[natsL_len];exact h61
 have w2:=fun(u:St) (J:SatB) (h:SatS u J n B ns mk (natsL vs) (posZ (srtN n vs)) [])=>Sat2_S hN hV t ht h (pos:=posN (srtN n vs)) (fun k x h=>by cases h) hlk hP
 have w1:=fun(u:St) (J:SatB) (me:List (Int×Int)) (h:SatS u J n B ns mk (natsL vs) (posZ (srtN n vs)) me)=>Sat1_S h hN ht (posN (srtN n vs)) hlk
 have q1:=hP.lev
 have z1:2 ^ levT (posN (srtN n vs)) (natsL vs).length t≤2 ^ 61:=Nat.pow_le_pow_right (by omega) (by omega)
 have z2:cntT (posN (srtN n vs)) (natsL vs).length t≤2 ^ 61:=Nat.le_trans hP.cnt (Nat.pow_le_pow_right (by omega) (by omega))
 unfold SatC at w2
 generalize posN (srtN n vs)=ps at *
 generalize hps:posZ (srtN n vs)=PZ at *
 clear hps hlk hP hI hSr hSn hSl hv hlt hoc hN
 generalize levT ps (natsL vs).length t=LV at *
 generalize cntT ps (natsL vs).length t=CT at *
 generalize natsL vs=V at *
 generalize (satV t vs).length=R at *
 generalize ixN ns t=k at *
 have wp:=fun u=>Bpow_S u LV (by omega)
 generalize 2 ^ LV=PL at *
 have wm:=fun u=>Bmul_S u CT PL (by omega) (by omega) (by omega)
 rw[← hcnt]at wm
 have HM:=Lib.hid hM
 have HOFF:=Lib.hid hoff
 have WW:=Lib.hid ww
 have W1:=Lib.hid w1
 have W2:=Lib.hid w2
 have WP:=Lib.hid wp
 have WM:=Lib.hid wm
 clear hM hoff ww w1 w2 wp wm hcnt hle z1 z2 q1 ht
 refine G_enter Tryz.func62 rfl Tryz.ntmps62 rfl fun Q hQ hQe=>?_
 (repeat'(first|refine Ctl ?_|((with_reducible refine Kof.use hK ?_);clear hK hE K E)|((first|(with_reducible refine G_region fun K E hK hE=>?_)|((with_reducible refine W_fresh (fun b hb=>?_));(repeat(obtain⟨_,hb⟩:=hb))))<;>(try simp(disch:=omega) only[go_sem,seval, *]))))
 rename_i b3 hb3 _ _
 obtain⟨b5,hb5⟩:∃z,z=b:=⟨_,rfl⟩
 subst hb5
 obtain⟨u0,hu0⟩:∃u,u=(s.set b3 (.obj 69 [.ptr p 0])).set b5 (.obj 34 [.lst V .no]):=⟨_,rfl⟩
 rw[← hu0]
 have h35:¬ b3=b5:=by assumption
 have hsb5:s b5=.free:=by
  have:b5≠b3:=fun e=>h35 e.symm
  exact hb
 have f0:∀z,s z≠.free→u0 z=s z:=fun z hz=>by rw[hu0,St.set_other _ _ (nef hsb5 hz).1,St.set_other _ _ (nef hb3 hz).1]
 have g3:u0 b3=.obj 69 [.ptr p 0]:=by rw[hu0,St.set_other _ _ h35,St.set_same]
 have g5:u0 b5=.obj 34 [.lst V .no]:=by rw[hu0,St.set_same]
 refine call_ex can89 (WW.out u0 (HOFF.out u0 f0)) (fun a h=>?_)
 obtain⟨v,M⟩:=a
 obtain⟨hX,hv⟩:=h
 dsimp only at hX hv ⊢
 have nM:∀z,u0 z≠.free→v z=u0 z:=fun z hz=>by rw[hv,St.set_other _ _ (nef hX hz).1]
 have gM:v M=.map (mpZ encI PZ):=by rw[hv,St.set_same]
 have k3:v b3=.obj 69 [.ptr p 0]:=by rw[nM b3 (by rw[g3];simp),g3]
 have k5:v b5=.obj 34 [.lst V .no]:=by rw[nM b5 (by rw[g5];simp),g5]
 have kf:∀z,s z≠.free→v z=s z:=fun z hz=>by rw[nM z (by rw[f0 z hz];exact hz),f0 z hz]
 have KF:=Lib.hid kf
 have K3:=Lib.hid k3
 have K5:=Lib.hid k5
 have KM:=Lib.hid gM
 have HS5:=Lib.hid hsb5
 have HS3:=Lib.hid hb3
 clear hX hv nM gM k3 k5 kf g3 g5 f0 hu0 hsb5 hb3 hb
 simp only[go_sem,seval]
 (repeat'(first|(with_reducible refine Kp_atQ 8 ?_)|refine Ctl ?_|((with_reducible refine Kof.use hK ?_);clear hK hE K E)|((with_reducible refine W_cond (fun h=>?_) (fun h=>?_))<;>(try(exfalso;assumption)))|((first|(with_reducible refine G_region fun K E hK hE=>?_)|((with_reducible refine W_fresh (fun b hb=>?_));(repeat(obtain⟨_,hb⟩:=hb))))<;>(try simp(disch:=omega) only[go_sem,seval, *]))))
 unfold StopQ
 refine Kp_nameQ fun S hS=>?_
 rename_i b8 hb8 b10 _ _ hb10 m2 _ _ _ _ hm2 b11 _ _ _ _ _ _ hb11 _ _ _ _ _ _ _ _
 have hSf:∀z,v z≠.free→S z=v z:=fun z hz=>by
  rw[hS,St.set_other _ _ (nef hb hz).1,St.set_other _ _ (nef hb11 hz).1,St.set_other _ _ (nef hm2 hz).1,St.set_other _ _ (nef hb10 hz).1,St.set_other _ _ (nef hb8 hz).1]
 have hMm:M≠m2:=(nef hm2 (a:=M) (by rw[KM.out];simp)).1
 have hnmS:NMem S p g q n B ns mk 0:=HOFF.out S fun z hz=>by rw[hSf z (by rw[KF.out z hz];exact hz),KF.out z hz]
 have hA:SatS S ⟨p,g,q,b5,b3,b8,b10,b11,b,M,m2⟩ n B ns mk V PZ []:=by
  refine⟨hnmS,?_,?_,?_,?_,?_,?_,?_,?_,hMm⟩
  ·rw[hSf _ (by rw[K5.out];simp)];exact K5.out
  ·rw[hSf _ (by rw[K3.out];simp)];exact K3.out
  ·rw[hS];simp only[St.set,if_true,if_false, *]
  ·rw[hS];simp only[St.set,if_true,if_false, *]
  ·rw[hS];simp only[St.set,if_true,if_false, *]
  ·rw[hS];simp only[St.set,if_true,if_false, *]
  ·rw[hSf _ (by rw[KM.out];simp)];exact KM.out
  ·rw[hS];simp only[St.set,if_true,if_false, *];rfl
 have w3:=W2.out _ _ hA
 have q10:=hA.o10
 have q12:=hA.o12
 have hfin:∀z,s z≠.free→z≠m2∧S z=s z:=fun z hz=>⟨(nef hm2 (a:=z) (by rw[KF.out z hz];exact hz)).1,by rw[hSf z (by rw[KF.out z hz];exact hz),KF.out z hz]⟩
 have HFIN:=Lib.hid hfin
 dsimp only at w3 q10 q12
 clear hS hSf hA hb hb8 hb10 hb11 hm2 hnmS hMm hfin
 (repeat'(first|(with_reducible first|(refine Kof.use hKh ?_;clear hKh Kh)|refine G_plan 8 [([0,1,3,4],2,[[3,4]]),([],5,[[],[]]),([],6,[[],[],[]]),([],7,[[],[],[],[]])] [8,9] hQe fun K E hK hE=>?_)|(((with_reducible first|refine P_heads fun Kh hKh=>?_|refine P_each fun Kb hKb=>?_))<;>(try simp(disch:=omega) only[go_sem,seval, *]))))
 all_goals
  refine call_ex can92 w3 (fun a h=>?_)
  obtain⟨u1,me1⟩:=a
  obtain⟨hA3,hM3,hF3⟩:=h
  dsimp only at hA3 hM3 hF3 ⊢
  have w4:=W1.out _ _ _ hA3
  have p10:=hA3.o10
  have p12:=hA3.o12
  have wp:=WP.out u1
  have wm:=WM.out u1
  have HF3:=Lib.hid hF3
  dsimp only at w4 p10 p12
  clear hA3 hM3 hF3 w3
  simp only[go_sem,seval]
  (repeat'(first|refine Ctl ?_|(with_reducible first|(refine Kof.use hK ?_;clear hK hE K E)|(refine Kof.use hKh ?_;clear hKh Kh)|(refine Kof.use hKb (P_next ?_);clear hKb Kb))|(((with_reducible first|refine call_ret can90 (w4) ?_|refine call_ret can95 (wp) ?_|refine call_ret can94 (wm) ?_|refine P_heads fun Kh hKh=>?_|refine P_fin fun Kh hKh=>?_|refine P_each fun Kb hKb=>?_))<;>(try simp(disch:=omega) only[go_sem,seval, *]))))
 all_goals(refine W_ret res62 hQ ?_)
 refine⟨_,s,Wk.refl _,fun z=>?_,rfl,rfl⟩
 by_cases hz:s z=.free
 ·exact .inl hz
 ·obtain⟨h1,h2⟩:=HFIN.out z hz
  exact .inr ((HF3.out z h1).trans h2).symm
def rwsC (rows:List (List Int)):List (List VV):=rows.map fun r=>[rowV r]
theorem rwsC_len {rows:List (List Int)}:(rwsC rows).length=rows.length:=by simp[rwsC]
theorem rwsC_add {rows:List (List Int)}{r:List Int}:rwsC (rows++[r])=rwsC rows++[[rowV r]]:=by simp[rwsC]
theorem rwsC_one {rows:List (List Int)}:∀x,x∈rwsC rows→x.length=1:=by
 intro x hx
 obtain⟨r,_,rfl⟩:=List.mem_map.1 hx
 rfl
theorem rwsC_at {rows:List (List Int)}{i:Nat}{r:List Int}(h:rows[i]?=some r):(rwsC rows)[i]?=some [rowV r]:=by simp[rwsC,h]
structure CubB where
 p:Nat
 g:Nat
 q:Nat
 bf:Nat
 bo:Nat
 bm:Nat
 bw:Nat
 bs:Nat
 bk:Nat
 w:Nat
structure CubS (s:St) (J:CubB) (n B:Nat) (ns:List Tr) (mk:Int) (most:Nat) (w:List Int) (rows:List (List Int)) (o:Own):Prop where
 nm:NMem s J.p J.g J.q n B ns mk 0
 f:s J.bf=.obj 4 [.bool false]
 ro:s J.bo=.obj 33 [.lst (rwsC rows) o]
 m:s J.bm=.obj 3 [.int .i64 most]
 ww:s J.bw=.obj 34 [.msl J.w n]
 st:s J.bs=.obj 69 [.ptr J.p 0]
 k:s J.bk=.obj 155 [.fn 97 [.ptr J.bf 0,.ptr J.bo 0,.ptr J.bm 0,.ptr J.bw 0,.ptr J.bs 0,.ptr J.bk 0]]
 c:s J.w=.obj 3 (ints w)
 wl:w.length=n
 own:(rows=[]∧o=.full)∨∃y,o=.at_ y∧s y=.vec 34 1 rows.length
 d1:J.bo≠J.w
 d2:J.bo≠J.bf∧J.bo≠J.bm∧J.bo≠J.bw∧J.bo≠J.bs∧J.bo≠J.bk
 d3:J.w≠J.bf∧J.w≠J.bm∧J.w≠J.bw∧J.w≠J.bs∧J.w≠J.bk
structure CubF (s u:St) (J:CubB) (o o':Own):Prop where
 fr:∀z,s z≠.free→z≠J.bo→z≠J.w→(∀y,o=.at_ y→z≠y)→u z=s z
 ow:∀y,o'=.at_ y→s y=.free∨o=.at_ y
theorem CubF.refl (s:St)(J:CubB)(o:Own):CubF s s J o o:=⟨fun _ _ _ _ _=>rfl,fun _ h=>.inr h⟩
theorem CubF.trans {s u x:St}{J:CubB}{o o1 o2:Own}(h:CubF s u J o o1)(k:CubF u x J o1 o2)(hb:u J.bo≠.free)(hw:u J.w≠.free):CubF s x J o o2:=by
 refine⟨fun z hz h1 h2 h3=>?_,fun y hy=>?_⟩
 ·have e:=h.fr z hz h1 h2 h3
  rw[k.fr z (by rw[e];exact hz) h1 h2 ?_,e]
  rintro y hy rfl
  rcases h.ow _ hy with e|e
  ·exact hz e
  ·exact h3 _ e rfl
 ·rcases k.ow y hy with e|e
  ·by_cases hs:s y=.free
   ·exact .inl hs
   ·right
    refine Classical.byContradiction fun hn=>?_
    have:=h.fr y hs (fun e2=>hb (e2 ▸ e)) (fun e2=>hw (e2 ▸ e)) fun y' hy' e2=>hn (e2 ▸ hy')
    rw[this]at e
    exact hs e
  ·exact h.ow y e
theorem CubS.types {s:St}{J:CubB}{n B:Nat}{ns:List Tr}{mk:Int}{most:Nat}{w:List Int}{rows:List (List Int)}{o:Own}(h:CubS s J n B ns mk most w rows o){u:St}{o':Own}{w':List Int}{rows':List (List Int)}
  (hf:CubF s u J o o') (hro:u J.bo=.obj 33 [.lst (rwsC rows') o']) (hc:u J.w=.obj 3 (ints w')) (hl:w'.length=n) (hown:(rows'=[]∧o'=.full)∨∃y,o'=.at_ y∧u y=.vec 34 1 rows'.length) :
  CubS u J n B ns mk most w' rows' o':=by
 have nv:∀z,(∀T a b,s z≠.vec T a b)→∀y,o=.at_ y→z≠y:=fun z hz y hy e=>by
  rcases h.own with ⟨_,h1⟩|⟨y',h1,h2⟩
  ·rw[h1]at hy;cases hy
  ·rw[h1]at hy
   injection hy with hy
   subst hy e
   exact hz _ _ _ h2
 have key:∀z T xs,s z=.obj T xs→z≠J.bo→z≠J.w→u z=.obj T xs:=fun z T xs hz h1 h2=>by
  rw[hf.fr z (by rw[hz];simp) h1 h2 (nv z (by rw[hz];simp)),hz]
 obtain⟨a1,a2,a3,a4,a5⟩:=h.d2
 obtain⟨b1,b2,b3,b4,b5⟩:=h.d3
 have tn:∀{z T xs},s z=.obj T xs→T≠129→J.p≠z:=fun hz hT e=>by
  have h1:=h.nm.o
  rw[e,hz]at h1
  injection h1 with h1
  exact hT h1
 refine⟨⟨?_,?_⟩,key _ _ _ h.f a1.symm b1.symm,hro,key _ _ _ h.m a2.symm b2.symm,key _ _ _ h.ww a3.symm b3.symm,key _ _ _ h.st a4.symm b4.symm,key _ _ _ h.k a5.symm b5.symm,hc,hl,hown,h.d1,h.d2,h.d3⟩
 ·exact key _ _ _ h.nm.o (tn h.ro (by decide)) (tn h.c (by decide))
 ·rw[hf.fr _ (by rw[h.nm.r];simp) (fun e=>by have:=h.nm.r;rw[e,h.ro]at this;cases this) (fun e=>by have:=h.nm.r;rw[e,h.c]at this;cases this) (nv _ (by rw[h.nm.r];simp))]
  exact h.nm.r
theorem CubS.setw {s:St}{J:CubB}{n B:Nat}{ns:List Tr}{mk:Int}{most:Nat}{w:List Int}{rows:List (List Int)}{o:Own}(h:CubS s J n B ns mk most w rows o)(w':List Int)(hl:w'.length=n) :
  CubS (s.set J.w (.obj 3 (ints w'))) J n B ns mk most w' rows o∧CubF s (s.set J.w (.obj 3 (ints w'))) J o o:=by
 have hf:CubF s (s.set J.w (.obj 3 (ints w'))) J o o:=⟨fun z _ _ h2 _=>St.set_other _ _ h2,fun _ h=>.inr h⟩
 refine⟨h.types hf (by rw[St.set_other _ _ h.d1];exact h.ro) (St.set_same _ _ _) hl ?_,hf⟩
 rcases h.own with e|⟨y,h1,h2⟩
 ·exact .inl e
 ·refine .inr ⟨y,h1,?_⟩
  rw[St.set_other]
  ·exact h2
  ·intro e
   rw[e,h.c]at h2
   cases h2
abbrev CubA:=St×Own
def CubC (s:St)(J:CubB)(n B:Nat)(ns:List Tr)(mk:Int)(most:Nat)(w:List Int)(rows:List (List Int))(o:Own)(t:Tr):Prop:=
 SCalls Tryz.prog 97 [.int .i64 (ixN ns t:Nat),.ptr J.bf 0,.ptr J.bo 0,.ptr J.bm 0,.ptr J.bw 0,.ptr J.bs 0,.ptr J.bk 0] s fun x u=>∃a:CubA,x=.ret (.tup [])∧u=a.1∧CubS a.1 J n B ns mk most w (rows++cubT t w) a.2∧CubF s a.1 J o a.2
abbrev rowT:TypeId:=34
theorem own_read {s:St}{o o2:Own}{n m sz z:Nat}{T:TypeId}(h:OwnOk (s.disown o) o2 n)(hz:s z≠.free)(hn:∀y,o=.at_ y→z≠y):((s.disown o).own o2 T sz m) z=s z:=by
 have e1:(s.disown o) z=s z:=by
  cases o with
  |at_ y=>exact St.set_other _ _ (hn y rfl)
  |_=>rfl
 cases o2 with
 |at_ y2=>
  have h2:(s.disown o) y2=.free:=h
  exact(St.set_other _ _ fun e=>hz (by rw[← e1,e,h2])).trans e1
 |_=>exact e1
theorem CubS.add {s:St}{J:CubB}{n B:Nat}{ns:List Tr}{mk:Int}{most:Nat}{w:List Int}{rows:List (List Int)}{o:Own}(h:CubS s J n B ns mk most w rows o){u:St}{y2:Nat}
  (h1:u y2=.vec 34 1 (rows.length+1)) (h2:s y2=.free∨o=.at_ y2) (hu:∀z,s z≠.free→z≠J.bo→(∀y,o=.at_ y→z≠y)→u z=s z) (h3:u J.bo=.obj 33 [.lst (rwsC rows++[[rowV w]]) (.at_ y2)]) :
  CubS u J n B ns mk most w (rows++[w]) (.at_ y2)∧CubF s u J o (.at_ y2):=by
 have hf:CubF s u J o (.at_ y2):=⟨fun z hz a _ b=>hu z hz a b,fun y hy=>by injection hy with hy;subst hy;exact h2⟩
 refine⟨h.types hf (by rw[rwsC_add];exact h3) ?_ h.wl (.inr ⟨y2,rfl,by rw[List.length_append];exact h1⟩),hf⟩
 rw[hu J.w (by rw[h.c];simp) h.d1.symm ?_]
 ·exact h.c
 ·rintro y hy rfl
  rcases h.own with ⟨_,e⟩|⟨y',e,e2⟩
  ·rw[e]at hy;cases hy
  ·rw[e]at hy
   injection hy with hy
   rw[hy,h.c]at e2
   cases e2
set_option maxHeartbeats 4000000 in
theorem Cub1_zero {s:St}{J:CubB}{n B:Nat}{ns:List Tr}{mk:Int}{most:Nat}{w:List Int}{rows:List (List Int)}{o:Own}(hA:CubS s J n B ns mk most w rows o)(hN:NsOk n ns):CubC s J n B ns mk most w rows o (.lf false):=by
 have hk:ixN ns (.lf false)=0:=(hN.lf false).2
 unfold CubC
 have e:cubT (.lf false) w=[]:=rfl
 rw[e,List.append_nil,hk]
 suffices hs:SRet Tryz.prog 97 [.int .i64 ((0:Nat):Int),.ptr J.bf 0,.ptr J.bo 0,.ptr J.bm 0,.ptr J.bw 0,.ptr J.bs 0,.ptr J.bk 0] s (.tup []) s by
  refine SCalls.mono (h:=hs) ?_
  rintro x u ⟨rfl,rfl⟩
  exact⟨(u,o),rfl,rfl,hA,.refl _ _ _⟩
 clear hA hN hk e
 refine G_enter Tryz.func97 rfl Tryz.ntmps97 rfl fun Q hQ hQe=>?_
 (repeat'(first|refine Ctl ?_|((with_reducible refine Kof.use hK ?_);clear hK hE K E)|((with_reducible refine W_cond (fun h=>?_) (fun h=>?_))<;>(try(exfalso;assumption)))|(((with_reducible refine G_region fun K E hK hE=>?_))<;>(try simp(disch:=omega) only[go_sem,seval,Int.natCast_zero,Int.ofNat_zero, *]))))
 all_goals(refine W_ret res97 hQ ?_)
 all_goals exact⟨_,_,Wk.refl _,Fg.refl _,rfl,rfl⟩
set_option maxHeartbeats 4000000 in
theorem Cub1_one {s:St}{J:CubB}{n B:Nat}{ns:List Tr}{mk:Int}{most:Nat}{w:List Int}{rows:List (List Int)}{o:Own}(hA:CubS s J n B ns mk most w rows o)(hN:NsOk n ns)(hn:n≤256)(hm:rows.length+1≤most)(hm2:most≤16384):CubC s J n B ns mk most w rows o (.lf true):=by
 have hk:ixN ns (.lf true)=1:=(hN.lf true).2
 unfold CubC
 have e:cubT (.lf true) w=[w]:=rfl
 rw[e,hk]
 have hfull:¬ ((rows.length:Nat):Int)≥(most:Int):=by omega
 have hfull2:¬ (most:Int)≤((rows.length:Nat):Int):=by omega
 have hl:=rwsC_len (rows:=rows)
 have hone:=rwsC_one (rows:=rows)
 have wc:=CloneM_S w J.w 3
 have o1:=hA.f
 have o2:=hA.ro
 have o3:=hA.m
 have o4:=hA.ww
 have o5:=hA.c
 have hwl:=hA.wl
 have hown:=hA.own
 obtain⟨a1,a2,a3,a4,a5⟩:=hA.d2
 obtain⟨b1,b2,b3,b4,b5⟩:=hA.d3
 have d1:=hA.d1
 rw[← hwl]at o4
 have hself:s.set J.bf (.obj 4 [.bool false])=s:=St.set_self _ _ _ o1
 have wc:=wc s o5 (by omega)
 have hb256:w.length≤256:=by omega
 have g1:=Ne.symm a1
 have g2:=Ne.symm a2
 have g3:=Ne.symm a3
 have g4:=Ne.symm d1
 clear hwl
 clear hN hk e
 simp only[rowV]at wc
 have hadd:=fun u y2 h1 h2 h3 h4=>CubS.add hA (u:=u) (y2:=y2) h1 h2 h3 h4
 simp only[rowV]at hadd
 have HADD:=Lib.hid hadd
 clear hadd
 generalize intsL w=LW at *
 have hzz:s J.bo≠.free:=by rw[o2];simp
 rcases hown with ⟨h0,ho⟩|⟨y,ho,hy⟩
 ·subst h0 ho
  have hr0:rwsC []=[]:=rfl
  rw[hr0]at o2
  have hOw:Owned s .full 34 1 0:=rfl
  have hnn:∀y,Own.full=.at_ y→J.bo≠y:=fun y e=>by cases e
  clear hA
  refine G_enter Tryz.func97 rfl Tryz.ntmps97 rfl fun Q hQ hQe=>?_
  (repeat'(first|refine Ctl ?_|(with_reducible first|(refine Kof.use hK ?_;clear hK hE K E)|(refine Kof.use hKh ?_;clear hKh Kh)|(refine Kof.use hKb (P_next ?_);clear hKb Kb)|refine G_plan 4 [([0,1],2,[[0]]),([3],4,[[],[]]),([],5,[[],[],[]])] [] hQe fun K E hK hE=>?_)|((with_reducible refine W_cond (fun h=>?_) (fun h=>?_))<;>(try(exfalso;first|assumption|omega)))|((first|(with_reducible first|refine G_region fun K E hK hE=>?_|refine call_ret can98 (wc) ?_|refine P_heads fun Kh hKh=>?_|refine P_fin fun Kh hKh=>?_|refine P_each fun Kb hKb=>?_)|((with_reducible refine W_app (fun o2 ho=>?_));(try(have hRO:=own_read (T:=rowT) (sz:=1) (m:=1) ho hzz hnn))))<;>(try simp(disch:=omega) only[go_sem,seval,Int.natCast_zero,Int.ofNat_zero,Int.natCast_one,hfull,hfull2,hself,hOw, *]))))
  all_goals(refine W_ret res97 hQ ?_)
  obtain⟨y2,rfl,p2,p3,p4⟩:=own_step (T:=rowT) (n:=0) ho
  have hy2:y2≠J.bo:=fun e=>by
   rcases p4 with h|h
   ·exact hzz (e ▸ h)
   ·exact hnn _ h e.symm
  exact⟨_,_,Wk.refl _,Fg.refl _,(_,.at_ y2),rfl,rfl,HADD.out _ y2 ((St.set_other _ _ hy2).trans p2) p4 (fun z hz h1 h2=>(St.set_other _ _ h1).trans (p3 z hz h2)) (St.set_same _ _ _)⟩
 ·subst ho
  have hOw:Owned s (.at_ y) 34 1 rows.length:=hy
  have hnn:∀z,Own.at_ y=.at_ z→J.bo≠z:=fun z e=>by injection e with e;subst e;intro e;rw[← e,o2]at hy;cases hy
  generalize rwsC rows=L at *
  clear hA hy
  refine G_enter Tryz.func97 rfl Tryz.ntmps97 rfl fun Q hQ hQe=>?_
  (repeat'(first|refine Ctl ?_|(with_reducible first|(refine Kof.use hK ?_;clear hK hE K E)|(refine Kof.use hKh ?_;clear hKh Kh)|(refine Kof.use hKb (P_next ?_);clear hKb Kb)|refine G_plan 4 [([0,1],2,[[0]]),([3],4,[[],[]]),([],5,[[],[],[]])] [] hQe fun K E hK hE=>?_)|((with_reducible refine W_cond (fun h=>?_) (fun h=>?_))<;>(try(exfalso;assumption)))|((first|(with_reducible first|refine G_region fun K E hK hE=>?_|refine call_ret can98 (wc) ?_|refine P_heads fun Kh hKh=>?_|refine P_fin fun Kh hKh=>?_|refine P_each fun Kb hKb=>?_)|((with_reducible refine W_app (fun o2 ho=>?_));(try simp(disch:=assumption) only[disown_set,disown_own,ownok_o,ownok_m,List.length_map,List.length_cons,List.length_nil,Nat.zero_add,Int.natCast_zero,Int.ofNat_zero,Int.natCast_one,hl,hfull,hfull2,hself,hOw]at ho);(try(have hRO:=own_read (T:=rowT) (sz:=1) (m:=rows.length+1) ho hzz hnn))))<;>(try simp(disch:=omega) only[go_sem,seval,Int.natCast_zero,Int.ofNat_zero,Int.natCast_one,hl,hfull,hfull2,hself,hOw, *]))))
  all_goals(refine W_ret res97 hQ ?_)
  obtain⟨y2,rfl,p2,p3,p4⟩:=own_step (T:=rowT) (n:=rows.length) ho
  have hy2:y2≠J.bo:=fun e=>by
   rcases p4 with h|h
   ·exact hzz (e ▸ h)
   ·exact hnn _ h e.symm
  exact⟨_,_,Wk.refl _,Fg.refl _,(_,.at_ y2),rfl,rfl,HADD.out _ y2 ((St.set_other _ _ hy2).trans p2) p4 (fun z hz h1 h2=>(St.set_other _ _ h1).trans (p3 z hz h2)) (St.set_same _ _ _)⟩
set_option maxHeartbeats 4000000 in
theorem Cub1_nd {s:St}{J:CubB}{n B:Nat}{ns:List Tr}{mk:Int}{most:Nat}{w:List Int}{rows:List (List Int)}{o:Own}{v m:Nat}{l r:Tr}(hA:CubS s J n B ns mk most w rows o)(hN:NsOk n ns)(hm:.nd v l r∈ns)(ho:OkT n m (.nd v l r))(hw:OpenW m w)(hb:rows.length+(cubT (.nd v l r) w).length≤most)
  (ihl:∀{s:St} {w:List Int} {rows:List (List Int)} {o:Own},CubS s J n B ns mk most w rows o→OpenW (v+1) w→rows.length+(cubT l w).length≤most→CubC s J n B ns mk most w rows o l)
  (ihr:∀{s:St} {w:List Int} {rows:List (List Int)} {o:Own},CubS s J n B ns mk most w rows o→OpenW (v+1) w→rows.length+(cubT r w).length≤most→CubC s J n B ns mk most w rows o r):CubC s J n B ns mk most w rows o (.nd v l r):=by
 obtain⟨h1,h2,h3,h4,h5⟩:=ho
 have hwl:=hA.wl
 have hk2:=hN.two hm
 have k0:¬ ((ixN ns (.nd v l r):Nat):Int)=0:=by omega
 have k1:¬ ((ixN ns (.nd v l r):Nat):Int)=1:=by omega
 have w1:=fun(u:St) (w':List Int) (rows':List (List Int)) (o':Own) (h:CubS u J n B ns mk most w' rows' o')=>Nnode_S u J.p J.g J.q n B (ixN ns (.nd v l r)) ns (.nd v l r) mk 0 h.nm (ixN_get hm)
 have w1:=w1 _ _ _ _ hA
 simp only[varN,lowN,highN]at w1
 have hA1:=hA.setw (w.set v 0) (by rw[List.length_set];exact hwl)
 have hO1:OpenW (v+1) (w.set v 0):=hw.set h1
 have hO2:OpenW (v+1) (w.set v 1):=hw.set h1
 have hcu:cubT (.nd v l r) w=cubT l (w.set v 0)++cubT r (w.set v 1):=rfl
 rw[hcu,List.length_append]at hb
 have w2:=ihl hA1.1 hO1 (by omega)
 have hback:w.set v 2=w:=by
  have h:=hw v h1 (by omega)
  apply List.ext_getElem?
  intro i
  by_cases e:v=i
  ·subst e;rw[List.getElem?_set_self (by omega),h]
  ·rw[List.getElem?_set_ne e]
 have s0:=ints_set (l:=w) (i:=v) (n:=0) (by omega)
 have s1:=ints_set (l:=w.set v 0) (i:=v) (n:=1) (by rw[List.length_set];omega)
 have s2:=ints_set (l:=w.set v 1) (i:=v) (n:=2) (by rw[List.length_set];omega)
 rw[List.set_set]at s1 s2
 rw[hback]at s2
 have hr:=fun(u:St) (rows':List (List Int)) (o':Own) (h:CubS u J n B ns mk most (w.set v 1) rows' o') (hl:rows'.length+(cubT r (w.set v 1)).length≤most)=>ihr h hO2 hl
 have l0:(ints w).length=n:=by rw[ints_len];exact hwl
 have l1:(ints (w.set v 0)).length=n:=by rw[ints_len,List.length_set];exact hwl
 have l2:(ints (w.set v 1)).length=n:=by rw[ints_len,List.length_set];exact hwl
 unfold CubC at w2 hr ⊢
 rw[hcu]
 have o1:=hA.f
 have o3:=hA.st
 have o4:=hA.ww
 have o5:=hA.c
 have o6:=hA.k
 obtain⟨b1,b2,b3,b4,b5⟩:=hA.d3
 have g1:=Ne.symm b1
 have g3:=Ne.symm b3
 have g4:=Ne.symm b4
 have g5:=Ne.symm b5
 have HA:=Lib.hid hA
 have HA1:=Lib.hid hA1
 have HR:=Lib.hid hr
 have HWL:=Lib.hid hwl
 have HBD:=Lib.hid hb
 have vn:(v:Int)<(n:Int):=by omega
 clear hN hm hA hA1 hO1 hO2 hcu hback hr ihl ihr hw h3 h4 h5 hb hwl
 generalize hw0:w.set v 0=W0 at *
 generalize hw1:w.set v 1=W1 at *
 generalize ixN ns (.nd v l r)=k at *
 clear hw0 hw1
 refine G_enter Tryz.func97 rfl Tryz.ntmps97 rfl fun Q hQ hQe=>?_
 (repeat'(first|refine Ctl ?_|((with_reducible refine Kof.use hK ?_);clear hK hE K E)|((with_reducible refine W_cond (fun h=>?_) (fun h=>?_))<;>(try(exfalso;assumption)))|(((with_reducible first|refine G_region fun K E hK hE=>?_|refine call_ret can91 (w1) ?_|refine W_ifS ?_))<;>(try simp(disch:=omega) only[go_sem,seval,k0,k1,s0,l0, *]))))
 refine call_ex can97 w2 (fun a h=>?_)
 obtain⟨u1,oa⟩:=a
 obtain⟨hA3,hF3⟩:=h
 dsimp only at hA3 hF3 ⊢
 have hA4:=hA3.setw W1 (by rw[← l2,ints_len])
 have w3:=HR.out _ _ _ hA4.1 (by rw[List.length_append];have:=HBD.out;omega)
 have p4:=hA3.ww
 have p5:=hA3.c
 have p6:=hA3.k
 have HF3:=Lib.hid hF3
 have HA3:=Lib.hid hA3
 have HA4:=Lib.hid hA4
 clear w1 w2 o1 o3 o4 o5 o6 hA3 hF3 hA4 s0
 simp only[go_sem,seval]
 (repeat'(first|refine Ctl ?_|((with_reducible refine Kof.use hK ?_);clear hK hE K E)|(((with_reducible first|refine G_region fun K E hK hE=>?_|refine W_ifS ?_))<;>(try simp(disch:=omega) only[go_sem,seval,s1,l1, *]))))
 refine call_ex can97 w3 (fun a h=>?_)
 obtain⟨u2,ob⟩:=a
 obtain⟨hA5,hF5⟩:=h
 dsimp only at hA5 hF5 ⊢
 have hA6:=hA5.setw w HWL.out
 have p4:=hA5.ww
 have p5:=hA5.c
 have HA5:=Lib.hid hA5
 have HA6:=Lib.hid hA6
 have HF5:=Lib.hid hF5
 clear w3 p6 hA5 hF5 hA6 s1
 simp only[go_sem,seval]
 (repeat'(first|((with_reducible refine Kof.use hK ?_);clear hK hE K E)|(((with_reducible first|refine G_region fun K E hK hE=>?_|refine W_ifS ?_))<;>(try simp(disch:=omega) only[go_sem,seval,s2,l2, *]))))
 (refine W_norm res97 hQ ?_)
 refine⟨_,_,Wk.refl _,Fg.refl _,(_,ob),rfl,rfl,?_,?_⟩
 ·have:=HA6.out.1
  rw[List.append_assoc]at this
  exact this
 ·have nf:∀{u:St} {w':List Int} {rows':List (List Int)} {o':Own},CubS u J n B ns mk most w' rows' o'→u J.bo≠.free∧u J.w≠.free:=fun h=>⟨by rw[h.ro];simp,by rw[h.c];simp⟩
  have f1:=HA1.out.2.trans HF3.out (nf HA1.out.1).1 (nf HA1.out.1).2
  have f2:=f1.trans HA4.out.2 (nf HA3.out).1 (nf HA3.out).2
  have f3:=f2.trans HF5.out (nf HA4.out.1).1 (nf HA4.out.1).2
  exact f3.trans HA6.out.2 (nf HA5.out).1 (nf HA5.out).2
theorem Cub1_S {n B:Nat}{ns:List Tr}{mk:Int}{J:CubB}{most:Nat}(hN:NsOk n ns)(hn:n≤256)(hm2:most≤16384):∀(t:Tr) {s:St} {m:Nat} {w:List Int} {rows:List (List Int)} {o:Own},t∈ns→OkT n m t→CubS s J n B ns mk most w rows o→OpenW m w→rows.length+(cubT t w).length≤most→CubC s J n B ns mk most w rows o t
 |.lf false,s,m,w,rows,o,hm,ho,hA,hw,hb=>Cub1_zero hA hN
 |.lf true,s,m,w,rows,o,hm,ho,hA,hw,hb=>Cub1_one hA hN hn hb hm2
 |.nd v l r,s,m,w,rows,o,hm,ho,hA,hw,hb=>by
  obtain⟨hl,hr⟩:=hN.ch _ _ _ hm
  exact Cub1_nd hA hN hm ho hw hb (fun a b c=>Cub1_S hN hn hm2 l hl ho.2.2.2.1 a b c) (fun a b c=>Cub1_S hN hn hm2 r hr ho.2.2.2.2 a b c)
def wayI (n i:Nat):List Int:=(List.range n).map fun j=>if j<i then 2 else 0
theorem wayI_len {n i:Nat}:(wayI n i).length=n:=by simp[wayI]
theorem wayI_set {n i:Nat}(h:i<n):(wayI n i).set i 2=wayI n (i+1):=by
 apply List.ext_getElem
 ·simp[wayI]
 ·intro j h1 h2
  simp only[wayI,List.getElem_set,List.getElem_map,List.getElem_range]
  by_cases e:i=j
  ·subst e;simp
  ·rw[if_neg e]
   by_cases e2:j<i
   ·rw[if_pos e2,if_pos (by omega)]
   ·rw[if_neg e2,if_neg (by omega)]
theorem wayI_end {n:Nat}:wayI n n=List.replicate n 2:=by
 apply List.ext_getElem
 ·simp[wayI]
 ·intro j h1 h2
  simp only[wayI,List.getElem_map,List.getElem_range,List.getElem_replicate]
  rw[if_pos (by simpa [wayI]using h1)]
theorem wayI_new {n:Nat}:List.replicate n (VV.int .i64 0)=ints (wayI n 0):=by
 apply List.ext_getElem
 ·simp[wayI,ints]
 ·intro j h1 h2
  simp[wayI,ints]
set_option maxHeartbeats 8000000 in
theorem Kcubes_S {s:St}{p g q n B:Nat}{ns:List Tr}{mk:Int}(hM:NMem s p g q n B ns mk 0)(hN:NsOk n ns)(hn:n≤256)(hBs:ns.length≤1048576){t:Tr}(ht:t∈ns){most:Nat}(hm:most≤16384)(hc:(cubT t (List.replicate n 2)).length≤most) :
  SRet Tryz.prog 63 [.ptr p 0,.int .i64 (ixN ns t:Nat),.int .i64 most] s (.tup [.lst (rwsC (cubT t (List.replicate n 2))) .no,.int .i64 0]) s:=by
 have hpf:s p≠.free:=by rw[hM.o];simp
 have hgf:s g≠.free:=by rw[hM.r];simp
 have hoff:∀(u:St),(∀z,s z≠.free→u z=s z)→NMem u p g q n B ns mk 0:=fun u hu=>⟨by rw[hu p hpf];exact hM.o,by rw[hu g hgf];exact hM.r⟩
 have wl:=fun(u:St) (h:NMem u p g q n B ns mk 0)=>Nlen_S u p g q n B ns mk 0 h
 have wv:=fun(u:St) (h:NMem u p g q n B ns mk 0)=>Nvars_S u p g q n B ns mk 0 h
 have wm:=fun(u:St) (h:NMem u p g q n B ns mk 0)=>Kmay_S u p g q n B (ixN ns t) ns t mk 0 h (ixN_get ht)
 have wc:=fun(u:St) (J:CubB) (h:CubS u J n B ns mk most (List.replicate n 2) [] .full)=>Cub1_S hN hn hm t (m:=0) ht (hN.ok t ht) h (fun v _ hv=>by rw[List.length_replicate]at hv;rw[List.getElem?_replicate,if_pos hv]) (by simpa using hc)
 unfold CubC at wc
 have hlen2:=hN.len
 have hz:¬ ((ns.length:Nat):Int)=0:=by omega
 have hm1:¬ (most:Int)<0:=by omega
 have hm3:¬ (most:Int) > 16384:=by omega
 have hm4:¬ (16384:Int)<(most:Int):=by omega
 have HM:=Lib.hid hM
 have HOFF:=Lib.hid hoff
 have WL:=Lib.hid wl
 have WV:=Lib.hid wv
 have WM:=Lib.hid wm
 have WC:=Lib.hid wc
 clear hM hoff wl wv wm wc ht hN hc hlen2
 generalize ixN ns t=k at *
 refine G_enter Tryz.func63 rfl Tryz.ntmps63 rfl fun Q hQ hQe=>?_
 (repeat'(first|(with_reducible refine Kp_atQ 1 ?_)|refine Ctl ?_|((with_reducible refine Kof.use hK ?_);clear hK hE K E)|((first|(with_reducible refine G_region fun K E hK hE=>?_)|((with_reducible refine W_fresh (fun b hb=>?_));(repeat(obtain⟨_,hb⟩:=hb))))<;>(try simp(disch:=omega) only[go_sem,seval, *]))))
 unfold StopQ
 refine Kp_nameQ fun S hS=>?_
 rename_i b3 hb3 _ _
 obtain⟨b5,hb5⟩:∃z,z=b:=⟨_,rfl⟩
 subst hb5
 have hsb5:s b5=.free:=by assumption
 have k3:S b3=.obj 69 [.ptr p 0]:=by rw[hS];simp only[St.set,if_true,if_false, *]
 have k5:S b5=.obj 3 [.int .i64 most]:=by rw[hS];simp only[St.set,if_true,if_false, *]
 have kf:∀z,s z≠.free→S z=s z:=fun z hz=>by rw[hS,St.set_other _ _ (nef hsb5 hz).1,St.set_other _ _ (nef hb3 hz).1]
 have hnm:=HOFF.out S kf
 have wl:=WL.out S hnm
 have wv:=WV.out S hnm
 have wm:=WM.out S hnm
 have KF:=Lib.hid kf
 have HS5:=Lib.hid hsb5
 have HS3:=Lib.hid hb3
 clear hS hb hsb5 hb3 kf hnm
 (repeat'(first|(with_reducible refine Kp_atQ 7 ?_)|refine Ctl ?_|((with_reducible refine Kof.use hK ?_);clear hK hE K E)|((with_reducible refine W_cond (fun h=>?_) (fun h=>?_))<;>(try(exfalso;assumption)))|((first|(with_reducible first|refine G_region fun K E hK hE=>?_|refine call_ret can78 (wl) ?_|refine call_ret can96 (wm) ?_|refine call_ret can56 (wv) ?_|refine W_and ?_)|((with_reducible refine W_fresh (fun b hb=>?_));(repeat(obtain⟨_,hb⟩:=hb))))<;>(try simp(disch:=omega) only[go_sem,seval,hz,hm1,hm3,hm4,Int.toNat_natCast, *]))))
 unfold StopQ
 refine Kp_nameQ fun S1 hS1=>?_
 rename_i W hW _ _
 obtain⟨b9,hb9⟩:∃z,z=b:=⟨_,rfl⟩
 subst hb9
 have hSb9:S b9=.free:=by assumption
 have jW:S1 W=.obj 3 (ints (wayI n 0)):=by rw[hS1,← wayI_new];simp only[St.set,if_true,if_false, *]
 have j9:S1 b9=.obj 34 [.msl W n]:=by rw[hS1];simp only[St.set,if_true,if_false, *]
 have jf:∀z,S z≠.free→S1 z=S z:=fun z hz=>by rw[hS1,St.set_other _ _ (nef hSb9 hz).1,St.set_other _ _ (nef hW hz).1]
 have j3:S1 b3=.obj 69 [.ptr p 0]:=by rw[jf b3 (by rw[k3];simp),k3]
 have j5:S1 b5=.obj 3 [.int .i64 most]:=by rw[jf b5 (by rw[k5];simp),k5]
 have hself:S1=S1.set W (.obj 3 (ints (wayI n 0))):=(St.set_self _ _ _ jW).symm
 have JF:=Lib.hid jf
 have HSW:=Lib.hid hW
 have HS9:=Lib.hid hSb9
 have d93:¬ b9=b3:=(nef hSb9 (a:=b3) (by rw[k3];simp)).2
 have d95:¬ b9=b5:=(nef hSb9 (a:=b5) (by rw[k5];simp)).2
 have dW3:¬ W=b3:=(nef hW (a:=b3) (by rw[k3];simp)).2
 have dW5:¬ W=b5:=(nef hW (a:=b5) (by rw[k5];simp)).2
 have hll:=fun i=>(ints_len (l:=wayI n i)).trans wayI_len
 have HLL:=Lib.hid hll
 have HSELF:=Lib.hid hself
 clear hS1 hb hW hSb9 jf k3 k5 wl wv wm hll hself
 (repeat'(first|refine Ctl ?_|((with_reducible refine Kof.use hK ?_);clear hK hE K E)|(((with_reducible refine G_region fun K E hK hE=>?_))<;>(try simp(disch:=omega) only[go_sem,seval, *]))))
 refine G_loop (fun m env s'=>∃(i:Nat),i≤n∧m+i=n∧s'=S1.set W (.obj 3 (ints (wayI n i)))∧env 1=.int .i64 k∧env 3=.ptr b3 0∧env 5=.ptr b5 0∧env 9=.ptr b9 0∧env 35=.int .i64 n∧env 36=.int .i64 i) n ?_ ?_
 ·exact⟨_,Fg.refl _,0,by omega,by omega,HSELF.out,z_sl,z_sl,z_sl,z_sl,z_sl,z_sl⟩
 rintro m env s' ⟨i,hi,hmi,rfl,e1,e3,e5,e9,e35,e36⟩
 by_cases h2:i<n
 ·have hst:=ints_set (l:=wayI n i) (i:=i) (n:=2) (by rw[wayI_len];exact h2)
  rw[wayI_set h2]at hst
  have hl:=HLL.out i
  generalize ints (wayI n i)=X at *
  obtain⟨Y,hY⟩:∃Y,Y=ints (wayI n (i+1)):=⟨_,rfl⟩
  rw[← hY]at hst
  have HY:=Lib.hid hY
  clear hY
  (repeat'(first|refine Ctl ?_|((with_reducible refine Kof.use hK ?_);clear hK hE K E)|((with_reducible refine W_cond (fun h=>?_) (fun h=>?_))<;>(try(exfalso;assumption)))|(((with_reducible first|refine G_region fun K E hK hE=>?_|refine W_ifS ?_))<;>(try simp(disch:=omega) only[go_sem,seval,hst,hl, *]))))
  all_goals exact⟨_,Fg.refl _,m - 1,by omega,i+1,by omega,by omega,by rw[← HY.out],z_sl,z_sl,z_sl,z_sl,z_sl,z_sl⟩
 ·obtain rfl:i=n:=by omega
  rw[wayI_end]
  (repeat'(first|(with_reducible refine Kp_atQ 16 ?_)|refine Ctl ?_|((with_reducible refine Kof.use hK ?_);clear hK hE K E)|((with_reducible refine W_cond (fun h=>?_) (fun h=>?_))<;>(try(exfalso;assumption)))|((first|(with_reducible refine G_region fun K E hK hE=>?_)|((with_reducible refine W_fresh (fun b hb=>?_));(repeat(obtain⟨_,hb⟩:=hb))))<;>(try simp(disch:=omega) only[go_sem,seval, *]))))
  unfold StopQ
  refine Kp_nameQ fun S2 hS2=>?_
  rename_i b11 _ _ hb11 b12 _ _ _ _ hb12 _ _ _ _ _ _
  obtain⟨b13,hb13⟩:∃z,z=b:=⟨_,rfl⟩
  subst hb13
  have hSb13:S1 b13=.free:=by assumption
  have hf2:∀z,S1 z≠.free→z≠W→S2 z=S1 z:=fun z hz h=>by rw[hS2,St.set_other _ _ (nef hSb13 hz).1,St.set_other _ _ (nef hb12 hz).1,St.set_other _ _ (nef hb11 hz).1,St.set_other _ _ h]
  have n3:S1 b3≠.free:=by rw[j3];simp
  have n5:S1 b5≠.free:=by rw[j5];simp
  have n9:S1 b9≠.free:=by rw[j9];simp
  have hsS2:∀z,s z≠.free→z≠W∧z≠b11∧S2 z=s z:=fun z hz=>by
   have e1:=KF.out z hz
   have e2:S z≠.free:=by rw[e1];exact hz
   have e3:=JF.out z e2
   have e4:S1 z≠.free:=by rw[e3];exact e2
   have e5:=(nef HSW.out e2).1
   exact⟨e5,(nef hb11 e4).1,by rw[hf2 z e4 e5,e3,e1]⟩
  have hC:CubS S2 ⟨p,g,q,b12,b11,b5,b9,b3,b13,W⟩ i B ns mk most (List.replicate i 2) [] .full:=by
   refine⟨HOFF.out S2 fun z hz=>(hsS2 z hz).2.2,?_,?_,?_,?_,?_,?_,?_,by simp,.inl ⟨rfl,rfl⟩,by assumption,⟨?_,(nef hb11 n5).2,(nef hb11 n9).2,(nef hb11 n3).2,?_⟩,⟨?_,dW5,?_,dW3,?_⟩⟩
   ·rw[hS2];simp only[St.set,if_true,if_false, *]
   ·rw[hS2];simp only[St.set,if_true,if_false, *];rfl
   ·rw[hf2 b5 n5 (Ne.symm dW5)];exact j5
   ·rw[hf2 b9 n9 (by assumption)];exact j9
   ·rw[hf2 b3 n3 (Ne.symm dW3)];exact j3
   ·rw[hS2];simp only[St.set,if_true,if_false, *]
   ·rw[hS2];simp only[St.set,if_true,if_false, *]
   all_goals assumption
  have w3:=WC.out _ _ hC
  have q13:=hC.k
  have HSS:=Lib.hid hsS2
  dsimp only at w3 q13
  rw[List.nil_append]at w3
  clear hS2 hC hsS2 hf2 hSb13 hb hb11 hb12 n3 n5 n9 j3 j5 j9 jW
  (repeat'((((with_reducible refine G_region fun K E hK hE=>?_))<;>(try simp(disch:=omega) only[go_sem,seval, *]))))
  refine call_ex can97 w3 (fun a h=>?_)
  obtain⟨u,o'⟩:=a
  obtain⟨hC3,hF3⟩:=h
  dsimp only at hC3 hF3 ⊢
  have p11:=hC3.ro
  have p12:=hC3.f
  dsimp only at p11 p12
  have hfin:Fg u s:=fun z=>by
   by_cases hz:s z=.free
   ·exact .inl hz
   ·obtain⟨a1,a2,a3⟩:=HSS.out z hz
    exact .inr (by rw[← a3];exact(hF3.fr z (by rw[a3];exact hz) a2 a1 (fun y hy=>by cases hy)).symm)
  have HFIN:=Lib.hid hfin
  clear w3 q13 hC3 hF3 hfin
  simp only[go_sem,seval]
  (repeat'(first|refine Ctl ?_|((with_reducible refine Kof.use hK ?_);clear hK hE K E)|((with_reducible refine W_cond (fun h=>?_) (fun h=>?_))<;>(try(exfalso;assumption)))|(((with_reducible refine G_region fun K E hK hE=>?_))<;>(try simp(disch:=omega) only[go_sem,seval, *]))))
  all_goals(refine W_ret res63 hQ ?_)
  exact⟨_,_,Wk.tupQ,HFIN.out,rfl,rfl⟩
theorem Kp_wkt {P:Program}{N:Nat}{D:List Deferred}{c:Code}{k:List Itm}{Q:Pst}{env:Env}{s:St}(t:Nat){x y:VV}(ht:env t=x)(hw:Wk x y)(h:Kp P N D (.code c::k) Q .norm (upd env t y) s):Kp P N D (.code c::k) Q .norm env s:=
 fun w0 G w a hfr hD hS=>h w0 G w a ⟨hfr.size,fun i=>by
  by_cases e:i=t
  ·subst e
   simp only[upd,if_true]
   exact hw _ _ (ht ▸ hfr.rel i)
  ·simp only[upd,if_neg e]
   exact hfr.rel i⟩ hD hS
theorem Wk.rawnil:Wk (.raw (.slice none 0 0)) (.lst [] .no):=fun G v h=>by
 cases h
 exact .emp none 0 .no (.inl rfl)
section
variable {P : Program} {N : Nat} {D : List Deferred} {c : Code} {k : List Itm} {Q : Pst} {env : Env} {s : St}
theorem Kp_frzR (t g n:Nat){T:TypeId}{xs:List VV}(hb:s g=.row T 1 xs)(ht:env t=.mrw g n)(hn:xs.length=n)
  (h:Kp P N D (.code c::k) Q .norm (upd env t (.lst (xs.map fun y=>[y]) .no)) (s.set g .free)):Kp P N D (.code c::k) Q .norm env s:=by
 intro w0 G w a hfr hD hS
 obtain⟨G',hle,hS',hK,_⟩:=hS.frzR hb
 refine wp_mono (h w0 G' w a ⟨hfr.size,fun i=>?_⟩ hD hS') fun e a w=>Up.back hle
 by_cases e:i=t
 ·subst e
  have hr:=(hfr.rel i).mono hle
  rw[ht]at hr
  simp only[upd,if_true]
  exact hr.frz hn hK
 ·simp only[upd,if_neg e]
  exact(hfr.rel i).mono hle
theorem Kp_rawnil (t:Nat)(ht:env t=.lst [] .full)(h:Kp P N D (.code c::k) Q .norm (upd env t (.raw (.slice none 0 0))) s):Kp P N D (.code c::k) Q .norm env s:=by
 refine Kp_wkt t ht (fun G v hr=>?_) h
 cases hr with
 |emp a cap o ho=>
  rcases ho with ho|⟨_,rfl,rfl⟩
  ·cases ho
  ·exact .raw _
 |lst b off len cap sz xs o f hl hc hz h1 hK hR ho=>
  simp at hl
  subst hl
  rcases ho with ho|⟨_,_,h0⟩|⟨ho,_⟩
  ·cases ho
  ·omega
  ·cases ho
end
theorem flat_grow {f:Nat→List Nat}(hf:∀m,0<(f m).length):∀(all:List Nat),all.length≤(all.flatMap f).length
 |[]=>Nat.le_refl _
 |m::r=>by
  have:=flat_grow hf r
  have:=hf m
  simp only[List.flatMap_cons,List.length_append,List.length_cons]
  omega
theorem stepE_one {c:List Int}{i v m:Nat}:0<((if (c[v]?).getD 0≠1 then [m] else [])++(if (c[v]?).getD 0≠0 then [m+2 ^ i] else [])).length:=by
 by_cases h1:(c[v]?).getD 0≠1
 ·rw[if_pos h1];simp only[List.length_append,List.length_singleton];omega
 ·rw[if_neg h1,if_pos]
  ·simp
  ·intro h2
   rw[h2]at h1
   exact h1 (by decide)
theorem stepE_grow {c:List Int}{i v:Nat}{all:List Nat}:all.length≤(stepE c i v all).length:=flat_grow (fun m=>stepE_one) all
theorem expE_grow {c:List Int}:∀{vs:List Nat} {i:Nat} {all:List Nat},all.length≤(expE c i vs all).length
 |[],i,all=>Nat.le_refl _
 |v::vs,i,all=>Nat.le_trans stepE_grow (expE_grow (vs:=vs))
theorem stepE_add {c:List Int}{i v m:Nat}{all:List Nat}:stepE c i v (all++[m])=stepE c i v all++((if (c[v]?).getD 0≠1 then [m] else [])++(if (c[v]?).getD 0≠0 then [m+2 ^ i] else [])):=by
 simp only[stepE,List.flatMap_append,List.flatMap_cons,List.flatMap_nil,List.append_nil]
theorem stepE_twice {c:List Int}{i v:Nat}:∀{all:List Nat},(stepE c i v all).length≤2 * all.length
 |[]=>Nat.le_refl _
 |m::r=>by
  have:=stepE_twice (c:=c) (i:=i) (v:=v) (all:=r)
  simp only[stepE,List.flatMap_cons,List.length_append,List.length_cons]at this ⊢
  have h1:∀(p:Prop) [Decidable p] (x:Nat),(if p then [x] else []).length≤1:=fun p _ x=>by split<;>simp
  have a:=h1 ((c[v]?).getD 0≠1) m
  have b:=h1 ((c[v]?).getD 0≠0) (m+2 ^ i)
  omega
theorem or_new {m i:Nat}(h:m<2 ^ i)(hi:i≤61):vint .or .i64 (m:Int) ((2 ^ i:Nat):Int)=some (.int .i64 ((m+2 ^ i:Nat):Int)):=by
 have hle:2 ^ i≤2 ^ 61:=Nat.pow_le_pow_right (by omega) hi
 have e1:m ||| 2 ^ i=m+2 ^ i:=by
  have:=Nat.two_pow_add_eq_or_of_lt h 1
  rw[Nat.mul_one]at this
  rw[Nat.or_comm,← this,Nat.add_comm]
 have e:(BitVec.ofInt IntKind.i64.bits (m:Int) ||| BitVec.ofInt IntKind.i64.bits ((2 ^ i:Nat):Int)).toNat=m+2 ^ i:=by
  rw[BitVec.toNat_or]
  simp only[IntKind.bits]
  rw[BitVec.ofInt_natCast,BitVec.ofInt_natCast,BitVec.toNat_ofNat,BitVec.toNat_ofNat,Nat.mod_eq_of_lt (by omega),Nat.mod_eq_of_lt (by omega),e1]
 simp only[vint]
 unfold bOr
 rw[e,wrap_i64 (by omega) (by omega)]
end Go.Proofs.YtndlnadbnganeaaGreatDoor
