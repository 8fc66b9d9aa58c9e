/- Walks of functions that the claim reaches, and plain facts of them. Conditions: those in the statements. -/
import Derived.Test.YtndlnadbnganeaaGreatDoorJjSqj
set_option linter.unusedSimpArgs false
set_option linter.unusedVariables false
set_option maxRecDepth 100000
namespace Go.Proofs.YtndlnadbnganeaaGreatDoor
open Go.RowKit
attribute [-go_sem] p_and p_or p_shl p_shr
theorem tupF_add {at_:List (List Nat)}{ks vals:List Nat}{i k v:Nat}(h1:ks[i]?=some k)(h2:vals[i]?=some v)(hl:vals.length=ks.length)(x:Nat→Bool):(tupF at_ (ks.take i) (vals.take i) x && btwF (at_.getD k []) v v x)=tupF at_ (ks.take (i+1)) (vals.take (i+1)) x:=by
 have hi:=(List.getElem?_eq_some_iff.1 h1).1
 have e:(ks.take (i+1)).zip (vals.take (i+1))=(ks.take i).zip (vals.take i)++[(k,v)]:=by
  rw[List.take_add_one,List.take_add_one,h1,h2,List.zip_append (by rw[List.length_take,List.length_take];omega)]
  rfl
 have e2:btwF (at_.getD k []) v v x=decide (numA (at_.getD k []) x=v):=by
  unfold btwF
  rw[Bool.eq_iff_iff]
  simp only[Bool.and_eq_true,decide_eq_true_eq]
  omega
 unfold tupF
 rw[e,List.all_append,e2]
 simp
attribute [local go_sem] disown_fl owned_fl own_fl
set_option maxHeartbeats 16000000 in
theorem CodeVars_S (s:St)(a a2 od i1 i2 i3:Int):SRet Tryz.prog 6 [.agg [.int .i64 a,.int .i64 a2],.int .i64 od,.agg [.int .i64 i1,.int .i64 i2,.int .i64 i3]] s (.bool true) s:=by
 have w3:=fun s=>Cthree_S s a a2 od
 have wa:=Cawake_S
 have W3:=Lib.hid w3
 have WA:=Lib.hid wa
 clear w3 wa
 obtain⟨k1,hk1,ek1⟩:=and255 i1
 obtain⟨k2,hk2,ek2⟩:=and255 i2
 obtain⟨k3,hk3,ek3⟩:=and255 i3
 refine G_enter Tryz.func6 rfl Tryz.ntmps6 rfl fun Q hQ hQe=>?_
 (repeat'(first|refine Ctl ?_|((with_reducible refine Kof.use hK ?_);clear hK hE K E)|((first|(with_reducible refine G_region fun K E hK hE=>?_)|((with_reducible refine W_fresh (fun b hb=>?_));(repeat(obtain⟨_,hb⟩:=hb))))<;>(try simp(disch:=omega) only[go_sem,seval, *]))))
 rename_i b3 hb3 _ _
 obtain⟨b5,hb5⟩:∃z,z=b:=⟨_,rfl⟩
 subst hb5
 have hsb5:s b5=.free:=by assumption
 obtain⟨u0,hu0⟩:∃u,u=(s.set b3 (.obj 22 [.int .i64 a,.int .i64 a2])).set b5 (.obj 41 [.int .i64 i1,.int .i64 i2,.int .i64 i3]):=⟨_,rfl⟩
 rw[← hu0]
 have g5:u0 b5=.obj 41 [.int .i64 i1,.int .i64 i2,.int .i64 i3]:=by rw[hu0,St.set_same]
 have g0:∀z,s z≠.free→u0 z=s z:=fun z hz=>by rw[hu0,St.set_other _ _ (nef hsb5 hz).1,St.set_other _ _ (nef hb3 hz).1]
 obtain⟨x,y,hx,hy,ex,ey,w3⟩:=W3.out u0
 refine call_ex can10 w3 (fun z h=>?_)
 obtain⟨o,L⟩:=Law.of h hx hy
 obtain⟨u1,KK,q,c⟩:=z
 dsimp only at L ⊢
 have k5:u1 b5=.obj 41 [.int .i64 i1,.int .i64 i2,.int .i64 i3]:=by rw[(L.fr b5 (by rw[g5];simp)).1,g5]
 have G0:=Lib.hid g0
 clear w3 h hu0 g5 g0 hb hb3 hsb5 ex ey
 have w20:=L.vars [2,0] .full (fun k hk=>by simp at hk;rcases hk with rfl|rfl<;>decide) (by simp)
 have w2:=L.vars [2] .full (fun k hk=>by simp at hk;subst hk;decide) (by simp)
 have w0:=L.vars [0] .full (fun k hk=>by simp at hk;subst hk;decide) (by simp)
 have w11:=fun(ow:Own) (n:Nat) (hO:OwnOk u1 ow n)=>(L.own (T:=3) (sz:=1) hO).vars [1,1] .full (fun k hk=>by simp at hk;subst hk;decide) (by simp)
 rw[if_pos (by decide)]at w20 w2 w0
 simp only[show ¬ [1,1].Nodup by decide,if_false]at w11
 have hdx:∀n,n<3→(domsC (dsT x y))[n]?=some [.str [65+UInt8.ofNat n],.int .i64 ((szD x y n:Nat):Int)]:=fun n hn=>domsC_at (dsT_at hn)
 have d0:=hdx 0 (by omega)
 have d1:=hdx 1 (by omega)
 have d2:=hdx 2 (by omega)
 obtain⟨we0,z0,y0,y0',wf0⟩:=L.wid (d:=0) (by omega)
 obtain⟨we1,z1,y1,y1',wf1⟩:=L.wid (d:=1) (by omega)
 obtain⟨we2,z2,y2,y2',wf2⟩:=L.wid (d:=2) (by omega)
 have e20:natsL (varsOf o [2,0])=natsL (varsOf o [2])++natsL (varsOf o [0]):=by simp[varsOf,natsL]
 have l2:(natsL (varsOf o [2])).length=(o.getD 2 []).length:=by rw[natsL_len,varsOf_one]
 have l0:(natsL (varsOf o [0])).length=(o.getD 0 []).length:=by rw[natsL_len,varsOf_one]
 have l20:(varsOf o [2,0]).length≤8:=by rw[varsOf_two,List.length_append];omega
 have ws:=fun(t:St) (ow:Own)=>SameInts_S ((varsOf o [2,0]).map fun(k:Nat)=>(k:Int)) ((varsOf o [2,0]).map fun(k:Nat)=>(k:Int)) .no ow (by rw[List.length_map];omega) (by rw[List.length_map];omega) t
 rw[← natsL_ints,decide_eq_true rfl,e20]at ws
 rw[e20]at w20
 have hy2:∀y,y∈natsL (varsOf o [2])→y.length=1:=fun y hy=>by obtain⟨z,_,rfl⟩:=List.mem_map.1 hy;rfl
 have hy0:∀y,y∈natsL (varsOf o [0])→y.length=1:=fun y hy=>by obtain⟨z,_,rfl⟩:=List.mem_map.1 hy;rfl
 clear we0 we1 we2 wf0 wf1 wf2
 have LH:=Lib.hid L
 have WS:=Lib.hid ws
 have W11:=Lib.hid w11
 clear L ws hdx w11 e20 l20
 simp only[natsL,List.map_cons,List.map_nil]at w20 w2 w0
 change ∀y,y∈(varsOf o [2]).map (fun(k:Nat)=>[VV.int .i64 (k:Int)])→y.length=1 at hy2
 change ∀y,y∈(varsOf o [0]).map (fun(k:Nat)=>[VV.int .i64 (k:Int)])→y.length=1 at hy0
 change ((varsOf o [2]).map (fun(k:Nat)=>[VV.int .i64 (k:Int)])).length=_ at l2
 change ((varsOf o [0]).map (fun(k:Nat)=>[VV.int .i64 (k:Int)])).length=_ at l0
 have WS2:Hid (∀(t:St) (ow:Own),SRet Tryz.prog 22 [.lst ((varsOf o [2]).map (fun(k:Nat)=>[VV.int .i64 (k:Int)])++(varsOf o [0]).map (fun(k:Nat)=>[VV.int .i64 (k:Int)])) .no,.lst ((varsOf o [2]).map (fun(k:Nat)=>[VV.int .i64 (k:Int)])++(varsOf o [0]).map (fun(k:Nat)=>[VV.int .i64 (k:Int)])) ow] t (.bool true) t):=WS
 clear WS
 generalize (varsOf o [2]).map (fun(k:Nat)=>[VV.int .i64 (k:Int)])=V2 at *
 generalize (varsOf o [0]).map (fun(k:Nat)=>[VV.int .i64 (k:Int)])=V0 at *
 generalize (o.getD 2 []).length=q2 at *
 generalize (o.getD 0 []).length=q0 at *
 generalize domsC (dsT x y)=DC at *
 simp only[go_sem,seval]
 (repeat'(first|(with_reducible refine Kp_atQ 10 ?_)|refine Ctl ?_|((with_reducible refine Kof.use hK ?_);clear hK hE K E)|((with_reducible refine W_cond (fun h=>?_) (fun h=>?_))<;>(try(exfalso;assumption)))|((first|(with_reducible first|refine G_region fun K E hK hE=>?_|refine call_ret can21 (w20) ?_|refine call_ret can21 (w2) ?_|refine call_ret can21 (w0) ?_)|((with_reducible refine W_app (fun o2 ho=>?_));(try simp(disch:=assumption) only[disown_set,disown_own,ownok_o,ownok_m,List.length_map,List.length_cons,List.length_nil,Nat.zero_add,l2,l0,List.nil_append]at ho);(try(simp only[disown_fl]at ho))))<;>(try simp(disch:=first|assumption|omega) only[go_sem,seval,l2,l0,List.nil_append, *]))))
 unfold StopQ
 have w11:=W11.out o2 (q2+q0) ho
 have ws:=WS2.out
 simp only[natsL,List.map_cons,List.map_nil]at w11
 clear w20 w2 w0
 (repeat'(first|(with_reducible refine Kp_atQ 13 ?_)|refine Ctl ?_|((with_reducible refine Kof.use hK ?_);clear hK hE K E)|((with_reducible refine W_cond (fun h=>?_) (fun h=>?_))<;>(try(exfalso;assumption)))|(((with_reducible first|refine G_region fun K E hK hE=>?_|refine call_ret can21 (w11) ?_|refine call_ret can22 (ws _ _) ?_))<;>(try simp(disch:=omega) only[go_sem,seval, *]))))
 unfold StopQ
 refine Kp_forget (s':=u1) (Fg.own ho) ?_
 have hks3:∀k,k∈[0,1,2]→k<3:=fun k hk=>by simp at hk;omega
 have r1:=rem_nat (k:=k1) (m:=szD x y 0)
 have r2:=rem_nat (k:=k2) (m:=szD x y 1)
 have r3:=rem_nat (k:=k3) (m:=szD x y 2)
 have hp:∀n,n<3→0<szD x y n:=fun n hn=>(LH.out.wid hn).2.2.1
 have m0:k1 % szD x y 0<szD x y 0:=Nat.mod_lt _ (hp 0 (by omega))
 have m1:k2 % szD x y 1<szD x y 1:=Nat.mod_lt _ (hp 1 (by omega))
 have m2:k3 % szD x y 2<szD x y 2:=Nat.mod_lt _ (hp 2 (by omega))
 have q0':¬ ((szD x y 0:Nat):Int)=0:=by have:=hp 0 (by omega);omega
 have q1':¬ ((szD x y 1:Nat):Int)=0:=by have:=hp 1 (by omega);omega
 have q2':¬ ((szD x y 2:Nat):Int)=0:=by have:=hp 2 (by omega);omega
 obtain⟨v0,e0⟩:∃v,v=k1 % szD x y 0:=⟨_,rfl⟩
 obtain⟨v1,e1⟩:∃v,v=k2 % szD x y 1:=⟨_,rfl⟩
 obtain⟨v2,e2⟩:∃v,v=k3 % szD x y 2:=⟨_,rfl⟩
 rw[← e0]at r1 m0
 rw[← e1]at r2 m1
 rw[← e2]at r3 m2
 have hok:∀(i k v:Nat),[0,1,2][i]?=some k→[v0,v1,v2][i]?=some v→v<szD x y k:=fun i k v h1 h2=>by
  match i with
  |0=>simp at h1 h2;subst h1 h2;exact m0
  |1=>simp at h1 h2;subst h1 h2;exact m1
  |2=>simp at h1 h2;subst h1 h2;exact m2
  |i+3=>simp at h1
 have wu:=LH.out.tuple [0,1,2] [v0,v1,v2] .full .full hks3 (by simp) (by decide) rfl hok (by omega)
 have HOK:=Lib.hid hok
 unfold OpFC at wu
 clear hok e0 e1 e2 w11 ws W11 WS2 ho hp m0 m1 m2 hy2 hy0 l2 l0
 simp only[natsL,List.map_cons,List.map_nil]at wu
 (repeat'(first|refine Ctl ?_|(with_reducible first|(refine Kof.use hK ?_;clear hK hE K E)|(refine Kof.use hKh ?_;clear hKh Kh)|refine G_plan 13 [] [0,1,2,3,4,5,6,7,8,9,10,11,12,13,14,15,16,17,18,19,20,21,22,23,24,25] hQe fun K E hK hE=>?_)|(((with_reducible first|refine G_region fun K E hK hE=>?_|refine W_if ?_|refine P_fin fun Kh hKh=>?_))<;>(try simp(disch:=omega) only[go_sem,seval,ek1,ek2,ek3,r1,r2,r3,d0,d1,d2, *]))))
 refine call_ex can16 wu (fun a h=>?_)
 obtain⟨u2,K2,ns2⟩:=a
 have L2:=LH.out.step h
 have hmT:=h.mem
 dsimp only at L2 hmT ⊢
 have HMT:=Lib.hid hmT
 have I0:Hid (Law u0 u2 K2 q c ns2 x y o (14+4240 * 0)∧(∃l,ns2=ns2++l)∧treeT 12 (tupF o ([0,1,2].take 0) ([v0,v1,v2].take 0))∈ns2):=Lib.hid ⟨L2,⟨[],by simp⟩,L2.C.om.c0.2.1⟩
 have h22:ixF 12 ns2 (tupF o ([0,1,2].take 0) ([v0,v1,v2].take 0))=1:=L2.C.om.c0.2.2
 clear h L2 wu hmT r1 r2 r3 LH k5
 generalize hkz:ixF 12 ns2 (tupF o [0,1,2] [v0,v1,v2])=kz at *
 have HKZ:=Lib.hid hkz
 clear hkz
 simp only[go_sem,seval]
 (repeat'(first|refine Ctl ?_|((with_reducible refine Kof.use hK ?_);clear hK hE K E)|(((with_reducible refine G_region fun K E hK hE=>?_))<;>(try simp(disch:=omega) only[go_sem,seval, *]))))
 refine G_loop (fun f env s'=>∃(d:Nat) (K':OB) (ns':List Tr),d≤3∧f+d=3∧Hid (Law u0 s' K' q c ns' x y o (14+4240 * d)∧(∃l,ns'=ns2++l)∧treeT 12 (tupF o ([0,1,2].take d) ([v0,v1,v2].take d))∈ns')∧env 7=.ptr c 0∧env 19=.lst [[.int .i64 (v0:Int)],[.int .i64 (v1:Int)],[.int .i64 (v2:Int)]] .full∧env 20=.int .i64 kz∧env 21=.int .i64 0∧env 22=.int .i64 (ixF 12 ns' (tupF o ([0,1,2].take d) ([v0,v1,v2].take d)):Nat)∧env 23=.int .i64 (d:Int)) 3 ?_ ?_
 ·exact⟨_,Fg.refl _,0,K2,ns2,by omega,by omega,I0,z_sl,z_sl,z_sl,z_sl,by(rw[h22];((try simp(disch:=assumption) only[go_sem,seval, *])<;>rfl)),z_sl⟩
 clear I0 h22
 rintro f env s' ⟨d,K',ns',hd,hfd,HI,e7,e19,e20,e21,e22,e23⟩
 obtain⟨L,hpre,hmem⟩:=HI.out
 by_cases h7:d<3
 ·obtain⟨v,hv⟩:∃v,[v0,v1,v2][d]?=some v:=⟨_,List.getElem?_eq_getElem (by simpa using h7)⟩
  have hk:[0,1,2][d]?=some d:=by
   match d,h7 with
   |0,_=>rfl
   |1,_=>rfl
   |2,_=>rfl
  have hvz:=HOK.out d d v hk hv
  have wr:=L.rng (d:=d) (lo:=v) (hi:=v) h7 (Nat.le_refl _) hvz (by omega)
  have hvx:([[.int .i64 (v0:Int)],[.int .i64 (v1:Int)],[.int .i64 (v2:Int)]]:List (List VV))[d]?=some [.int .i64 (v:Int)]:=natsL_at hv
  have hvl:d<3∧(3:Int)=((3:Nat):Int):=⟨h7,rfl⟩
  have hta:=fun z=>tupF_add (at_:=o) hk hv rfl z
  have hdF:DepF (varsOf o [0,1,2]) (tupF o ([0,1,2].take d) ([v0,v1,v2].take d)):=(tupF_dep o).mono fun w hw=>by
   obtain⟨p,hp,hw⟩:=List.mem_flatMap.1 hw
   exact List.mem_flatMap.2 ⟨p,List.mem_of_mem_take hp,hw⟩
  have hdG:DepF (varsOf o [0,1,2]) (btwF (o.getD d []) v v):=(btwF_dep _ _ _).mono fun w hw=>List.mem_flatMap.2 ⟨d,List.mem_of_getElem? hk,hw⟩
  have hlt:=varsOf_lt L.D (ks:=[0,1,2]) hks3
  have hsub:=subN_tree (n:=12) (k:=12) hlt (hdF.and hdG) (by have:=L.vlen [0,1,2] hks3;simpa using this)
  have HH:=Lib.hid (And.intro hta (And.intro hdF (And.intro hdG (And.intro hlt hsub))))
  have HL:=Lib.hid L
  have HPM:=Lib.hid (And.intro hpre hmem)
  have h3l:((3:Nat):Int)=3:=rfl
  unfold OpFC at wr
  clear HI L hpre hmem hv hk hvz hta hdF hdG hlt hsub hvl
  generalize hFd:tupF o ([0,1,2].take d) ([v0,v1,v2].take d)=Fd at *
  have HFD:=Lib.hid hFd
  clear hFd
  generalize hVS:([[.int .i64 (v0:Int)],[.int .i64 (v1:Int)],[.int .i64 (v2:Int)]]:List (List VV))=VS at *
  generalize hkm:ixF 12 ns' Fd=km at *
  have HKM:=Lib.hid hkm
  clear hkm hVS
  (repeat'(first|refine Ctl ?_|(with_reducible first|(refine Kof.use hK ?_;clear hK hE K E)|(refine Kof.use hKh ?_;clear hKh Kh)|refine G_plan 19 [([0,1,2,3,4,5,6,7,8,9],10,[[]])] [11,12,13,14,15] hQe fun K E hK hE=>?_)|((with_reducible refine W_cond (fun h=>?_) (fun h=>?_))<;>(try(exfalso;omega)))|(((with_reducible first|refine G_region fun K E hK hE=>?_|refine P_heads fun Kh hKh=>?_|refine P_each fun Kb hKb=>?_))<;>(try simp(disch:=omega) only[go_sem,seval,hvx, *]))))
  refine call_ex can11 wr (fun a h=>?_)
  obtain⟨u3,K3,ns3⟩:=a
  have L3:=HL.out.step h
  have hG:=h.mem
  have hsF:=sub_of h.pre HPM.out.2
  have hp3:=pre_trans HPM.out.1 h.pre
  dsimp only at L3 hG hsF hp3 ⊢
  have hkm2:ixF 12 ns3 Fd=km:=hsF.2.trans HKM.out
  have wn:=OAnd_F L3.C.om (HH.out.2.1.hang HH.out.2.2.2.1) (HH.out.2.2.1.hang HH.out.2.2.2.1) hsF.1 hG L3.n HH.out.2.2.2.2 (by omega)
  have wq:=L3.cq
  have wo:=L3.co
  rw[hkm2]at wn
  have wn:=(wn.congr HH.out.1).mono (show 14+4240 * d+144+(2 ^ 12 - 1)≤14+4240 * (d+1) by omega)
  have HL3:=Lib.hid L3
  have HP3:=Lib.hid hp3
  unfold OpFC at wn
  clear h L3 hG hsF hp3 wr hkm2 HKM
  generalize ixF 12 ns3 (btwF (o.getD d []) v v)=kr at *
  simp only[go_sem,seval]
  (repeat'(first|refine Ctl ?_|(with_reducible first|(refine Kof.use hK ?_;clear hK hE K E)|(refine Kof.use hKh ?_;clear hKh Kh)|(refine Kof.use hKb (P_next ?_);clear hKb Kb))|(((with_reducible first|refine G_region fun K E hK hE=>?_|refine call_ret can17 (wq) ?_|refine call_ret can18 (wo) ?_|refine P_fin fun Kh hKh=>?_))<;>(try simp(disch:=omega) only[go_sem,seval, *]))))
  refine call_ex can23 wn (fun a h=>?_)
  obtain⟨u4,K4,ns4⟩:=a
  have L4:=HL3.out.step h
  have I4:=Lib.hid (And.intro L4 (And.intro (pre_trans HP3.out h.pre) h.mem))
  dsimp only at I4 ⊢
  clear h L4 wn HL3 HP3 wq wo
  simp only[go_sem,seval]
  (repeat'(first|refine Ctl ?_|((with_reducible refine Kof.use hK ?_);clear hK hE K E)|((with_reducible refine W_cond (fun h=>?_) (fun h=>?_))<;>(try(exfalso;assumption)))|(((with_reducible refine G_region fun K E hK hE=>?_))<;>(try simp(disch:=omega) only[go_sem,seval, *]))))
  all_goals exact⟨_,Fg.refl _,f - 1,by omega,d+1,K4,ns4,by omega,by omega,I4,z_sl,z_sl,z_sl,z_sl,z_sl,z_sl⟩
 ·obtain rfl:d=3:=by omega
  have e3:ixF 12 ns' (tupF o ([0,1,2].take 3) ([v0,v1,v2].take 3))=kz:=(sub_of hpre HMT.out).2.trans HKZ.out
  have HFG:=Lib.hid (L.from G0.out).fg
  have wa:=WA.out s'
  rw[e3]at e22
  clear L hpre hmem HI e3
  (repeat'(first|refine Ctl ?_|((with_reducible refine Kof.use hK ?_);clear hK hE K E)|((with_reducible refine W_cond (fun h=>?_) (fun h=>?_))<;>(try(exfalso;assumption)))|(((with_reducible first|refine G_region fun K E hK hE=>?_|refine call_ret can12 (wa) ?_))<;>(try simp(disch:=omega) only[go_sem,seval, *]))))
  all_goals(refine W_ret res6 hQ ?_)
  all_goals exact⟨_,_,Wk.refl _,HFG.out,rfl,rfl⟩
end Go.Proofs.YtndlnadbnganeaaGreatDoor
