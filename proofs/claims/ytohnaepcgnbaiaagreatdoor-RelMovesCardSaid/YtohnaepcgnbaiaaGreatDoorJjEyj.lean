/- Walks of functions that the claim reaches, and plain facts of them. Conditions: those in the statements. -/
import Derived.Test.YtohnaepcgnbaiaaGreatDoorJjEnj
import Derived.Test.YtohnaepcgnbaiaaGreatDoorJjSuj
set_option linter.unusedSimpArgs false
set_option linter.unusedVariables false
set_option maxRecDepth 100000
namespace Go.Proofs.YtohnaepcgnbaiaaGreatDoor
open Go.RowKit
attribute [-go_sem] p_and p_or p_shl p_shr p_andNot p_quo p_rem
abbrev mvL (D:List Nat)(k d:Nat):List VV:=List.take (k * 1) (D.map fun(k:Nat)=>VV.int .i64 (k:Int))++[VV.int .i64 (d:Int)]++List.drop (k * 1+1) (D.map fun(k:Nat)=>VV.int .i64 (k:Int))
theorem mvL_len {D:List Nat}{k d:Nat}(h:k<D.length):(mvL D k d).length=D.length:=by
 simp;omega
theorem mvL_eq {D:List Nat}{k d:Nat}(h:k<D.length):(mvL D k d).map (fun y=>[y])=natsL (D.set k d):=by
 rw[List.set_eq_take_append_cons_drop,if_pos h,natsL]
 simp[List.map_take,List.map_drop,Function.comp_def]
theorem RelR.fin {s u2:St}{K K':OB}{x m m' q c n B N:Nat}{ns ns':List Tr}{ds:List (List UInt8×Nat)}{o:List (List Nat)}{f:(Nat→Bool)→Bool}{b:Nat}{xs:List VV}(h:RelR s K x m q c n B ns ds o N f (u2,K',m',ns'))(hb:u2 b=.obj 30 xs)(hs:s b=.free){u':St}(hu:∀z,u2 z≠.free→¬ z=b→u' z=u2 z):RelR s K x m q c n B ns ds o N f (u',K',m',ns'):=by
 refine(h.set (y:=u' b) hb hs).new fun z hz=>?_
 by_cases e:z=b
 ·subst e;exact(St.set_same _ _ _).symm
 ·dsimp only at hz ⊢
  rw[St.set_other _ _ e]at hz ⊢
  exact hu z hz e
set_option maxHeartbeats 8000000 in
theorem RMove_S {s:St}{KK:OB}{x m q c n B N:Nat}{ns:List Tr}{ds:List (List UInt8×Nat)}{o:List (List Nat)}(hn64:n≤64)(hM:RMem s KK x m q c n B ns ds o)(hD:DOk n ds o){f:(Nat→Bool)→Bool}(A:List (List UInt8))(o1:Own)(D:List Nat)(o2:Own)(hR:Rel4 ds o A D)(hf:DepF (varsOf o D) f)(mf:treeT n f∈ns)
  (attr:List UInt8) (k d0 d1:Nat) (hix:ixA attr A=(k:Int)) (hk:D[k]?=some d0) (h1:Dom4 ds o [d1]) (hne:d0≠d1→d1∉D) (hc:CntN ns N) (hB:N+((varsOf o D).length+2) * 2 ^ (varsOf o D).length≤B) :
  SCalls Tryz.prog 10 [.ptr x 0,.agg [.lst (strs A) o1,.lst (natsL D) o2,.int .i64 (ixF n ns f:Nat)],.str attr,.int .i64 (d1:Int)] s fun w u=>∃a:RelA,w=.ret (.tup [.agg [.lst (strs A) .no,.lst (natsL (D.set k d1)) .no,.int .i64 (ixF n a.2.2.2 (rnF (renB (varsOf o [d0]) (varsOf o [d1])) f):Nat)],.int .i64 0])∧u=a.1∧RelR s KK x m q c n B ns ds o (N+((varsOf o D).length+2) * 2 ^ (varsOf o D).length) (rnF (renB (varsOf o [d0]) (varsOf o [d1])) f) a:=by
 have hl8:=hR.l8
 have hlt:=hR.d4.lt
 have hd0:=List.mem_of_getElem? hk
 have h1l:=h1.lt d1 (by simp)
 have wm:=fun(u:St) (hu:∀z,s z≠.free→u z=s z)=>May_S hn64 (hM.more hu) hD [[.lst (strs A) o1,.lst (natsL D) o2,.int .i64 ((ixF n ns f:Nat):Int)]] .full (fun z hz=>by
  rw[List.mem_singleton]at hz
  exact⟨⟨A,D,treeT n f⟩,o1,o2,hz,hR.ok hD hf mf⟩) (by simp)
 have wix:=fun u=>IxS_S A o1 attr (by have:=hR.nm.2.2;omega) u
 rw[hix]at wix
 have wct:=fun u=>ContN_S D o2 d1 (by omega) u
 have wtu:=fun(u:St) (m':Nat) (h:RMem u KK x m' q c n B ns ds o)=>Turn_S h hD [d0] [d1] .full .full hf (varsOf_lt hD hlt) mf (fun k hk=>by rw[List.mem_singleton]at hk;rw[hk];exact hlt _ hd0) (h1.lt) (by simp) (by simp) (by simp) (by simp) (by
  have a1:Dom4 ds o [d0]:=fun k hk=>by rw[List.mem_singleton]at hk;rw[hk];exact hR.d4 _ hd0
  rw[h1.vl,a1.vl];rfl) hc hB
 have wcs:=fun u=>CloneS_S u A o1 (by have:=hR.nm.2.2;omega)
 have wcm:=fun u=>CloneNM_S u D o2 (fun e=>by rw[e]at hd0;cases hd0) (by omega)
 have hs0:(szC ds)[d0]?=some [.int .i64 4]:=by obtain⟨nm,e⟩:=(hR.d4 _ hd0).1;exact szC_at e
 have hs1:(szC ds)[d1]?=some [.int .i64 4]:=by obtain⟨nm,e⟩:=(h1 d1 (by simp)).1;exact szC_at e
 have hszl:(szC ds).length=ds.length:=by simp[szC]
 have hkk:=natsL_at hk
 have c1:¬ (d1:Int)<0:=by omega
 have c2:¬ (d1:Int)≥(ds.length:Int):=by omega
 have c3:¬ (k:Int)<0:=by omega
 have WM:=Lib.hid wm
 have WIX:=Lib.hid wix
 have WCT:=Lib.hid wct
 have WTU:=Lib.hid wtu
 have WCS:=Lib.hid wcs
 have WCM:=Lib.hid wcm
 have HM:=Lib.hid hM
 have HMF:=Lib.hid mf
 have HC:=Lib.hid hc
 have hdec:d0≠d1→decide (d1∈D)=false:=fun h=>decide_eq_false (hne h)
 have HDEC:=Lib.hid hdec
 have HKK:=Lib.hid hk
 clear wm wix wct wtu wcs wcm hR hf mf hc hl8 hM h1 hlt hd0 h1l hne hdec hk hB hix
 generalize hkf:ixF n ns f=kf at *
 have HKF:=Lib.hid hkf
 clear hkf
 generalize strs A=SA at *
 generalize natsL D=V at *
 generalize hSZ:szC ds=SZ at *
 have HSZ:=Lib.hid hSZ
 clear hSZ
 refine SCalls.frz2 ?_
 refine G_enter Tryz.func10 rfl Tryz.ntmps10 rfl fun Q hQ hQe=>?_
 (repeat'(first|refine Ctl ?_|((with_reducible refine Kof.use hK ?_);clear hK hE K E)|((first|(with_reducible refine G_region fun K E hK hE=>?_)|((with_reducible refine W_fresh (fun b hb=>?_));(repeat(obtain⟨_,hb⟩:=hb))))<;>(try simp(disch:=omega) only[go_sem,seval, *]))))
 rename_i b5 hb5 nba nab
 obtain⟨b8,hb8e⟩:∃z,z=b:=⟨_,rfl⟩
 subst hb8e
 have hb8:s b8=.free:=hb
 obtain⟨u0,hu0⟩:∃u,u=(s.set b5 (.obj 30 [.lst SA o1,.lst V o2,.int .i64 (kf:Int)])).set b8 (.obj 30 [.lst [] .full,.lst [] .full,.int .i64 0]):=⟨_,rfl⟩
 rw[← hu0]
 have g0:∀z,s z≠.free→u0 z=s z:=fun z hz=>by rw[hu0,St.set_other _ _ (nef hb8 hz).1,St.set_other _ _ (nef hb5 hz).1]
 have k5:u0 b5=.obj 30 [.lst SA o1,.lst V o2,.int .i64 (kf:Int)]:=by rw[hu0,St.set_other _ _ (by assumption),St.set_same]
 have k8:u0 b8=.obj 30 [.lst [] .full,.lst [] .full,.int .i64 0]:=by rw[hu0,St.set_same]
 have wm:=WM.out u0 g0
 have G0:=Lib.hid g0
 have HB8:=Lib.hid hb8
 clear hu0 hb g0 WM hb5 hb8
 refine call_ex can29 wm (fun a h=>?_)
 obtain⟨u1,m1⟩:=a
 obtain⟨M1,K1⟩:=h
 dsimp only at M1 K1 ⊢
 have R1:=RelR.win M1 K1 HMF.out HC.out
 have j5:=R1.own (HM.out.more G0.out) k5 (by decide) (by decide) (by decide) (by decide)
 have j8:=R1.own (HM.out.more G0.out) k8 (by decide) (by decide) (by decide) (by decide)
 have R2:RelR s KK x m q c n B ns ds o N f (u1,KK,m1,ns):=(RelR.win (HM.out.more G0.out) (.new G0.out) HMF.out HC.out).then R1
 dsimp only at j5 j8
 obtain⟨a1,hx⟩:=M1.xf
 unfold spC at hx
 rw[HSZ.out]at hx
 have wix:=WIX.out u1
 have wct:=WCT.out u1
 have wt:=WTU.out u1 m1 M1
 have HR2:=Lib.hid R2
 have HM1:=Lib.hid M1
 clear wm M1 K1 R1 R2 k5 k8 WIX WCT WTU
 rw[show natsL [d0]=[[.int .i64 (d0:Int)]] from rfl,show natsL [d1]=[[.int .i64 (d1:Int)]] from rfl]at wt
 unfold OpFC at wt
 by_cases e:d0=d1
 ·subst e
  clear wct hs1
  simp only[go_sem,seval]
  (repeat'(first|refine Ctl ?_|(with_reducible first|(refine Kof.use hK ?_;clear hK hE K E)|(refine Kof.use hKh ?_;clear hKh Kh)|(refine Kof.use hKb (P_next ?_);clear hKb Kb)|refine G_plan 4 [([0,1,2,3,4,5,6,7,8,9,10,11,12,13],14,[[]])] [15,16,17,18,19,20,21,22,23,24,25,26,27,28,29,30,31,32,33,34,35,36,37] hQe fun K E hK hE=>?_|refine G_plan 6 [([0,1,2,3,4,5,6,7,8,9,10],11,[[]])] [12,13,14,15,16] hQe fun K E hK hE=>?_)|((with_reducible refine W_cond (fun h=>?_) (fun h=>?_))<;>(try(exfalso;assumption)))|((first|(with_reducible first|refine G_region fun K E hK hE=>?_|refine call_ret can30 (wix) ?_|refine P_heads fun Kh hKh=>?_|refine P_fin fun Kh hKh=>?_|refine P_each fun Kb hKb=>?_)|((with_reducible refine W_gd (fun h=>?_) (fun h=>?_))<;>(try(exfalso;omega))))<;>(try simp(disch:=omega) only[go_sem,seval,hszl,hkk,hs0,c1,c2,c3, *]))))
  clear wix
  refine call_ex can32 wt (fun a h=>?_)
  obtain⟨u2,K2,ns2⟩:=a
  have R3:=HR2.out.then (RelR.op HM1.out h)
  have l5:=(h.k.out b5 (by rw[j5];simp) (HM1.out.C.om.types j5 (by decide) (by decide) (by decide))).trans j5
  have l8:=(h.k.out b8 (by rw[j8];simp) (HM1.out.C.om.types j8 (by decide) (by decide) (by decide))).trans j8
  have HR3:=Lib.hid R3
  have HL8:=Lib.hid l8
  dsimp only at l5 l8 HR3 HL8 ⊢
  have hl5:u2 b5≠.free:=by rw[l5];simp
  have hl8:u2 b8≠.free:=by rw[l8];simp
  have hkD:k<D.length:=(List.getElem?_eq_some_iff.1 HKK.out).1
  have hDl:(D.map fun(k:Nat)=>VV.int .i64 (k:Int)).length=D.length:=List.length_map _
  clear h wt R3 j5 j8 hx
  generalize hkn:ixF n ns2 (rnF (renB (varsOf o [d0]) (varsOf o [d0])) f)=kn at *
  have HKN:=Lib.hid hkn
  clear hkn
  simp only[go_sem,seval]
  (repeat'(first|refine Ctl ?_|(with_reducible first|(refine Kof.use hK ?_;clear hK hE K E)|(refine Kof.use hKh ?_;clear hKh Kh)|(refine Kof.use hKb (P_next ?_);clear hKb Kb)|refine G_planT 9 (.two [0,1,3,4,6] 2 [[3,4,6]] (.two [] 5 [[],[6]] (.one [7] 8 [[7],[],[6]] (.one [] 9 [[],[],[],[]] (.fin []))) 8 [[],[3,4,6]] (.one [] 5 [[],[],[6]] (.one [7] 9 [[],[],[],[]] (.fin [])))) 8 [[0,1,3,4,6]] (.one [] 2 [[],[3,4,6]] (.one [] 5 [[],[],[6]] (.one [7] 9 [[],[],[],[]] (.fin []))))) hQe fun K E hK hE=>?_)|((with_reducible refine W_cond (fun h=>?_) (fun h=>?_))<;>(try(exfalso;assumption)))|((first|(with_reducible first|refine G_region fun K E hK hE=>?_|refine call_ret can33 (WCS.out _) ?_|refine P_fin fun Kh hKh=>?_|refine P_each fun Kb hKb=>?_|refine T_heads fun Kh hKh=>?_|refine T_two fun Kh hKh=>?_|refine T_both (fun Kb hKb=>?_) (fun Kb hKb=>?_))|((with_reducible refine W_fresh (fun b hb=>?_));(try(obtain⟨_,_⟩:=nef hb hl5;obtain⟨_,_⟩:=nef hb hl8))))<;>(try simp(disch:=omega) only[go_sem,seval, *]))))
  ·refine call_ex can34 (WCM.out _) (fun a h=>?_)
   obtain⟨u3,g⟩:=a
   obtain⟨hgf,hu3⟩:=h
   dsimp only at hgf hu3 ⊢
   have f3:∀z,u2 z≠.free→u3 z=u2 z:=fun z hz=>by rw[hu3,St.set_other _ _ (nef hgf hz).1]
   have p5:=(f3 b5 hl5).trans l5
   have p8:=(f3 b8 hl8).trans l8
   have pg:u3 g=.row 3 1 (D.map fun(k:Nat)=>.int .i64 (k:Int)):=by rw[hu3,St.set_same]
   have hp5:u3 b5≠.free:=by rw[p5];simp
   have hp8:u3 b8≠.free:=by rw[p8];simp
   have hpg:u3 g≠.free:=by rw[pg];simp
   have n8g:¬ b8=g:=fun e=>by rw[e,pg]at p8;cases p8
   have HF3:=Lib.hid (And.intro f3 hgf)
   clear hu3 l5 l8 hl5 hl8 f3 hgf
   simp only[go_sem,seval]
   (repeat'(first|refine Ctl ?_|(with_reducible first|(refine Kof.use hK ?_;clear hK hE K E)|(refine Kof.use hKh ?_;clear hKh Kh)|(refine Kof.use hKb (P_next ?_);clear hKb Kb))|((first|(with_reducible first|refine G_region fun K E hK hE=>?_|refine W_ifS ?_|refine P_each fun Kb hKb=>?_|refine T_heads fun Kh hKh=>?_|refine T_fin fun Kh hKh=>?_)|((with_reducible refine W_fresh (fun b hb=>?_));(try(obtain⟨_,_⟩:=nef hb hp5;obtain⟨_,_⟩:=nef hb hp8;obtain⟨_,_⟩:=nef hb hpg))))<;>(try simp(disch:=omega) only[go_sem,seval,hkk,hDl, *]))))
   have hbf:u3 b=.free:=hb
   all_goals(refine W_ret res10 hQ ?_)
   all_goals refine⟨_,_,Wk.refl _,Fg.refl _,_,_,_,g,D.length,3,mvL D k d0,rfl,?_,mvL_len hkD,(St.set _ g .free,K2,m1,ns2),?_,rfl,?_⟩
   ·rw[St.set_other _ _ (fun e=>n8g e.symm)];exact St.set_same _ _ _
   ·rw[HKN.out,mvL_eq hkD]
   ·refine HR3.out.fin HL8.out HB8.out fun z hz hne=>?_
    have a1:=(nef HF3.out.2 hz).1
    have a2:=(nef hbf (by rw[HF3.out.1 z hz];exact hz)).1
    rw[St.set_other _ _ a1,St.set_other _ _ hne,St.set_other _ _ a1,St.set_other _ _ a2]
    exact HF3.out.1 z hz
  all_goals refine call_ex can34 (WCM.out _) (fun a h=>?_)
  all_goals obtain⟨u3,g⟩:=a
  all_goals obtain⟨hgf,hu3⟩:=h
  all_goals dsimp only at hgf hu3 ⊢
  all_goals have hbf:u2 b=.free:=hb
  all_goals have hgb:¬ g=b:=fun e=>by rw[e,St.set_same]at hgf;cases hgf
  all_goals have hgf2:u2 g=.free:=by rw[St.set_other _ _ hgb]at hgf;exact hgf
  all_goals have f3:∀z,u2 z≠.free→u3 z=u2 z:=fun z hz=>by rw[hu3,St.set_other _ _ (nef hgf2 hz).1,St.set_other _ _ (nef hbf hz).1]
  all_goals have p5:=(f3 b5 hl5).trans l5
  all_goals have p8:=(f3 b8 hl8).trans l8
  all_goals have pg:u3 g=.row 3 1 (D.map fun(k:Nat)=>.int .i64 (k:Int)):=by rw[hu3,St.set_same]
  all_goals have pb:u3 b=.obj 30 [.lst [] .full,.lst [] .full,.int .i64 0]:=by rw[hu3,St.set_other _ _ (fun e=>hgb e.symm),St.set_same]
  all_goals have n8g:¬ b8=g:=fun e=>by rw[e,pg]at p8;cases p8
  all_goals have hbg:¬ b=g:=fun e=>hgb e.symm
  all_goals have HF3:=Lib.hid (And.intro f3 hgf2)
  all_goals clear hu3 l5 l8 hl5 hl8 f3 hgf hgf2 hb
  all_goals simp only[go_sem,seval,pb]
  all_goals(repeat'(first|refine Ctl ?_|(with_reducible first|(refine Kof.use hK ?_;clear hK hE K E)|(refine Kof.use hKh ?_;clear hKh Kh)|(refine Kof.use hKb (P_next ?_);clear hKb Kb))|(((with_reducible first|refine G_region fun K E hK hE=>?_|refine W_ifS ?_|refine P_each fun Kb hKb=>?_|refine T_heads fun Kh hKh=>?_|refine T_fin fun Kh hKh=>?_))<;>(try simp(disch:=omega) only[go_sem,seval,hkk,hDl, *]))))
  all_goals(refine W_ret res10 hQ ?_)
  all_goals refine⟨_,_,Wk.refl _,Fg.refl _,_,_,_,g,D.length,3,mvL D k d0,rfl,?_,mvL_len hkD,(St.set _ g .free,K2,m1,ns2),?_,rfl,?_⟩
  iterate 2
   ·rw[St.set_other _ _ (fun e=>n8g e.symm)];exact St.set_same _ _ _
   ·rw[HKN.out,mvL_eq hkD]
   ·refine HR3.out.fin HL8.out HB8.out fun z hz hne=>?_
    have a1:=(nef HF3.out.2 hz).1
    have a2:=(nef hbf hz).1
    rw[St.set_other _ _ a1,St.set_other _ _ hne,St.set_other _ _ a1,St.set_other _ _ a2]
    exact HF3.out.1 z hz
 ·have e2:¬ (d0:Int)=(d1:Int):=by omega
  rw[HDEC.out e]at wct
  simp only[go_sem,seval]
  (repeat'(first|refine Ctl ?_|(with_reducible first|(refine Kof.use hK ?_;clear hK hE K E)|(refine Kof.use hKh ?_;clear hKh Kh)|(refine Kof.use hKb (P_next ?_);clear hKb Kb)|refine G_plan 4 [([0,1,2,3,4,5,6,7,8,9,10,11,12,13],14,[[]])] [15,16,17,18,19,20,21,22,23,24,25,26,27,28,29,30,31,32,33,34,35,36,37] hQe fun K E hK hE=>?_|refine G_plan 6 [([0,1,2,3,4,5,6,7,8,9,10],11,[[]])] [12,13,14,15,16] hQe fun K E hK hE=>?_)|((with_reducible refine W_cond (fun h=>?_) (fun h=>?_))<;>(try(exfalso;assumption)))|((first|(with_reducible first|refine G_region fun K E hK hE=>?_|refine call_ret can30 (wix) ?_|refine call_ret can31 (wct) ?_|refine P_heads fun Kh hKh=>?_|refine P_fin fun Kh hKh=>?_|refine P_each fun Kb hKb=>?_)|((with_reducible refine W_gd (fun h=>?_) (fun h=>?_))<;>(try(exfalso;omega))))<;>(try simp(disch:=omega) only[go_sem,seval,hszl,hkk,hs0,hs1,c1,c2,c3,e2, *]))))
  clear e2 wix wct
  refine call_ex can32 wt (fun a h=>?_)
  obtain⟨u2,K2,ns2⟩:=a
  have R3:=HR2.out.then (RelR.op HM1.out h)
  have l5:=(h.k.out b5 (by rw[j5];simp) (HM1.out.C.om.types j5 (by decide) (by decide) (by decide))).trans j5
  have l8:=(h.k.out b8 (by rw[j8];simp) (HM1.out.C.om.types j8 (by decide) (by decide) (by decide))).trans j8
  have HR3:=Lib.hid R3
  have HL8:=Lib.hid l8
  dsimp only at l5 l8 HR3 HL8 ⊢
  have hl5:u2 b5≠.free:=by rw[l5];simp
  have hl8:u2 b8≠.free:=by rw[l8];simp
  have hkD:k<D.length:=(List.getElem?_eq_some_iff.1 HKK.out).1
  have hDl:(D.map fun(k:Nat)=>VV.int .i64 (k:Int)).length=D.length:=List.length_map _
  clear h wt R3 j5 j8 hx
  generalize hkn:ixF n ns2 (rnF (renB (varsOf o [d0]) (varsOf o [d1])) f)=kn at *
  have HKN:=Lib.hid hkn
  clear hkn
  simp only[go_sem,seval]
  (repeat'(first|refine Ctl ?_|(with_reducible first|(refine Kof.use hK ?_;clear hK hE K E)|(refine Kof.use hKh ?_;clear hKh Kh)|(refine Kof.use hKb (P_next ?_);clear hKb Kb)|refine G_planT 9 (.two [0,1,3,4,6] 2 [[3,4,6]] (.two [] 5 [[],[6]] (.one [7] 8 [[7],[],[6]] (.one [] 9 [[],[],[],[]] (.fin []))) 8 [[],[3,4,6]] (.one [] 5 [[],[],[6]] (.one [7] 9 [[],[],[],[]] (.fin [])))) 8 [[0,1,3,4,6]] (.one [] 2 [[],[3,4,6]] (.one [] 5 [[],[],[6]] (.one [7] 9 [[],[],[],[]] (.fin []))))) hQe fun K E hK hE=>?_)|((with_reducible refine W_cond (fun h=>?_) (fun h=>?_))<;>(try(exfalso;assumption)))|((first|(with_reducible first|refine G_region fun K E hK hE=>?_|refine call_ret can33 (WCS.out _) ?_|refine P_fin fun Kh hKh=>?_|refine P_each fun Kb hKb=>?_|refine T_heads fun Kh hKh=>?_|refine T_two fun Kh hKh=>?_|refine T_both (fun Kb hKb=>?_) (fun Kb hKb=>?_))|((with_reducible refine W_fresh (fun b hb=>?_));(try(obtain⟨_,_⟩:=nef hb hl5;obtain⟨_,_⟩:=nef hb hl8))))<;>(try simp(disch:=omega) only[go_sem,seval, *]))))
  ·refine call_ex can34 (WCM.out _) (fun a h=>?_)
   obtain⟨u3,g⟩:=a
   obtain⟨hgf,hu3⟩:=h
   dsimp only at hgf hu3 ⊢
   have f3:∀z,u2 z≠.free→u3 z=u2 z:=fun z hz=>by rw[hu3,St.set_other _ _ (nef hgf hz).1]
   have p5:=(f3 b5 hl5).trans l5
   have p8:=(f3 b8 hl8).trans l8
   have pg:u3 g=.row 3 1 (D.map fun(k:Nat)=>.int .i64 (k:Int)):=by rw[hu3,St.set_same]
   have hp5:u3 b5≠.free:=by rw[p5];simp
   have hp8:u3 b8≠.free:=by rw[p8];simp
   have hpg:u3 g≠.free:=by rw[pg];simp
   have n8g:¬ b8=g:=fun e=>by rw[e,pg]at p8;cases p8
   have HF3:=Lib.hid (And.intro f3 hgf)
   clear hu3 l5 l8 hl5 hl8 f3 hgf
   simp only[go_sem,seval]
   (repeat'(first|refine Ctl ?_|(with_reducible first|(refine Kof.use hK ?_;clear hK hE K E)|(refine Kof.use hKh ?_;clear hKh Kh)|(refine Kof.use hKb (P_next ?_);clear hKb Kb))|((first|(with_reducible first|refine G_region fun K E hK hE=>?_|refine W_ifS ?_|refine P_each fun Kb hKb=>?_|refine T_heads fun Kh hKh=>?_|refine T_fin fun Kh hKh=>?_)|((with_reducible refine W_fresh (fun b hb=>?_));(try(obtain⟨_,_⟩:=nef hb hp5;obtain⟨_,_⟩:=nef hb hp8;obtain⟨_,_⟩:=nef hb hpg))))<;>(try simp(disch:=omega) only[go_sem,seval,hkk,hDl, *]))))
   have hbf:u3 b=.free:=hb
   all_goals(refine W_ret res10 hQ ?_)
   all_goals refine⟨_,_,Wk.refl _,Fg.refl _,_,_,_,g,D.length,3,mvL D k d1,rfl,?_,mvL_len hkD,(St.set _ g .free,K2,m1,ns2),?_,rfl,?_⟩
   ·rw[St.set_other _ _ (fun e=>n8g e.symm)];exact St.set_same _ _ _
   ·rw[HKN.out,mvL_eq hkD]
   ·refine HR3.out.fin HL8.out HB8.out fun z hz hne=>?_
    have a1:=(nef HF3.out.2 hz).1
    have a2:=(nef hbf (by rw[HF3.out.1 z hz];exact hz)).1
    rw[St.set_other _ _ a1,St.set_other _ _ hne,St.set_other _ _ a1,St.set_other _ _ a2]
    exact HF3.out.1 z hz
  all_goals refine call_ex can34 (WCM.out _) (fun a h=>?_)
  all_goals obtain⟨u3,g⟩:=a
  all_goals obtain⟨hgf,hu3⟩:=h
  all_goals dsimp only at hgf hu3 ⊢
  all_goals have hbf:u2 b=.free:=hb
  all_goals have hgb:¬ g=b:=fun e=>by rw[e,St.set_same]at hgf;cases hgf
  all_goals have hgf2:u2 g=.free:=by rw[St.set_other _ _ hgb]at hgf;exact hgf
  all_goals have f3:∀z,u2 z≠.free→u3 z=u2 z:=fun z hz=>by rw[hu3,St.set_other _ _ (nef hgf2 hz).1,St.set_other _ _ (nef hbf hz).1]
  all_goals have p5:=(f3 b5 hl5).trans l5
  all_goals have p8:=(f3 b8 hl8).trans l8
  all_goals have pg:u3 g=.row 3 1 (D.map fun(k:Nat)=>.int .i64 (k:Int)):=by rw[hu3,St.set_same]
  all_goals have pb:u3 b=.obj 30 [.lst [] .full,.lst [] .full,.int .i64 0]:=by rw[hu3,St.set_other _ _ (fun e=>hgb e.symm),St.set_same]
  all_goals have n8g:¬ b8=g:=fun e=>by rw[e,pg]at p8;cases p8
  all_goals have hbg:¬ b=g:=fun e=>hgb e.symm
  all_goals have HF3:=Lib.hid (And.intro f3 hgf2)
  all_goals clear hu3 l5 l8 hl5 hl8 f3 hgf hgf2 hb
  all_goals simp only[go_sem,seval,pb]
  all_goals(repeat'(first|refine Ctl ?_|(with_reducible first|(refine Kof.use hK ?_;clear hK hE K E)|(refine Kof.use hKh ?_;clear hKh Kh)|(refine Kof.use hKb (P_next ?_);clear hKb Kb))|(((with_reducible first|refine G_region fun K E hK hE=>?_|refine W_ifS ?_|refine P_each fun Kb hKb=>?_|refine T_heads fun Kh hKh=>?_|refine T_fin fun Kh hKh=>?_))<;>(try simp(disch:=omega) only[go_sem,seval,hkk,hDl, *]))))
  all_goals(refine W_ret res10 hQ ?_)
  all_goals refine⟨_,_,Wk.refl _,Fg.refl _,_,_,_,g,D.length,3,mvL D k d1,rfl,?_,mvL_len hkD,(St.set _ g .free,K2,m1,ns2),?_,rfl,?_⟩
  iterate 2
   ·rw[St.set_other _ _ (fun e=>n8g e.symm)];exact St.set_same _ _ _
   ·rw[HKN.out,mvL_eq hkD]
   ·refine HR3.out.fin HL8.out HB8.out fun z hz hne=>?_
    have a1:=(nef HF3.out.2 hz).1
    have a2:=(nef hbf hz).1
    rw[St.set_other _ _ a1,St.set_other _ _ hne,St.set_other _ _ a1,St.set_other _ _ a2]
    exact HF3.out.1 z hz
end Go.Proofs.YtohnaepcgnbaiaaGreatDoor
namespace Go.Proofs.YtohnaepcgnbaiaaGreatDoor
open Go.RowKit
structure JS where
 T:List Nat
 t:List Nat
 D:List Nat
 A:List (List UInt8)
def jstep (ds:List (List UInt8×Nat))(aA:List (List UInt8))(aD:List Nat)(q:JS)(p:List UInt8×Nat):Option JS:=
 if ixA p.1 aA<0 then
  (if p.2∈aD then(freeG q.T 4 0 ds).map fun k=>⟨q.T++[k],q.t++[k],q.D++[k],q.A++[p.1]⟩
  else some ⟨q.T,q.t++[p.2],q.D++[p.2],q.A++[p.1]⟩)
 else some ⟨q.T,q.t++[aD.getD (ixA p.1 aA).toNat 0],q.D,q.A⟩
def joinF (ds:List (List UInt8×Nat))(aA:List (List UInt8))(aD:List Nat):List (List UInt8×Nat)→JS→Option JS
 |[],q=>some q
 |p::l,q=>(jstep ds aA aD q p).bind (joinF ds aA aD l)
theorem join_at {ds:List (List UInt8×Nat)}{aA bA:List (List UInt8)}{aD bD:List Nat}{i:Nat}{q qF:JS}{x:List UInt8}{d:Nat}(hx:bA[i]?=some x)(hd:bD[i]?=some d)(h:joinF ds aA aD ((bA.zip bD).drop i) q=some qF) :
  ∃q',jstep ds aA aD q (x,d)=some q'∧joinF ds aA aD ((bA.zip bD).drop (i+1)) q'=some qF:=by
 have hz:(bA.zip bD)[i]?=some (x,d):=by rw[List.getElem?_zip_eq_some];exact⟨hx,hd⟩
 have hlt:i<(bA.zip bD).length:=(List.getElem?_eq_some_iff.1 hz).1
 rw[List.drop_eq_getElem_cons hlt]at h
 have e:(bA.zip bD)[i]=(x,d):=by rw[List.getElem?_eq_getElem hlt]at hz;injection hz
 rw[e,joinF]at h
 exact Option.bind_eq_some_iff.1 h
theorem jstep_in {ds:List (List UInt8×Nat)}{aA:List (List UInt8)}{aD:List Nat}{q q':JS}{x:List UInt8}{d k:Nat}(h:jstep ds aA aD q (x,d)=some q')(hk:ixA x aA=(k:Int)):q'=⟨q.T,q.t++[aD.getD k 0],q.D,q.A⟩:=by
 unfold jstep at h
 dsimp only at h
 rw[hk,if_neg (by omega),Int.toNat_natCast]at h
 injection h with h
 exact h.symm
theorem jstep_new {ds:List (List UInt8×Nat)}{aA:List (List UInt8)}{aD:List Nat}{q q':JS}{x:List UInt8}{d:Nat}(h:jstep ds aA aD q (x,d)=some q')(hk:ixA x aA=-1)(hd:d∉aD):q'=⟨q.T,q.t++[d],q.D++[d],q.A++[x]⟩:=by
 unfold jstep at h
 dsimp only at h
 rw[hk,if_pos (by omega),if_neg hd]at h
 injection h with h
 exact h.symm
theorem jstep_free {ds:List (List UInt8×Nat)}{aA:List (List UInt8)}{aD:List Nat}{q q':JS}{x:List UInt8}{d:Nat}(h:jstep ds aA aD q (x,d)=some q')(hk:ixA x aA=-1)(hd:d∈aD):∃k,freeG q.T 4 0 ds=some k∧q'=⟨q.T++[k],q.t++[k],q.D++[k],q.A++[x]⟩:=by
 unfold jstep at h
 dsimp only at h
 rw[hk,if_pos (by omega),if_pos hd]at h
 obtain⟨k,h1,h2⟩:=Option.map_eq_some_iff.1 h
 exact⟨k,h1,h2.symm⟩
theorem ixA_cases {α:Type}[DecidableEq α](n:α)(l:List α):(ixA n l=-1∧n∉l)∨∃k:Nat,ixA n l=(k:Int)∧l[k]?=some n:=by
 induction l with
 |nil=>exact .inl ⟨rfl,by simp⟩
 |cons x l ih=>
  by_cases hx:n=x
  ·subst hx
   exact .inr ⟨0,by simp[ixA],rfl⟩
  ·simp only[ixA,if_neg hx]
   rcases ih with ⟨h,hn⟩|⟨k,h,hk⟩
   ·exact .inl ⟨by rw[h];rfl,by simp[hx,hn]⟩
   ·refine .inr ⟨k+1,?_,by simpa using hk⟩
    rw[h,if_neg (by omega)];omega
attribute [-go_sem] p_and p_or p_shl p_shr p_andNot p_quo p_rem
theorem Doms_S (s:St)(c:Nat)(Q A:VV)(ds:List (List UInt8×Nat))(hl:ds.length≤1000000)(h:s c=.obj 132 [Q,.lst (domsC ds) .no,A]):SRet Tryz.prog 28 [.ptr c 0] s (.lst (domsC ds) .no) s:=by
 have w:=CloneA_S s (domsC ds) .no (fun x hx=>by obtain⟨y,_,rfl⟩:=List.mem_map.1 hx;rfl) (by rw[domsC_len];exact hl)
 generalize domsC ds=D at *
 refine G_enter Tryz.func28 rfl Tryz.ntmps28 rfl fun Q hQ hQe=>?_
 (repeat'(first|refine Ctl ?_|((with_reducible refine Kof.use hK ?_);clear hK hE K E)|((with_reducible refine W_cond (fun h=>?_) (fun h=>?_))<;>(try(exfalso;assumption)))|(((with_reducible first|refine G_region fun K E hK hE=>?_|refine call_ret can62 (w) ?_))<;>(try simp(disch:=omega) only[go_sem,seval, *]))))
 all_goals(refine W_ret res28 hQ ?_)
 all_goals exact⟨_,_,Wk.refl _,Fg.refl _,rfl,rfl⟩
def szV (ds:List (List UInt8×Nat))(i:Nat):List VV:=(ds.take i).map fun d=>.int .i64 (d.2:Int)
theorem szV_add {ds:List (List UInt8×Nat)}{i:Nat}{d:List UInt8×Nat}(h:ds[i]?=some d):szV ds (i+1)=szV ds i++[.int .i64 (d.2:Int)]:=by
 unfold szV
 rw[List.take_add_one,h];simp
theorem szV_len {ds:List (List UInt8×Nat)}{i:Nat}(h:i≤ds.length):(szV ds i).length=i:=by simp[szV,Nat.min_eq_left h]
structure NewI (s s':St) (x c q i:Nat) (ds:List (List UInt8×Nat)):Prop where
 fr:∀z,s z≠.free→s' z=s z
 ob:(i=0∧s' x=.obj 73 [.ptr c 0,.ptr q 0,.raw (.slice none 0 0),.raw (.map none),.int .i64 0])∨∃g,s' x=.obj 73 [.ptr c 0,.ptr q 0,.mrw g i,.raw (.map none),.int .i64 0]∧s' g=.row 3 1 (szV ds i)∧s g=.free
theorem NewI.mk1 {s S1:St}{x c q i bM:Nat}{ds:List (List UInt8×Nat)}{vals:List VV}(h1:∀z,s z≠.free→S1 z=s z)(hM:S1 bM=.free)(hx:s x=.free)(hxM:¬ x=bM)(hv:szV ds i=vals) :
  NewI s ((S1.set bM (.row 3 1 vals)).set x (.obj 73 [.ptr c 0,.ptr q 0,.mrw bM i,.raw (.map none),.int .i64 0])) x c q i ds:=by
 have hMs:s bM=.free:=by
  by_cases e:s bM=.free
  ·exact e
  ·exact absurd ((h1 bM e).symm.trans hM) e
 refine⟨fun z hz=>?_,.inr ⟨bM,St.set_same _ _ _,?_,hMs⟩⟩
 ·rw[St.set_other _ _ (fun e=>hz (by rw[e];exact hx)),St.set_other _ _ (fun e=>hz (by rw[e];exact hMs)),h1 z hz]
 ·rw[St.set_other _ _ (fun e=>hxM e.symm),St.set_same,hv]
set_option maxHeartbeats 8000000 in
theorem Rnew_S {s:St}{KK:OB}{q c n B:Nat}{ns:List Tr}{ds:List (List UInt8×Nat)}{o:List (List Nat)}(hC:CMem s KK q c n B ns ds o)(hl:ds.length≤1000)(hne:0<ds.length) :
  SCalls Tryz.prog 26 [.ptr c 0] s fun w u=>∃a:St×Nat,w=.ret (.tup [.ptr a.2 0,.int .i64 0])∧u=a.1∧RMem a.1 KK a.2 a.2 q c n B ns ds o∧s a.2=.free∧∀z,s z≠.free→a.1 z=s z:=by
 have wq:=Cquan_S s c q _ _ hC.co
 have wd:=fun(u:St) (h:∀z,s z≠.free→u z=s z)=>Doms_S u c _ _ ds (by omega) ((h c (by rw[hC.co];simp)).trans hC.co)
 have hdl:=domsC_len (ds:=ds)
 have hat:=fun(i:Nat) (d:List UInt8×Nat) (h:ds[i]?=some d)=>domsC_at h
 have WD:=Lib.hid wd
 have HAT:=Lib.hid hat
 have HC:=Lib.hid hC
 clear wd hat hC
 generalize domsC ds=D at *
 refine G_enter Tryz.func26 rfl Tryz.ntmps26 rfl fun Q hQ hQe=>?_
 (repeat'(first|refine Ctl ?_|((with_reducible refine Kof.use hK ?_);clear hK hE K E)|((with_reducible refine W_cond (fun h=>?_) (fun h=>?_))<;>(try(exfalso;assumption)))|((first|(with_reducible first|refine G_region fun K E hK hE=>?_|refine call_ret can63 (wq) ?_|refine W_and ?_)|((with_reducible refine W_fresh (fun b hb=>?_))))<;>(try simp(disch:=omega) only[go_sem,seval, *]))))
 obtain⟨x,hxe⟩:∃z,z=b:=⟨_,rfl⟩
 subst hxe
 obtain⟨u0,hu0⟩:∃u,u=s.set x (.obj 73 [.ptr c 0,.ptr q 0,.lst [] .full,.raw (.map none),.int .i64 0]):=⟨_,rfl⟩
 rw[← hu0]
 have g0:∀z,s z≠.free→u0 z=s z:=fun z hz=>by rw[hu0,St.set_other _ _ (nef hb hz).1]
 have k0:u0 x=.obj 73 [.ptr c 0,.ptr q 0,.lst [] .full,.raw (.map none),.int .i64 0]:=by rw[hu0,St.set_same]
 have wd:=WD.out u0 g0
 have HX:Hid (s x=.free):=Lib.hid hb
 clear hu0 hb WD wq
 (repeat'(first|refine Ctl ?_|((with_reducible refine Kof.use hK ?_);clear hK hE K E)|(((with_reducible refine call_ret can28 (wd) ?_))<;>(try simp(disch:=omega) only[go_sem,seval,hdl, *]))))
 refine Kp_gs (GS.rawnil (i:=2) k0 rfl) ?_
 simp only[List.set_cons_succ,List.set_cons_zero]
 have hI:NewI s (u0.set x (.obj 73 [.ptr c 0,.ptr q 0,.raw (.slice none 0 0),.raw (.map none),.int .i64 0])) x c q 0 ds:=⟨fun z hz=>(St.set_other _ _ (nef HX.out hz).1).trans (g0 z hz),.inl ⟨rfl,St.set_same _ _ _⟩⟩
 have HI:=Lib.hid hI
 clear g0 k0 wd hI
 refine L_loop (fun fu env s'=>∃(i:Nat),i≤ds.length∧fu+i=ds.length∧Hid (NewI s s' x c q i ds)∧env 4=.ptr x 0∧env 16=.lst D .no∧env 17=.int .i64 ds.length∧env 18=.int .i64 i) ds.length
  ⟨0,by omega,by omega,HI,z_sl,z_sl,z_sl,z_sl⟩ ?_
 clear HI
 rintro fu env s' ⟨i,hi,hmi,HI,e4,e16,e17,e18⟩
 by_cases h2:i<ds.length
 ·obtain⟨d,hd⟩:∃d,ds[i]?=some d:=⟨_,List.getElem?_eq_getElem h2⟩
  have hx:=HAT.out _ _ hd
  have hadd:=szV_add hd
  rcases HI.out.ob with ⟨rfl,k⟩|⟨g,k,kg,hg⟩
  ·have hxl:s' x≠.free:=by rw[k];simp
   have HADD:=Lib.hid hadd
   clear hadd
   (repeat'(first|refine Ctl ?_|(with_reducible first|(refine Kof.use hK ?_;clear hK hE K E)|(refine Kof.use hKh ?_;clear hKh Kh)|(refine Kof.use hKb (P_next ?_);clear hKb Kb)|refine G_plan 7 [([0,1,2,3,4,5,6,7],8,[[0]]),([9,10],11,[[],[]])] [] hQe fun K E hK hE=>?_)|((with_reducible refine W_cond (fun h=>?_) (fun h=>?_))<;>(try(exfalso;omega)))|((first|(with_reducible first|refine G_region fun K E hK hE=>?_|refine P_heads fun Kh hKh=>?_|refine P_fin fun Kh hKh=>?_|refine P_each fun Kb hKb=>?_)|((with_reducible refine W_fresh (fun b hb=>?_));(try(obtain⟨_,_⟩:=nef hb hxl)))|((with_reducible refine W_app0 (fun bM hM=>?_));(try(obtain⟨_,_⟩:=nef hM (a:=x) (by rw[St.set_other _ _ (by assumption)];exact hxl)))))<;>(try simp(disch:=omega) only[go_sem,seval,hx,List.flatten_cons,List.flatten_nil,List.append_nil, *]))))
   have hb':s' b=.free:=by assumption
   have H1:=NewI.mk1 (ds:=ds) (i:=1) (c:=c) (q:=q) (S1:=s'.set b (.obj 52 [.str d.1,.int .i64 (d.2:Int)])) (fun z hz=>(St.set_other _ _ (nef hb' (by rw[HI.out.fr z hz];exact hz)).1).trans (HI.out.fr z hz)) hM HX.out (by assumption) (vals:=[.int .i64 (d.2:Int)]) HADD.out
   have HN:=Lib.hid H1
   clear H1
   all_goals exact⟨fu - 1,by omega,1,by omega,by omega,HN,z_sl,z_sl,z_sl,z_sl⟩
  ·have hxl:s' x≠.free:=by rw[k];simp
   have hgl:s' g≠.free:=by rw[kg];simp
   have hxg:¬ x=g:=fun e=>by rw[e,kg]at k;cases k
   have hgx:¬ g=x:=fun e=>hxg e.symm
   have hsl:(szV ds i).length=i:=szV_len hi
   have HADD:=Lib.hid hadd
   clear hadd
   generalize szV ds i=SZ at *
   (repeat'(first|refine Ctl ?_|(with_reducible first|(refine Kof.use hK ?_;clear hK hE K E)|(refine Kof.use hKh ?_;clear hKh Kh)|(refine Kof.use hKb (P_next ?_);clear hKb Kb)|refine G_plan 7 [([0,1,2,3,4,5,6,7],8,[[0]]),([9,10],11,[[],[]])] [] hQe fun K E hK hE=>?_)|((with_reducible refine W_cond (fun h=>?_) (fun h=>?_))<;>(try(exfalso;assumption)))|((first|(with_reducible first|refine G_region fun K E hK hE=>?_|refine P_heads fun Kh hKh=>?_|refine P_fin fun Kh hKh=>?_|refine P_each fun Kb hKb=>?_)|((with_reducible refine W_fresh (fun b hb=>?_));(try(obtain⟨_,_⟩:=nef hb hxl;obtain⟨_,_⟩:=nef hb hgl)))|((with_reducible refine W_appM (fun bM hM=>?_));(try(obtain⟨_,_⟩:=nef hM (a:=x) (by rw[St.set_other _ _ (by assumption),St.set_other _ _ (by assumption)];exact hxl)))))<;>(try simp(disch:=omega) only[go_sem,seval,hx,hsl,List.flatten_cons,List.flatten_nil,List.append_nil, *]))))
   have hb':s' b=.free:=by assumption
   have H1:=NewI.mk1 (ds:=ds) (i:=i+1) (c:=c) (q:=q) (S1:=(s'.set b (.obj 52 [.str d.1,.int .i64 (d.2:Int)])).set g .free) (fun z hz=>(St.set_other _ _ (fun e=>hz (by rw[e];exact hg))).trans ((St.set_other _ _ (nef hb' (by rw[HI.out.fr z hz];exact hz)).1).trans (HI.out.fr z hz))) hM HX.out (by assumption) (vals:=SZ++[.int .i64 (d.2:Int)]) HADD.out
   have HN:=Lib.hid H1
   clear H1
   all_goals exact⟨fu - 1,by omega,i+1,by omega,by omega,HN,z_sl,z_sl,z_sl,z_sl⟩
 ·have hin:i=ds.length:=by omega
  rcases HI.out.ob with ⟨h0,_⟩|⟨g,k,kg,hg⟩
  ·exfalso;omega
  ·have hsl:(szV ds i).length=i:=szV_len hi
   refine Kp_gsg (GSg.frz (i:=2) k rfl kg hsl) ?_
   simp only[List.set_cons_succ,List.set_cons_zero]
   have hmap:(szV ds i).map (fun y=>[y])=szC ds:=by rw[hin,szV,List.take_length,szC,List.map_map];rfl
   rw[hmap]
   have hfr:∀z,s z≠.free→((s'.set g .free).set x (.obj 73 [.ptr c 0,.ptr q 0,.lst (szC ds) .no,.raw (.map none),.int .i64 0])) z=s z:=fun z hz=>by
    rw[St.set_other _ _ (fun e=>hz (by rw[e];exact HX.out)),St.set_other _ _ (fun e=>hz (by rw[e];exact hg)),HI.out.fr z hz]
   have hfx:((s'.set g .free).set x (.obj 73 [.ptr c 0,.ptr q 0,.lst (szC ds) .no,.raw (.map none),.int .i64 0])) x=.obj 73 [.ptr c 0,.ptr q 0,.lst (szC ds) .no,.raw (.map none),.int .i64 0]:=St.set_same _ _ _
   obtain⟨uF,hF⟩:∃u,u=((s'.set g .free).set x (.obj 73 [.ptr c 0,.ptr q 0,.lst (szC ds) .no,.raw (.map none),.int .i64 0])):=⟨_,rfl⟩
   rw[← hF]at hfr hfx ⊢
   have hC:=HC.out
   have HFIN:=Lib.hid (show RMem uF KK x x q c n B ns ds o from ⟨⟨hC.om.keep fun z hz=>hfr z (hC.om.live hz),(hfr q (by rw[hC.qo];simp)).trans hC.qo,(hfr c (by rw[hC.co];simp)).trans hC.co⟩,.inl ⟨rfl,hfx⟩⟩)
   have HFR:=Lib.hid hfr
   clear hF hfr hfx hC hmap k kg
   (repeat'(first|refine Ctl ?_|((with_reducible refine Kof.use hK ?_);clear hK hE K E)|((with_reducible refine W_cond (fun h=>?_) (fun h=>?_))<;>(try(exfalso;omega)))|(((with_reducible refine G_region fun K E hK hE=>?_))<;>(try simp(disch:=omega) only[go_sem,seval, *]))))
   all_goals(refine W_ret res26 hQ ?_)
   all_goals exact⟨_,_,Wk.refl _,Fg.refl _,(uF,x),rfl,rfl,HFIN.out,HX.out,HFR.out⟩
end Go.Proofs.YtohnaepcgnbaiaaGreatDoor
namespace Go.Proofs.YtohnaepcgnbaiaaGreatDoor
open Go.RowKit
attribute [-go_sem] p_and p_or p_shl p_shr p_andNot p_quo p_rem
theorem Code_S (s:St)(x c q:Nat)(a:VV)(ds:List (List UInt8×Nat))(h:s x=.obj 73 (spC c q ds a)):SRet Tryz.prog 27 [.ptr x 0] s (.ptr c 0) s:=by
 unfold spC at h
 generalize szC ds=SZ at *
 refine G_enter Tryz.func27 rfl Tryz.ntmps27 rfl fun Q hQ hQe=>?_
 (repeat'(first|refine Ctl ?_|((with_reducible refine Kof.use hK ?_);clear hK hE K E)|((with_reducible refine W_cond (fun h=>?_) (fun h=>?_))<;>(try(exfalso;assumption)))|(((with_reducible refine G_region fun K E hK hE=>?_))<;>(try simp(disch:=omega) only[go_sem,seval, *]))))
 all_goals(refine W_ret res27 hQ ?_)
 all_goals exact⟨_,_,Wk.refl _,Fg.refl _,rfl,rfl⟩
abbrev BegR:=St×OB×Nat×Nat×Nat
structure Begun (s:St) (i:Nat) (a:BegR):Prop where
 M:RMem a.1 a.2.1 a.2.2.2.2 a.2.2.2.2 a.2.2.1 a.2.2.2.1 14 65536 [.lf false,.lf true] dsR (oR i)
 fr:∀z,s z≠.free→a.1 z=s z∧¬ RHas a.2.1 a.2.2.2.2 a.2.2.2.2 z
set_option maxHeartbeats 16000000 in
theorem RBegun_S (s:St)(od:Int):∃i,i<3∧SCalls Tryz.prog 8 [.int .i64 od] s fun w u=>∃a:BegR,w=.ret (.tup [.ptr a.2.2.2.2 0,.bool true])∧u=a.1∧Begun s i a:=by
 refine⟨addP 8 od % 3,Nat.mod_lt _ (by omega),?_⟩
 have f1:vint .and .i64 od 255=some (.int .i64 ((addP 8 od:Nat):Int)):=by
  have h:=and_low (w:=8) (by omega) od
  have e:IntKind.i64.wrap (((2 ^ 8:Nat):Int) - 1)=255:=by decide
  rwa [e]at h
 have f2:vint .rem .i64 ((addP 8 od:Nat):Int) 3=some (.int .i64 ((addP 8 od % 3:Nat):Int)):=by
  have e:=rem_nat (k:=addP 8 od) (m:=3)
  simp only[vint]
  rw[if_pos (by decide)]
  exact congrArg (fun z=>some (VV.int .i64 z)) e
 have hi3:addP 8 od % 3<3:=Nat.mod_lt _ (by omega)
 generalize addP 8 od % 3=i at *
 generalize addP 8 od=p at *
 have hlit:([[.str (ordR 0)],[.str (ordR 1)],[.str (ordR 2)]]:List (List VV))[i]?=some [.str (ordR i)]:=by
  match i,hi3 with
  |0,_=>rfl
  |1,_=>rfl
  |2,_=>rfl
 have w1:=Nnew_S s 14 65536 (by omega) (by omega) (by omega)
 have hnew:=fun(u:St) (KK:OB) (q:Nat) (hO:OMem u KK 14 65536 [.lf false,.lf true]) (hq:u q=.obj 126 [.ptr KK.o 0,.ptr KK.s.p 0])=>CnewA_S hO hq dmR .full (ordR i) (by decide) (by decide) (by
  have:∀i,i<3→(ordR i).length≤10000:=by decide
  exact this i hi3)
 rw[newR hi3]at hnew
 have hdm:domsI dmR=[[.str [80,48],.int .i64 4],[.str [80,49],.int .i64 4],[.str [80,50],.int .i64 4],[.str [80,51],.int .i64 4],[.str [81,48],.int .i64 3],[.str [81,49],.int .i64 3],[.str [81,50],.int .i64 3]]:=rfl
 rw[hdm]at hnew
 obtain⟨OR,hOR⟩:∃z,z=ordR i:=⟨_,rfl⟩
 rw[← hOR]at hlit
 simp only[← hOR]at hnew
 simp only[ordR]at hlit
 have HNEW:=Lib.hid hnew
 clear hnew hdm hOR
 refine G_enter Tryz.func8 rfl Tryz.ntmps8 rfl fun Q hQ hQe=>?_
 (repeat'(first|refine Ctl ?_|((with_reducible refine Kof.use hK ?_);clear hK hE K E)|(((with_reducible refine G_region fun K E hK hE=>?_))<;>(try simp(disch:=omega) only[go_sem,seval, *]))))
 refine call_ex can22 w1 (fun a h=>?_)
 obtain⟨u1,KS⟩:=a
 obtain⟨hS1,hf1⟩:=h
 dsimp only at hS1 hf1 ⊢
 have w2:=Onew_S hS1
 have HF1:=Lib.hid hf1
 clear w1 hS1 hf1
 simp only[go_sem,seval]
 (repeat'(first|refine Ctl ?_|((with_reducible refine Kof.use hK ?_);clear hK hE K E)|(((with_reducible refine G_region fun K E hK hE=>?_))<;>(try simp(disch:=omega) only[go_sem,seval, *]))))
 refine call_ex can23 w2 (fun a h=>?_)
 obtain⟨u2,o2⟩:=a
 obtain⟨hO2,hof,hf2⟩:=h
 dsimp only at hO2 hof hf2 ⊢
 obtain⟨d,cc,hoo⟩:=hO2.op
 dsimp only at hoo
 have w3:=Qnew_S u2 o2 KS.p d cc hoo
 have HF2:=Lib.hid hf2
 have HOF:=Lib.hid hof
 have HO2:=Lib.hid hO2
 clear w2 hof hf2 hO2 hoo
 simp only[go_sem,seval]
 (repeat'(first|refine Ctl ?_|((with_reducible refine Kof.use hK ?_);clear hK hE K E)|(((with_reducible refine G_region fun K E hK hE=>?_))<;>(try simp(disch:=omega) only[go_sem,seval, *]))))
 have w3':SCalls Tryz.prog 24 [.ptr o2 0] u2 fun w u=>∃a:BoxA,w=.ret (.tup [.ptr a.2 0,.int .i64 0])∧u=a.1∧u2 a.2=.free∧a.1=u2.set a.2 (.obj 126 [.ptr o2 0,.ptr KS.p 0]):=by
  refine SCalls.mono (h:=w3) ?_
  rintro w u ⟨q,rfl,rfl,hq⟩
  exact⟨(_,q),rfl,rfl,hq,rfl⟩
 refine call_ex can24 w3' (fun a h=>?_)
 obtain⟨u3,q⟩:=a
 obtain⟨hqf,hu3⟩:=h
 dsimp only at hqf hu3 ⊢
 have hf3:∀z,u2 z≠.free→u3 z=u2 z:=fun z hz=>by rw[hu3,St.set_other _ _ (nef hqf hz).1]
 have hO3:OMem u3 ⟨KS,o2,o2⟩ 14 65536 [.lf false,.lf true]:=HO2.out.keep fun z hz=>hf3 z (HO2.out.live hz)
 have hq3:u3 q=.obj 126 [.ptr o2 0,.ptr KS.p 0]:=by rw[hu3,St.set_same]
 have w4:=HNEW.out u3 ⟨KS,o2,o2⟩ q hO3 hq3
 have HF3:=Lib.hid hf3
 have HO3:=Lib.hid hO3
 have HQ3:=Lib.hid hq3
 clear w3 w3' hqf hu3 hf3 hO3 hq3
 simp only[go_sem,seval]
 (repeat'(first|refine Ctl ?_|((with_reducible refine Kof.use hK ?_);clear hK hE K E)|(((with_reducible refine G_region fun K E hK hE=>?_))<;>(try simp(disch:=omega) only[go_sem,seval,f1,f2,hlit, *]))))
 refine call_ex can25 w4 (fun a h=>?_)
 obtain⟨u4,c⟩:=a
 obtain⟨hcf,hu4⟩:=h
 dsimp only at hcf hu4 ⊢
 simp only[newV]
 have hf4:∀z,u3 z≠.free→u4 z=u3 z:=fun z hz=>by rw[hu4,St.set_other _ _ (nef hcf hz).1]
 have hC4:CMem u4 ⟨KS,o2,o2⟩ q c 14 65536 [.lf false,.lf true] dsR (oR i):=⟨HO3.out.keep fun z hz=>hf4 z (HO3.out.live hz),(hf4 q (by rw[HQ3.out];simp)).trans HQ3.out,by rw[hu4,St.set_same,domsR]⟩
 have w5:=Rnew_S hC4 (by decide) (by decide)
 have HF4:=Lib.hid hf4
 clear w4 hcf hu4 hf4 hC4
 simp only[go_sem,seval]
 (repeat'(first|refine Ctl ?_|((with_reducible refine Kof.use hK ?_);clear hK hE K E)|(((with_reducible refine G_region fun K E hK hE=>?_))<;>(try simp(disch:=omega) only[go_sem,seval, *]))))
 refine call_ex can26 w5 (fun a h=>?_)
 obtain⟨u5,x⟩:=a
 obtain⟨hM,hxf,hf5⟩:=h
 dsimp only at hM hxf hf5 ⊢
 obtain⟨a5,hx⟩:=hM.xf
 have wc:=Code_S u5 x c q a5 dsR hx
 have wd:=Doms_S u5 c _ _ dsR (by decide) hM.C.co
 have hdl:=domsC_len (ds:=dsR)
 have hfin:Begun s i (u5,⟨KS,o2,o2⟩,q,c,x):=by
  refine⟨hM,fun z hz=>?_⟩
  obtain⟨e1,e1'⟩:=HF1.out z hz
  have e2:=HF2.out z (by rw[e1];exact hz)
  have e3:=HF3.out z (by rw[e2,e1];exact hz)
  have e4:=HF4.out z (by rw[e3,e2,e1];exact hz)
  have e5:=hf5 z (by rw[e4,e3,e2,e1];exact hz)
  refine⟨by dsimp only;rw[e5,e4,e3,e2,e1],?_⟩
  rintro((hh|hh|hh)|hh|hh)
  ·exact e1' hh
  ·dsimp only at hh;subst hh;exact hz (by rw[← e1];exact HOF.out)
  ·dsimp only at hh;subst hh;exact hz (by rw[← e1];exact HOF.out)
  ·dsimp only at hh;subst hh;exact hz (by rw[← e1,← e2,← e3,← e4];exact hxf)
  ·dsimp only at hh;subst hh;exact hz (by rw[← e1,← e2,← e3,← e4];exact hxf)
 have HFIN:=Lib.hid hfin
 clear w5 hM hxf hf5 hx hfin HF1 HF2 HF3 HF4 HOF HO2 HO3 HQ3 HNEW
 have h7:dsR.length=7:=rfl
 rw[h7]at hdl
 generalize domsC dsR=D at *
 simp only[go_sem,seval]
 (repeat'(first|refine Ctl ?_|((with_reducible refine Kof.use hK ?_);clear hK hE K E)|(((with_reducible first|refine G_region fun K E hK hE=>?_|refine call_ret can27 (wc) ?_|refine call_ret can28 (wd) ?_))<;>(try simp(disch:=omega) only[go_sem,seval,hdl, *]))))
 all_goals(refine W_ret res8 hQ ?_)
 all_goals exact⟨_,_,Wk.refl _,Fg.refl _,(u5,⟨KS,o2,o2⟩,q,c,x),rfl,rfl,HFIN.out⟩
end Go.Proofs.YtohnaepcgnbaiaaGreatDoor
namespace Go.Proofs.YtohnaepcgnbaiaaGreatDoor
open Go.RowKit
attribute [-go_sem] p_and p_or p_shl p_shr p_andNot p_quo p_rem
set_option maxHeartbeats 8000000 in
theorem RName_S {s:St}{KK:OB}{x m q c n B N:Nat}{ns:List Tr}{ds:List (List UInt8×Nat)}{o:List (List Nat)}(hn64:n≤64)(hM:RMem s KK x m q c n B ns ds o)(hD:DOk n ds o){f:(Nat→Bool)→Bool}(A:List (List UInt8))(o1:Own)(D:List Nat)(o2:Own)(hR:Rel4 ds o A D)(hf:DepF (varsOf o D) f)(mf:treeT n f∈ns)
  (A2:List (List UInt8)) (o3:Own) (h2:NamesOk A2) (hl2:A2.length=A.length) (hc:CntN ns N) :
  SCalls Tryz.prog 16 [.ptr x 0,.agg [.lst (strs A) o1,.lst (natsL D) o2,.int .i64 (ixF n ns f:Nat)],.lst (strs A2) o3] s fun w u=>∃a:RelA,w=.ret (.tup [.agg [.lst (strs A2) .no,.lst (natsL D) .no,.int .i64 (ixF n a.2.2.2 f:Nat)],.int .i64 0])∧u=a.1∧RelR s KK x m q c n B ns ds o N f a:=by
 have hl8:=hR.l8
 have wm:=fun(u:St) (hu:∀z,s z≠.free→u z=s z)=>May_S hn64 (hM.more hu) hD [[.lst (strs A) o1,.lst (natsL D) o2,.int .i64 ((ixF n ns f:Nat):Int)]] .full (fun z hz=>by
  rw[List.mem_singleton]at hz
  exact⟨⟨A,D,treeT n f⟩,o1,o2,hz,hR.ok hD hf mf⟩) (by simp)
 have wn:=fun u=>Names_S u A2 o3 h2
 have wcs:=fun u=>CloneS_S u A2 o3 (by have:=h2.2.2;omega)
 have wcn:=fun u=>CloneN_S u D o2 (by omega)
 have hs1:=strs_ln A
 have hs2:(strs A2).length=A.length:=by rw[strs_ln,hl2]
 have WM:=Lib.hid wm
 have WN:=Lib.hid wn
 have WCS:=Lib.hid wcs
 have WCN:=Lib.hid wcn
 have HM:=Lib.hid hM
 have HMF:=Lib.hid mf
 have HC:=Lib.hid hc
 clear wm wn wcs wcn hR hf mf hc hl8 hM h2
 generalize hkf:ixF n ns f=kf at *
 have HKF:=Lib.hid hkf
 clear hkf
 generalize strs A=SA at *
 generalize strs A2=SB at *
 generalize natsL D=V at *
 refine G_enter Tryz.func16 rfl Tryz.ntmps16 rfl fun Q hQ hQe=>?_
 (repeat'(first|refine Ctl ?_|((with_reducible refine Kof.use hK ?_);clear hK hE K E)|((first|(with_reducible refine G_region fun K E hK hE=>?_)|((with_reducible refine W_fresh (fun b hb=>?_));(repeat(obtain⟨_,hb⟩:=hb))))<;>(try simp(disch:=omega) only[go_sem,seval, *]))))
 rename_i b4 hb4 nba nab
 obtain⟨b6,hb6e⟩:∃z,z=b:=⟨_,rfl⟩
 subst hb6e
 have hb6:s b6=.free:=hb
 obtain⟨u0,hu0⟩:∃u,u=(s.set b4 (.obj 30 [.lst SA o1,.lst V o2,.int .i64 (kf:Int)])).set b6 (.obj 30 [.lst [] .full,.lst [] .full,.int .i64 0]):=⟨_,rfl⟩
 rw[← hu0]
 have g0:∀z,s z≠.free→u0 z=s z:=fun z hz=>by rw[hu0,St.set_other _ _ (nef hb6 hz).1,St.set_other _ _ (nef hb4 hz).1]
 have k4:u0 b4=.obj 30 [.lst SA o1,.lst V o2,.int .i64 (kf:Int)]:=by rw[hu0,St.set_other _ _ (by assumption),St.set_same]
 have k6:u0 b6=.obj 30 [.lst [] .full,.lst [] .full,.int .i64 0]:=by rw[hu0,St.set_same]
 have wm:=WM.out u0 g0
 have G0:=Lib.hid g0
 have HB6:=Lib.hid hb6
 clear hu0 hb g0 WM hb4 hb6
 refine call_ex can29 wm (fun a h=>?_)
 obtain⟨u1,m1⟩:=a
 obtain⟨M1,K1⟩:=h
 dsimp only at M1 K1 ⊢
 have R1:=RelR.win M1 K1 HMF.out HC.out
 have j4:=R1.own (HM.out.more G0.out) k4 (by decide) (by decide) (by decide) (by decide)
 have j6:=R1.own (HM.out.more G0.out) k6 (by decide) (by decide) (by decide) (by decide)
 have R2:RelR s KK x m q c n B ns ds o N f (u1,KK,m1,ns):=(RelR.win (HM.out.more G0.out) (.new G0.out) HMF.out HC.out).then R1
 have HF:=Lib.hid fun y=>R2.set (y:=y) j6 HB6.out
 dsimp only at j4 j6
 have wn:=WN.out u1
 have wcs:=WCS.out u1
 have wcn:=WCN.out u1
 clear wm M1 K1 R1 R2 k4 k6 WN WCS WCN
 simp only[go_sem,seval]
 (repeat'(first|refine Ctl ?_|(with_reducible first|(refine Kof.use hK ?_;clear hK hE K E)|(refine Kof.use hKh ?_;clear hKh Kh)|(refine Kof.use hKb (P_next ?_);clear hKb Kb)|refine G_plan 5 [([0,2,3,5,6],1,[[2,3,5,6]]),([],4,[[],[5,6]]),([7],8,[[],[],[]])] [9] hQe fun K E hK hE=>?_)|((with_reducible refine W_cond (fun h=>?_) (fun h=>?_))<;>(try(exfalso;assumption)))|(((with_reducible first|refine G_region fun K E hK hE=>?_|refine call_ret can46 (wn) ?_|refine call_ret can33 (wcs) ?_|refine call_ret can34 (wcn) ?_|refine P_heads fun Kh hKh=>?_|refine P_fin fun Kh hKh=>?_|refine P_each fun Kb hKb=>?_))<;>(try simp(disch:=omega) only[go_sem,seval,hs1,hs2, *]))))
 all_goals(refine W_ret res16 hQ ?_)
 all_goals exact⟨_,_,Wk.refl _,Fg.refl _,(_,KK,m1,ns),congrArg (fun z:Nat=>SEnd.ret (.tup [.agg [.lst SB .no,.lst V .no,.int .i64 (z:Int)],.int .i64 0])) HKF.out.symm,rfl,HF.out _⟩
end Go.Proofs.YtohnaepcgnbaiaaGreatDoor
namespace Go.Proofs.YtohnaepcgnbaiaaGreatDoor
open Go.RowKit
attribute [-go_sem] p_and p_or p_shl p_shr p_andNot p_quo p_rem
structure Nod (ns:List Tr) (f:(Nat→Bool)→Bool) (k:Nat):Prop where
 mem:treeT 14 f∈ns
 ix:ixF 14 ns f=k
theorem Nod.app {ns ns':List Tr}{f:(Nat→Bool)→Bool}{k:Nat}(h:Nod ns f k)(hp:∃l,ns'=ns++l):Nod ns' f k:=
 ⟨(sub_of hp h.mem).1,(sub_of hp h.mem).2.trans h.ix⟩
structure RLaw (s u:St) (K:OB) (x m q c:Nat) (ns:List Tr) (i N:Nat):Prop where
 M:RMem u K x m q c 14 65536 ns dsR (oR i)
 n:CntN ns N
 fr:∀z,s z≠.free→u z=s z∧¬ RHas K x m z
 i3:i<3
theorem RLaw.of {s:St}{i:Nat}{a:BegR}(h:Begun s i a)(hi:i<3):RLaw s a.1 a.2.1 a.2.2.2.2 a.2.2.2.2 a.2.2.1 a.2.2.2.1 [.lf false,.lf true] i 2:=
 ⟨h.M,⟨_,Nat.le_refl _,fun t h=>h⟩,h.fr,hi⟩
abbrev ResG:=(St×OB×Nat×List Tr×Nat)×((Nat→Bool)→Bool)
structure ResT (s u:St) (ns:List Tr) (x q c i N:Nat) (D:List Nat) (S:List Nat→Prop) (a:ResG):Prop where
 L:RLaw s a.1.1 a.1.2.1 x a.1.2.2.1 q c a.1.2.2.2.1 i N
 pre:∃l,a.1.2.2.2.1=ns++l
 nd:Nod a.1.2.2.2.1 a.2 a.1.2.2.2.2
 T:Tells (oR i) D S a.2
 own:∀(b:Nat) (xs:List VV),u b=.obj 30 xs→a.1.1 b=.obj 30 xs
section
variable {s u : St} {K : OB} {x m q c : Nat} {ns : List Tr} {i N : Nat}
theorem RLaw.step (h:RLaw s u K x m q c ns i N){N':Nat}{g:(Nat→Bool)→Bool}{a:RelA}(k:RelR u K x m q c 14 65536 ns dsR (oR i) N' g a):RLaw s a.1 a.2.1 x a.2.2.1 q c a.2.2.2 i N':=
 ⟨k.M,k.cnt,fun z hz=>by
  obtain⟨e1,e2⟩:=h.fr z hz
  refine⟨by rw[← e1];exact k.k.out z (by rw[e1];exact hz) e2,fun e3=>?_⟩
  rcases k.k.nw z e3 with e|e
  ·exact e2 e
  ·rw[e1]at e;exact hz e,h.i3⟩
theorem RLaw.res (h:RLaw s u K x m q c ns i N){N':Nat}{g:(Nat→Bool)→Bool}{a:RelA}(k:RelR u K x m q c 14 65536 ns dsR (oR i) N' g a){N2:Nat}(hN:N'≤N2){D:List Nat}{S:List Nat→Prop}(hT:Tells (oR i) D S g):ResT s u ns x q c i N2 D S ((a.1,a.2.1,a.2.2.1,a.2.2.2,ixF 14 a.2.2.2 g),g):=
 ⟨h.step (k.mono hN),k.pre,⟨k.mem,rfl⟩,hT,fun b xs hb=>k.own h.M hb (by decide) (by decide) (by decide) (by decide)⟩
theorem RLaw.more (h:RLaw s u K x m q c ns i N){u':St}(hk:∀z,u z≠.free→u' z=u z):RLaw s u' K x m q c ns i N:=
 ⟨h.M.more hk,h.n,fun z hz=>by
  obtain⟨e1,e2⟩:=h.fr z hz
  exact⟨(hk z (by rw[e1];exact hz)).trans e1,e2⟩,h.i3⟩
theorem RLaw.from (h:RLaw s u K x m q c ns i N){s':St}(hk:∀z,s' z≠.free→s z=s' z):RLaw s' u K x m q c ns i N:=
 ⟨h.M,h.n,fun z hz=>by
  have e:=hk z hz
  obtain⟨e1,e2⟩:=h.fr z (by rw[e];exact hz)
  exact⟨e1.trans e,e2⟩,h.i3⟩
theorem RLaw.mono (h:RLaw s u K x m q c ns i N){N':Nat}(hN:N≤N'):RLaw s u K x m q c ns i N':=⟨h.M,h.n.mono hN,h.fr,h.i3⟩
theorem RLaw.fg (h:RLaw s u K x m q c ns i N):Fg u s:=fun z=>by
 by_cases hz:s z=.free
 ·exact .inl hz
 ·exact .inr (h.fr z hz).1.symm
theorem RLaw.w2 (h:RLaw s u K x m q c ns i N){d:Nat}(hd:d<7):((oR i).getD d []).length=2:=oR_len h.i3 hd
theorem RLaw.D (h:RLaw s u K x m q c ns i N):DOk 14 dsR (oR i):=oR_ok h.i3
theorem RLaw.free (h:RLaw s u K x m q c ns i N){b:Nat}(hb:u b=.free):s b=.free:=by
 by_cases e:s b=.free
 ·exact e
 ·exact absurd ((h.fr b e).1.symm.trans hb) e
theorem RLaw.fin (h:RLaw s u K x m q c ns i N){u':St}(hu:∀z,u z≠.free→u' z=u z∨((∃xs,u z=.obj 30 xs)∧s z=.free)):RLaw s u' K x m q c ns i N:=by
 have k:∀z,(RHas K x m z∨z=q∨z=c)→u' z=u z:=fun z hz=>by
  have hl:u z≠.free:=by
   rcases hz with e|rfl|rfl
   ·exact h.M.live e
   ·rw[h.M.C.qo];simp
   ·rw[h.M.C.co];simp
  rcases hu z hl with e|⟨⟨xs,e⟩,_⟩
  ·exact e
  ·obtain⟨h1,h2,h3⟩:=h.M.rel e
   rcases hz with e|e|e
   ·exact absurd e h1
   ·exact absurd e h2
   ·exact absurd e h3
 refine⟨⟨⟨h.M.C.om.keep fun z hz=>k z (.inl (.inl hz)),(k q (.inr (.inl rfl))).trans h.M.C.qo,(k c (.inr (.inr rfl))).trans h.M.C.co⟩,?_⟩,h.n,fun z hz=>?_,h.i3⟩
 ·rcases h.M.sp with ⟨e,e1⟩|⟨me,e1,e2,e3⟩
  ·exact .inl ⟨e,(k x (.inl (.inr (.inl rfl)))).trans e1⟩
  ·exact .inr ⟨me,(k x (.inl (.inr (.inl rfl)))).trans e1,(k m (.inl (.inr (.inr rfl)))).trans e2,e3⟩
 ·obtain⟨e1,e2⟩:=h.fr z hz
  rcases hu z (by rw[e1];exact hz)with e|⟨_,e⟩
  ·exact⟨e.trans e1,e2⟩
  ·exact absurd e hz
theorem RLaw.r4 (h:RLaw s u K x m q c ns i N){A:List (List UInt8)}{D:List Nat}(hn:NamesOk A)(hl:A.length=D.length)(hd:D.Nodup)(h4:∀d,d∈D→d<4):Rel4 dsR (oR i) A D:=⟨hn,hl,hd,dom4R h.i3 h4⟩
end
theorem varsR_len {i:Nat}(h:i<3){D:List Nat}(hD:∀d,d∈D→d<4):(varsOf (oR i) D).length=2 * D.length:=(dom4R h hD).vl
section
variable {s u : St} {K : OB} {x m q c : Nat} {ns : List Tr} {i N N' : Nat} {A : List (List UInt8)} {D : List Nat}
theorem RLaw.make (L:RLaw s u K x m q c ns i N)(o1 o2:Own)(hn:NamesOk A)(hl:A.length=D.length)(hd:D.Nodup)(h4:∀d,d∈D→d<4)(T:List (List Nat))(TC:List (List VV))(o3:Own)(hT:∀t,t∈T→t.length=D.length∧∀v,v∈t→v<4)(hTC:∀(i:Nat) (t:List Nat),T[i]?=some t→∃oi,TC[i]?=some [.lst (natsL t) oi])(hTl:TC.length=T.length)(hT8:T.length≤1000000)
  (hN:N+T.length * (2 * D.length+2 ^ (2 * D.length))≤N') (hB:N'≤65536) :
  SCalls Tryz.prog 19 [.ptr x 0,.lst (strs A) o1,.lst (natsL D) o2,.lst TC o3] u fun w u'=>∃a:ResG,w=.ret (.tup [.agg [.lst (strs A) .no,.lst (natsL D) .no,.int .i64 (a.1.2.2.2.2:Nat)],.int .i64 0])∧u'=a.1.1∧ResT s u ns x q c i N' D (·∈T) a:=by
 refine SCalls.mono (h:=RMake_S (by omega) L.M L.D A o1 D o2 (L.r4 hn hl hd h4) T TC o3 hT hTC hTl hT8 L.n (by omega)) ?_
 rintro w u' ⟨a,rfl,rfl,h⟩
 exact⟨_,rfl,rfl,L.res h hN (orK_tells fun t ht=>(hT t ht).1)⟩
theorem RLaw.tuples (L:RLaw s u K x m q c ns i N){T:List (List Nat)}{f:(Nat→Bool)→Bool}{k:Nat}(hT:Tells (oR i) D (·∈T) f)(hk:Nod ns f k)(o1 o2:Own)(hn:NamesOk A)(hl:A.length=D.length)(hd:D.Nodup)(h4:∀d,d∈D→d<4)(hTo:∀t,t∈T→t.length=D.length∧∀v,v∈t→v<4){most:Nat}(hmo:most≤16384)(hm:(putA T).length≤most)
  (hN:N+D.length * (20+2 ^ (2 * D.length))≤N') (hB:N'≤65536) :
  SCalls Tryz.prog 11 [.ptr x 0,.agg [.lst (strs A) o1,.lst (natsL D) o2,.int .i64 (k:Nat)],.int .i64 most] u fun w u'=>∃a:RelA,w=.ret (.tup [.lst (rwsC (putA T)) .no,.int .i64 0])∧u'=a.1∧RLaw s a.1 a.2.1 x a.2.2.1 q c a.2.2.2 i N'∧(∃l,a.2.2.2=ns++l)∧∀(b:Nat) (xs:List VV),u b=.obj 30 xs→a.1 b=.obj 30 xs:=by
 have hr:=tells_T L.D (fun k hk=>by have:=h4 k hk;show k<7;omega) (fun k hk=>L.w2 (by have:=h4 k hk;omega)) hd hT hTo
 have h:=RTuples_S (by omega) L.M L.D A o1 D o2 (L.r4 hn hl hd h4) hT.dep hk.mem L.n (by omega) hmo hr hm
 rw[hk.ix]at h
 refine SCalls.mono (h:=h) ?_
 rintro w u' ⟨a,rfl,rfl,h⟩
 exact⟨_,rfl,rfl,L.step (h.mono hN),h.pre,fun b xs hb=>h.own L.M hb (by decide) (by decide) (by decide) (by decide)⟩
end
end Go.Proofs.YtohnaepcgnbaiaaGreatDoor
