/- Walks of functions that the claim reaches, and plain facts of them. Conditions: those in the statements. -/
import Derived.Test.YtndlnadbnganeaaGreatDoorJjVa
set_option linter.unusedSimpArgs false
set_option linter.unusedVariables false
set_option maxRecDepth 100000
namespace Go.Proofs.YtndlnadbnganeaaGreatDoor
open Go.RowKit
attribute [-go_sem] p_and p_or p_shl p_shr
set_option maxHeartbeats 32000000 in
theorem CodeOrders_S (s:St)(a a2 c1 c2 i1 i2 i3 i4:Int):SRet Tryz.prog 8 [.agg [.int .i64 a,.int .i64 a2],.agg [.int .i64 c1,.int .i64 c2],.agg [.int .i64 i1,.int .i64 i2,.int .i64 i3,.int .i64 i4]] s (.bool true) s:=by
 obtain⟨x,y,hx,hy,ex,ey,_⟩:=Cthree_S s a a2 0
 have w3:=fun(s:St) (od:Int)=>Cthree_at s od ex ey
 have wa:=Cawake_S
 have W3:=Lib.hid w3
 have WA:=Lib.hid wa
 have HXY:=Lib.hid (And.intro hx hy)
 obtain⟨m7,hm7,em7⟩:=and7 i4
 have e1:=and_ff i1
 have e2:=and_ff i2
 have e3:=and_ff i3
 have r1:=rem_nat (k:=addP 8 i1) (m:=szD x y 2)
 have r2:=rem_nat (k:=addP 8 i2) (m:=szD x y 0)
 have r3:=rem_nat (k:=addP 8 i3) (m:=szD x y 1)
 have hp:∀n,n<3→0<szD x y n∧szD x y n≤16:=fun n hn=>szD_pos hx hy hn
 have m1:addP 8 i1 % szD x y 2<szD x y 2:=Nat.mod_lt _ (hp 2 (by omega)).1
 have m2:addP 8 i2 % szD x y 0<szD x y 0:=Nat.mod_lt _ (hp 0 (by omega)).1
 have m3:addP 8 i3 % szD x y 1<szD x y 1:=Nat.mod_lt _ (hp 1 (by omega)).1
 have q0:¬ ((szD x y 0:Nat):Int)=0:=by have:=hp 0 (by omega);omega
 have q1:¬ ((szD x y 1:Nat):Int)=0:=by have:=hp 1 (by omega);omega
 have q2:¬ ((szD x y 2:Nat):Int)=0:=by have:=hp 2 (by omega);omega
 have hw:∀n,n<3→IntKind.i64.wrap ((szD x y n:Int) - 1)=((szD x y n - 1:Nat):Int):=fun n hn=>by have:=hp n hn;rw[wrap_i64 (by omega) (by omega)];omega
 have HW:=Lib.hid hw
 have hw1:=hw 1 (by omega)
 have hdx:∀n,n<3→(domsC (dsT x y))[n]?=some [.str [65+UInt8.ofNat n],.int .i64 ((szD x y n:Nat):Int)]:=fun n hn=>domsC_at (dsT_at hn)
 have HDX:=Lib.hid hdx
 have d0:=hdx 0 (by omega)
 have d1:=hdx 1 (by omega)
 have d2:=hdx 2 (by omega)
 generalize addP 8 i1 % szD x y 2=v0 at *
 generalize addP 8 i2 % szD x y 0=v1 at *
 generalize addP 8 i3 % szD x y 1=v2 at *
 generalize addP 8 i1=p1 at *
 generalize addP 8 i2=p2 at *
 generalize addP 8 i3=p3 at *
 have HM:=Lib.hid (And.intro m1 (And.intro m2 (And.intro m3 hm7)))
 have HP:=Lib.hid hp
 clear w3 wa ex ey hx hy hp hw hdx m1 m2 m3 hm7
 refine G_enter Tryz.func8 rfl Tryz.ntmps8 rfl fun Q hQ hQe=>?_
 (repeat'(first|refine Ctl ?_|((with_reducible refine Kof.use hK ?_);clear hK hE K E)|((first|(with_reducible refine G_region fun K E hK hE=>?_)|((with_reducible refine W_fresh (fun b hb=>?_));(repeat(obtain⟨_,hb⟩:=hb))))<;>(try simp(disch:=omega) only[go_sem,seval, *]))))
 rename_i b3 hb3 b4 _ _ hb4 b5 _ _ _ _ hb5 _ _ _ _ _ _
 obtain⟨b7,hb7⟩:∃z,z=b:=⟨_,rfl⟩
 subst hb7
 obtain⟨B0,hB0⟩:∃u,u=((s.set b3 (.obj 22 [.int .i64 a,.int .i64 a2])).set b4 (.obj 22 [.int .i64 c1,.int .i64 c2])).set b5 (.obj 53 [.int .i64 i1,.int .i64 i2,.int .i64 i3,.int .i64 i4]):=⟨_,rfl⟩
 rw[← hB0]
 have g3:B0 b3=.obj 22 [.int .i64 a,.int .i64 a2]:=by rw[hB0];simp only[St.set,if_true,if_false, *]
 have g4:B0 b4=.obj 22 [.int .i64 c1,.int .i64 c2]:=by rw[hB0];simp only[St.set,if_true,if_false, *]
 have g5:B0 b5=.obj 53 [.int .i64 i1,.int .i64 i2,.int .i64 i3,.int .i64 i4]:=by rw[hB0];simp only[St.set,if_true,if_false, *]
 have g7:B0 b7=.free:=by rw[hB0];simp only[St.set,if_true,if_false, *]
 have g0:∀z,s z≠.free→B0 z=s z:=fun z hz=>by rw[hB0,St.set_other _ _ (nef hb5 hz).1,St.set_other _ _ (nef hb4 hz).1,St.set_other _ _ (nef hb3 hz).1]
 obtain⟨n37,n47,n57⟩:b3≠b7∧b4≠b7∧b5≠b7:=⟨fun e=>(by rw[e,g7]at g3;cases g3),fun e=>(by rw[e,g7]at g4;cases g4),fun e=>(by rw[e,g7]at g5;cases g5)⟩
 have hg0:([.lst [] .full,.lst [] .full]:List VV)=gotC (.lst [] .full) 0 []:=rfl
 rw[hg0]
 have HB0:=Lib.hid (And.intro g3 (And.intro g4 (And.intro g5 (And.intro g7 g0))))
 obtain⟨G,hG⟩:∃G:Nat→Nat→Nat→Bool,G=fun a b d=>(((((gT v0 v1 a b d || gQ (szD x y 1) a b d) && gR v2 (szD x y 1 - 1) a b d) || gA (szD x y 0) (szD x y 2) (m7:Int) a b d) && gR v2 (szD x y 1 - 1) a b d) && inG x y 3 a b d):=⟨_,rfl⟩
 have hGin:∀a b d,G a b d=true→inG x y 3 a b d=true:=fun a b d h=>by rw[hG]at h;simp only[Bool.and_eq_true]at h;exact h.2
 have HG:=Lib.hid hG
 have HGI:=Lib.hid hGin
 clear hB0 hb hb3 hb4 hb5 hg0 g3 g4 g5 g0 hG hGin
 refine G_loop (fun f env s'=>∃(i:Nat) (R:List (List Int)),i≤2∧f+i=2∧Hid (0<i→GoodR G R∧R.length≤4096)∧s'=B0.set b7 (.obj 54 (gotC (.lst [] .full) i R))∧env 3=.ptr b3 0∧env 4=.ptr b4 0∧env 5=.ptr b5 0∧env 7=.ptr b7 0∧env 8=.int .i64 (i:Int)) 2 ?_ ?_
 ·exact⟨_,Fg.refl _,0,[],by omega,by omega,Lib.hid (fun h=>absurd h (by omega)),rfl,z_sl,z_sl,z_sl,z_sl,z_sl⟩
 rintro f env s' ⟨i,R,hi,hfi,HR,rfl,e3',e4',e5',e7,e8⟩
 by_cases h7:i<2
 ·obtain⟨g3,g4,g5,g7,g0⟩:=HB0.out
  obtain⟨S,hS⟩:∃S,S=B0.set b7 (.obj 54 (gotC (.lst [] .full) i R)):=⟨_,rfl⟩
  rw[← hS]
  have k3:S b3=.obj 22 [.int .i64 a,.int .i64 a2]:=by rw[hS,St.set_other _ _ n37,g3]
  have k4:S b4=.obj 22 [.int .i64 c1,.int .i64 c2]:=by rw[hS,St.set_other _ _ n47,g4]
  have k5:S b5=.obj 53 [.int .i64 i1,.int .i64 i2,.int .i64 i3,.int .i64 i4]:=by rw[hS,St.set_other _ _ n57,g5]
  have k7:S b7=.obj 54 (gotC (.lst [] .full) i R):=by rw[hS,St.set_same]
  have HS:=Lib.hid hS
  obtain⟨od,hod⟩:∃od:Int,([.int .i64 c1,.int .i64 c2]:List VV)[i]?=some (.int .i64 od):=by
   match i,h7 with
   |0,_=>exact⟨c1,rfl⟩
   |1,_=>exact⟨c2,rfl⟩
  have w3:=W3.out S od
  have HK:=Lib.hid (And.intro k5 k7)
  clear hS g3 g4 g5 g7 g0
  (repeat'(first|refine Ctl ?_|(with_reducible first|(refine Kof.use hK ?_;clear hK hE K E)|(refine Kof.use hKh ?_;clear hKh Kh)|refine G_plan 5 [([0,1,2,3],4,[[]])] [5,6,7,8,9,10,11] hQe fun K E hK hE=>?_)|((with_reducible refine W_cond (fun h=>?_) (fun h=>?_))<;>(try(exfalso;omega)))|(((with_reducible first|refine G_region fun K E hK hE=>?_|refine W_if ?_|refine P_heads fun Kh hKh=>?_|refine P_each fun Kb hKb=>?_))<;>(try simp(disch:=omega) only[go_sem,seval,hod,Nat.mul_one, *]))))
  refine call_ex can10 w3 (fun z h=>?_)
  obtain⟨o,L⟩:=Law.of h HXY.out.1 HXY.out.2
  obtain⟨u,KK,q,c⟩:=z
  dsimp only at L ⊢
  have wq:=L.cq
  have wo:=L.co
  have L0:=LC.of L
  generalize hoo:KK.o=oo at *
  have k5:u b5=.obj 53 [.int .i64 i1,.int .i64 i2,.int .i64 i3,.int .i64 i4]:=by rw[(L.fr b5 (by rw[HK.out.1];simp)).1,HK.out.1]
  have H0:=Lib.hid L0
  have k5z:=Lib.hid HK.out.1
  clear h L L0 w3 k3 k4 k7 hoo hod
  generalize hDC:domsC (dsT x y)=DC at *
  have hDC:=Lib.hid hDC
  simp only[go_sem,seval]
  (repeat'(first|refine Ctl ?_|(with_reducible first|(refine Kof.use hK ?_;clear hK hE K E)|(refine Kof.use hKh ?_;clear hKh Kh)|(refine Kof.use hKb (P_next ?_);clear hKb Kb)|refine G_plan 9 [([0,1,2,3,4,5,6,7,8,9,10,11,12,13,14,15,16,17,18],19,[[]])] [20,21,22,23,24] hQe fun K E hK hE=>?_)|((with_reducible refine W_cond (fun h=>?_) (fun h=>?_))<;>(try(exfalso;assumption)))|(((with_reducible first|refine G_region fun K E hK hE=>?_|refine call_ret can17 (wq) ?_|refine call_ret can18 (wo) ?_|refine W_if ?_|refine P_heads fun Kh hKh=>?_|refine P_fin fun Kh hKh=>?_|refine P_each fun Kb hKb=>?_))<;>(try simp(disch:=omega) only[go_sem,seval, *]))))
  clear wq wo
  have hk20:∀k,k∈[2,0]→k<3:=fun k hk=>by simp at hk;omega
  have hok:∀(i k v:Nat),[2,0][i]?=some k→[v0,v1][i]?=some v→v<szD x y k:=fun i k v h1 h2=>by
   match i with
   |0=>simp at h1 h2;subst h1 h2;exact HM.out.1
   |1=>simp at h1 h2;subst h1 h2;exact HM.out.2.1
   |i+2=>simp at h1
  have w:=(H0.out.ofF (m:=12) (H0.out.L.tuple [2,0] [v0,v1] .full .full hk20 (by simp) (by decide) rfl hok (by have:=H0.out.len;omega))).congr tup_val
  unfold LCR at w
  try simp only[natsL,List.map_cons,List.map_nil]at w
  refine call_ex can16 w (fun a h=>?_)
  obtain⟨u1,K1,n1,kt⟩:=a
  obtain⟨L,pre,ix⟩:=h
  dsimp only at L pre ix ⊢
  have Xt1:=Lib.hid ix
  clear k5
  have k5:u1 b5=.obj 53 [.int .i64 i1,.int .i64 i2,.int .i64 i3,.int .i64 i4]:=by rw[(L.L.fr b5 (by rw[k5z.out];simp)).1,k5z.out]
  have H1:=Lib.hid L
  clear w L pre ix H0
  simp only[go_sem,seval]
  (repeat'(first|refine Ctl ?_|(with_reducible first|(refine Kof.use hK ?_;clear hK hE K E)|(refine Kof.use hKh ?_;clear hKh Kh)|(refine Kof.use hKb (P_next ?_);clear hKb Kb)|refine G_plan 10 [([0,1,2,3,4,5,6,7,8,9,10,11,12,13],14,[[]])] [15,16,17,18,19] hQe fun K E hK hE=>?_)|(((with_reducible first|refine W_if ?_|refine P_heads fun Kh hKh=>?_|refine P_fin fun Kh hKh=>?_|refine P_each fun Kb hKb=>?_))<;>(try simp(disch:=omega) only[go_sem,seval,hw1, *]))))
  have w:=(H1.out.ofF (m:=144) (H1.out.L.rng (d:=1) (lo:=v2) (hi:=szD x y 1 - 1) (by omega) (by have:=HM.out.2.2.1;omega) (by have:=HM.out.2.2.1;omega) (by have:=H1.out.len;omega))).congr (g':=valF o (gR v2 (szD x y 1 - 1))) (fun z=>rfl)
  unfold LCR at w
  try simp only[natsL,List.map_cons,List.map_nil]at w
  refine call_ex can11 w (fun a h=>?_)
  obtain⟨u2,K2,n2,kr⟩:=a
  obtain⟨L,pre,ix⟩:=h
  dsimp only at L pre ix ⊢
  have Xt2:=Lib.hid (Xt1.out.app pre)
  have Xr2:=Lib.hid ix
  clear k5
  have k5:u2 b5=.obj 53 [.int .i64 i1,.int .i64 i2,.int .i64 i3,.int .i64 i4]:=by rw[(L.L.fr b5 (by rw[k5z.out];simp)).1,k5z.out]
  have H2:=Lib.hid L
  clear w L pre ix H1 Xt1
  simp only[go_sem,seval]
  (repeat'(first|refine Ctl ?_|(with_reducible first|(refine Kof.use hK ?_;clear hK hE K E)|(refine Kof.use hKh ?_;clear hKh Kh)|(refine Kof.use hKb (P_next ?_);clear hKb Kb))|(((with_reducible first|refine G_region fun K E hK hE=>?_|refine P_fin fun Kh hKh=>?_))<;>(try simp(disch:=omega) only[go_sem,seval, *]))))
  have w:=(H2.out.ofF (m:=2040) (H2.out.L.eq (a:=1) (b:=0) (by omega) (by omega) (by omega) rfl (by have:=H2.out.len;omega))).congr (g':=valF o (gQ (szD x y 1))) (fun z=>rfl)
  unfold LCR at w
  try simp only[natsL,List.map_cons,List.map_nil]at w
  refine call_ex can15 w (fun a h=>?_)
  obtain⟨u3,K3,n3,kq⟩:=a
  obtain⟨L,pre,ix⟩:=h
  dsimp only at L pre ix ⊢
  have Xt3:=Lib.hid (Xt2.out.app pre)
  have Xr3:=Lib.hid (Xr2.out.app pre)
  have Xq3:=Lib.hid ix
  clear k5
  have k5:u3 b5=.obj 53 [.int .i64 i1,.int .i64 i2,.int .i64 i3,.int .i64 i4]:=by rw[(L.L.fr b5 (by rw[k5z.out];simp)).1,k5z.out]
  have H3:=Lib.hid L
  clear w L pre ix H2 Xt2 Xr2
  simp only[go_sem,seval]
  (repeat'(first|refine Ctl ?_|((with_reducible refine Kof.use hK ?_);clear hK hE K E)|(((with_reducible refine G_region fun K E hK hE=>?_))<;>(try simp(disch:=omega) only[go_sem,seval, *]))))
  have w:=(H3.out.ofF (m:=8592) (H3.out.L.add (a:=0) (b:=2) (more:=(m7:Int)) (by omega) (by omega) (by omega) (by have:=HM.out.2.2.2;omega) (by have:=HM.out.2.2.2;omega) (by have:=H3.out.len;omega))).congr (g':=valF o (gA (szD x y 0) (szD x y 2) (m7:Int))) (fun z=>rfl)
  unfold LCR at w
  try simp only[natsL,List.map_cons,List.map_nil]at w
  refine call_ex can24 w (fun a h=>?_)
  obtain⟨u4,K4,n4,ka⟩:=a
  obtain⟨L,pre,ix⟩:=h
  dsimp only at L pre ix ⊢
  have Xt4:=Lib.hid (Xt3.out.app pre)
  have Xr4:=Lib.hid (Xr3.out.app pre)
  have Xq4:=Lib.hid (Xq3.out.app pre)
  have Xa4:=Lib.hid ix
  clear k5
  have k5:u4 b5=.obj 53 [.int .i64 i1,.int .i64 i2,.int .i64 i3,.int .i64 i4]:=by rw[(L.L.fr b5 (by rw[k5z.out];simp)).1,k5z.out]
  have H4:=Lib.hid L
  clear w L pre ix H3 Xt3 Xr3 Xq3
  simp only[go_sem,seval]
  (repeat'(first|refine Ctl ?_|((with_reducible refine Kof.use hK ?_);clear hK hE K E)|(((with_reducible refine G_region fun K E hK hE=>?_))<;>(try simp(disch:=omega) only[go_sem,seval, *]))))
  have w:=H4.out.or Xt4.out Xq4.out (by omega)
  unfold LCR at w
  try simp only[natsL,List.map_cons,List.map_nil]at w
  refine call_ex can19 w (fun a h=>?_)
  obtain⟨u5,K5,n5,kone⟩:=a
  obtain⟨L,pre,ix⟩:=h
  dsimp only at L pre ix ⊢
  have Xt5:=Lib.hid (Xt4.out.app pre)
  have Xr5:=Lib.hid (Xr4.out.app pre)
  have Xq5:=Lib.hid (Xq4.out.app pre)
  have Xa5:=Lib.hid (Xa4.out.app pre)
  have Xone5:=Lib.hid ix
  clear k5
  have k5:u5 b5=.obj 53 [.int .i64 i1,.int .i64 i2,.int .i64 i3,.int .i64 i4]:=by rw[(L.L.fr b5 (by rw[k5z.out];simp)).1,k5z.out]
  have H5:=Lib.hid L
  clear w L pre ix H4 Xt4 Xr4 Xq4 Xa4
  simp only[go_sem,seval]
  (repeat'(first|refine Ctl ?_|((with_reducible refine Kof.use hK ?_);clear hK hE K E)|(((with_reducible refine G_region fun K E hK hE=>?_))<;>(try simp(disch:=omega) only[go_sem,seval, *]))))
  have w:=H5.out.and Xone5.out Xr5.out (by omega)
  unfold LCR at w
  try simp only[natsL,List.map_cons,List.map_nil]at w
  refine call_ex can23 w (fun a h=>?_)
  obtain⟨u6,K6,n6,ktwo⟩:=a
  obtain⟨L,pre,ix⟩:=h
  dsimp only at L pre ix ⊢
  have Xt6:=Lib.hid (Xt5.out.app pre)
  have Xr6:=Lib.hid (Xr5.out.app pre)
  have Xq6:=Lib.hid (Xq5.out.app pre)
  have Xa6:=Lib.hid (Xa5.out.app pre)
  have Xone6:=Lib.hid (Xone5.out.app pre)
  have Xtwo6:=Lib.hid ix
  clear k5
  have k5:u6 b5=.obj 53 [.int .i64 i1,.int .i64 i2,.int .i64 i3,.int .i64 i4]:=by rw[(L.L.fr b5 (by rw[k5z.out];simp)).1,k5z.out]
  have H6:=Lib.hid L
  clear w L pre ix H5 Xt5 Xr5 Xq5 Xa5 Xone5
  simp only[go_sem,seval]
  (repeat'(first|refine Ctl ?_|((with_reducible refine Kof.use hK ?_);clear hK hE K E)|(((with_reducible refine G_region fun K E hK hE=>?_))<;>(try simp(disch:=omega) only[go_sem,seval, *]))))
  have w:=H6.out.or Xtwo6.out Xa6.out (by omega)
  unfold LCR at w
  try simp only[natsL,List.map_cons,List.map_nil]at w
  refine call_ex can19 w (fun a h=>?_)
  obtain⟨u7,K7,n7,kall⟩:=a
  obtain⟨L,pre,ix⟩:=h
  dsimp only at L pre ix ⊢
  have Xt7:=Lib.hid (Xt6.out.app pre)
  have Xr7:=Lib.hid (Xr6.out.app pre)
  have Xq7:=Lib.hid (Xq6.out.app pre)
  have Xa7:=Lib.hid (Xa6.out.app pre)
  have Xone7:=Lib.hid (Xone6.out.app pre)
  have Xtwo7:=Lib.hid (Xtwo6.out.app pre)
  have Xall7:=Lib.hid ix
  clear k5
  have k5:u7 b5=.obj 53 [.int .i64 i1,.int .i64 i2,.int .i64 i3,.int .i64 i4]:=by rw[(L.L.fr b5 (by rw[k5z.out];simp)).1,k5z.out]
  have H7:=Lib.hid L
  clear w L pre ix H6 Xt6 Xr6 Xq6 Xa6 Xone6 Xtwo6
  simp only[go_sem,seval]
  (repeat'(first|refine Ctl ?_|((with_reducible refine Kof.use hK ?_);clear hK hE K E)|(((with_reducible refine G_region fun K E hK hE=>?_))<;>(try simp(disch:=omega) only[go_sem,seval, *]))))
  have w:=H7.out.and Xall7.out Xr7.out (by omega)
  unfold LCR at w
  try simp only[natsL,List.map_cons,List.map_nil]at w
  refine call_ex can23 w (fun a h=>?_)
  obtain⟨u8,K8,n8,kthr⟩:=a
  obtain⟨L,pre,ix⟩:=h
  dsimp only at L pre ix ⊢
  have Xt8:=Lib.hid (Xt7.out.app pre)
  have Xr8:=Lib.hid (Xr7.out.app pre)
  have Xq8:=Lib.hid (Xq7.out.app pre)
  have Xa8:=Lib.hid (Xa7.out.app pre)
  have Xone8:=Lib.hid (Xone7.out.app pre)
  have Xtwo8:=Lib.hid (Xtwo7.out.app pre)
  have Xall8:=Lib.hid (Xall7.out.app pre)
  have Xthr8:=Lib.hid ix
  clear k5
  have k5:u8 b5=.obj 53 [.int .i64 i1,.int .i64 i2,.int .i64 i3,.int .i64 i4]:=by rw[(L.L.fr b5 (by rw[k5z.out];simp)).1,k5z.out]
  have H8:=Lib.hid L
  clear w L pre ix H7 Xt7 Xr7 Xq7 Xa7 Xone7 Xtwo7 Xall7
  simp only[go_sem,seval]
  (repeat'(first|refine Ctl ?_|((with_reducible refine Kof.use hK ?_);clear hK hE K E)|((with_reducible refine W_cond (fun h=>?_) (fun h=>?_))<;>(try(exfalso;assumption)))|(((with_reducible refine G_region fun K E hK hE=>?_))<;>(try simp(disch:=omega) only[go_sem,seval, *]))))
  obtain⟨g8,hg8⟩:∃g:Nat→Nat→Nat→Bool,g=fun a b d=>((((gT v0 v1 a b d || gQ (szD x y 1) a b d) && gR v2 (szD x y 1 - 1) a b d) || gA (szD x y 0) (szD x y 2) (m7:Int) a b d) && gR v2 (szD x y 1 - 1) a b d):=⟨_,rfl⟩
  have I0:Hid (LC S u8 K8 oo q c n8 x y o (12834+655 * 0)∧IxAt n8 (valF o fun a b d=>g8 a b d && inG x y 0 a b d) kthr):=Lib.hid ⟨H8.out,by
   rw[show (valF o fun a b d=>g8 a b d && inG x y 0 a b d)=valF o g8 from funext fun z=>Bool.and_true _,hg8]
   exact Xthr8.out⟩
  have HG8:Hid ((fun a b d=>g8 a b d && inG x y 3 a b d)=G):=Lib.hid (by rw[HG.out,hg8])
  clear H8 Xt8 Xr8 Xq8 Xa8 Xone8 Xtwo8 Xall8 Xthr8 hg8 hok hk20 k5 r1 r2 r3 e1 e2 e3 em7 d0 d1 d2 hw1 q0 q1 q2
  refine G_loop (fun f env s'=>∃(v:Nat) (K':OB) (ns':List Tr) (k:Nat),v≤3∧f+v=3∧Hid (LC S s' K' oo q c ns' x y o (12834+655 * v)∧IxAt ns' (valF o fun a b d=>g8 a b d && inG x y v a b d) k)∧env 3=.ptr b3 0∧env 4=.ptr b4 0∧env 5=.ptr b5 0∧env 7=.ptr b7 0∧env 8=.int .i64 (i:Int)∧env 9=.ptr c 0∧env 10=.lst DC .no∧env 12=.ptr oo 0∧env 27=.int .i64 (k:Int)∧env 29=.int .i64 (v:Int)) 3 ?_ ?_
  ·exact⟨_,Fg.refl _,0,K8,n8,kthr,by omega,by omega,I0,z_sl,z_sl,z_sl,z_sl,z_sl,z_sl,z_sl,z_sl,z_sl,z_sl⟩
  clear I0 e3' e4' e5' e7 e8
  rintro f2 env s' ⟨v,K',ns',k,hv,hfv,HI,e3',e4',e5',e7,e8,e9,e10,e12,e27,e29⟩
  by_cases h8:v<3
  ·have hz:=HP.out v h8
   have hwv:=HW.out v h8
   have dv:=HDX.out v h8
   have w:=(HI.out.1.ofF (m:=144) (HI.out.1.L.rng (d:=v) (lo:=0) (hi:=szD x y v - 1) h8 (by omega) (by omega) (by have:=HI.out.1.len;omega))).congr (in_val h8)
   unfold LCR at w
   rw[show ((0:Nat):Int)=0 from rfl]at w
   have HZ:=Lib.hid hz
   clear hz
   (repeat'(first|refine Ctl ?_|((with_reducible refine Kof.use hK ?_);clear hK hE K E)|((with_reducible refine W_cond (fun h=>?_) (fun h=>?_))<;>(try(exfalso;omega)))|(((with_reducible refine G_region fun K E hK hE=>?_))<;>(try simp(disch:=omega) only[go_sem,seval,hwv,dv, *]))))
   refine call_ex can11 w (fun a h=>?_)
   obtain⟨u9,K9,n9,kin⟩:=a
   obtain⟨L,pre,ix⟩:=h
   dsimp only at L pre ix ⊢
   have X9:=HI.out.2.app pre
   have w:=L.and X9 ix (by omega)
   unfold LCR at w
   have HA:Hid ((valF o fun a b d=>(g8 a b d && inG x y v a b d) && gI x y v a b d)=valF o fun a b d=>g8 a b d && inG x y (v+1) a b d):=Lib.hid (by funext z;simp only[valF,inG,Bool.and_assoc])
   clear L pre ix X9 HI
   simp only[go_sem,seval]
   (repeat'(first|refine Ctl ?_|((with_reducible refine Kof.use hK ?_);clear hK hE K E)|(((with_reducible refine G_region fun K E hK hE=>?_))<;>(try simp(disch:=omega) only[go_sem,seval, *]))))
   refine call_ex can23 w (fun a h=>?_)
   obtain⟨u10,K10,n10,kn⟩:=a
   obtain⟨L,pre,ix⟩:=h
   dsimp only at L pre ix ⊢
   rw[HA.out]at ix
   have I1:Hid (LC S u10 K10 oo q c n10 x y o (12834+655 * (v+1))∧IxAt n10 (valF o fun a b d=>g8 a b d && inG x y (v+1) a b d) kn):=Lib.hid ⟨L,ix⟩
   clear L pre ix w HA
   simp only[go_sem,seval]
   (repeat'(first|refine Ctl ?_|((with_reducible refine Kof.use hK ?_);clear hK hE K E)|((with_reducible refine W_cond (fun h=>?_) (fun h=>?_))<;>(try(exfalso;assumption)))|(((with_reducible refine G_region fun K E hK hE=>?_))<;>(try simp(disch:=omega) only[go_sem,seval, *]))))
   all_goals exact⟨_,Fg.refl _,f2 - 1,by omega,v+1,K10,n10,kn,by omega,by omega,I1,z_sl,z_sl,z_sl,z_sl,z_sl,z_sl,z_sl,z_sl,z_sl,z_sl⟩
  ·obtain rfl:v=3:=by omega
   obtain⟨L,ix⟩:=HI.out
   rw[HG8.out]at ix
   have hgood:=L.L.good HGI.out
   obtain⟨RR,hRR⟩:∃RR,RR=sortR (tupR (treeT 12 (valF o G)) o [0,1,2]):=⟨_,rfl⟩
   have wt:=L.L.tup ix.1 [0,1,2] .full (fun k hk=>by simp at hk;omega) (by simp) (by decide) (valF_dep (n:=12) (ds:=dsT x y) G) (most:=4096) (by omega) hRR.symm (by rw[hRR];exact hgood.2)
   rw[ix.2]at wt
   simp only[natsL,List.map_cons,List.map_nil]at wt
   rw[← hRR]at hgood
   have k7:s' b7=.obj 54 (gotC (.lst [] .full) i R):=by rw[(L.L.fr b7 (by rw[HK.out.2];simp)).1,HK.out.2]
   have hgl:(gotC (.lst [] .full) i R).length=2:=rfl
   have hspl:splice (gotC (.lst [] .full) i R) i [.lst (rwsC RR) .no]=gotC (.lst [] .full) (i+1) RR:=by
    match i,h7 with
    |0,_=>rfl
    |1,_=>
     have e:R=RR:=(HR.out (by omega)).1.uniq hgood.1
     rw[e];rfl
   have HFG:Hid (∀X,Fg (s'.set b7 X) (B0.set b7 X)):=Lib.hid fun X=>by
    have h:=L.L.fg.set b7 X
    rw[HS.out,St.set_set]at h
    exact h
   have HGD:=Lib.hid hgood
   clear L ix hgood hRR HI HK
   generalize hGC:gotC (.lst [] .full) i R=GC at *
   generalize hGD:gotC (.lst [] .full) (i+1) RR=GD at *
   have HGDD:=Lib.hid hGD
   clear hGC hGD
   generalize rwsC RR=RW at *
   (repeat'(first|refine Ctl ?_|((with_reducible refine Kof.use hK ?_);clear hK hE K E)|((with_reducible refine W_cond (fun h=>?_) (fun h=>?_))<;>(try(exfalso;assumption)))|(((with_reducible first|refine G_region fun K E hK hE=>?_|refine call_ret can13 (wt) ?_|refine W_ifS ?_))<;>(try simp(disch:=omega) only[go_sem,seval,hspl,hgl,Nat.mul_one, *]))))
   all_goals exact⟨_,HFG.out _,f - 1,by omega,i+1,RR,by omega,by omega,Lib.hid (fun _=>HGD.out),by rw[HGDD.out],z_sl,z_sl,z_sl,z_sl,z_sl⟩
 ·obtain rfl:i=2:=by omega
  obtain⟨g3,g4,g5,g7,g0⟩:=HB0.out
  have hr:=HR.out (by omega)
  have hrok:=hr.1.ok hr.2
  have wa:=WA.out (B0.set b7 (.obj 54 (gotC (.lst [] .full) 2 R)))
  have hs:=SameRows_S R R .no .no hrok hrok (B0.set b7 (.obj 54 (gotC (.lst [] .full) 2 R)))
  rw[decide_eq_true rfl]at hs
  have hgc:gotC (.lst [] .full) 2 R=[.lst (rwsC R) .no,.lst (rwsC R) .no]:=rfl
  rw[hgc]at wa hs ⊢
  have HFG:Hid (Fg (B0.set b7 (.obj 54 [.lst (rwsC R) .no,.lst (rwsC R) .no])) s):=Lib.hid fun z=>by
   by_cases hz:s z=.free
   ·exact .inl hz
   ·refine .inr ?_
    have hz7:z≠b7:=fun e=>hz (by rw[← g0 z hz,e,g7])
    rw[St.set_other _ _ hz7,g0 z hz]
  clear g3 g4 g5 g0 hr hrok hgc
  generalize rwsC R=RW at *
  (repeat'(first|refine Ctl ?_|((with_reducible refine Kof.use hK ?_);clear hK hE K E)|((with_reducible refine W_cond (fun h=>?_) (fun h=>?_))<;>(try(exfalso;assumption)))|(((with_reducible first|refine G_region fun K E hK hE=>?_|refine call_ret can14 (hs) ?_|refine call_ret can12 (wa) ?_))<;>(try simp(disch:=omega) only[go_sem,seval, *]))))
  all_goals(refine W_ret res8 hQ ?_)
  all_goals exact⟨_,_,Wk.refl _,HFG.out,rfl,rfl⟩
end Go.Proofs.YtndlnadbnganeaaGreatDoor
