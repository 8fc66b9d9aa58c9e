/- Walks of functions that the claim reaches, and plain facts of them. Conditions: those in the statements. -/
import Derived.Test.YtohnaepcgnbaiaaGreatDoorJkFlj
import Derived.Test.YtohnaepcgnbaiaaGreatDoorJkFo
import Derived.Test.YtohnaepcgnbaiaaGreatDoorJkFj
set_option linter.unusedSimpArgs false
set_option linter.unusedVariables false
set_option maxRecDepth 100000
namespace Go.Proofs.YtohnaepcgnbaiaaGreatDoor
open Go.RowKit
attribute [-go_sem] bJ cX bH bG aT cU cT
theorem sY:bi [[121],[120]]:=⟨by decide,by decide,by decide⟩
theorem AD (B:List Par):∀t,t∈B.map pX->t.length=2/\∀v,v∈t->v<4:=fun t ht=>by obtain⟨p,_,rfl⟩:=A_.1 ht;exact Pr p
theorem rJ (A B:List Par):∀t,t∈iV A B->t.length=2/\∀v,v∈t->v<4:=fun t ht=>(f_.1 ht).elim (iI A t) (AD B t)
theorem mA (A B:List Par):∀t,t∈dt A B->t.length=2/\∀v,v∈t->v<4:=fun t ht=>iI _ t ht
theorem BV (A B:List Par):(br (iV A B)).length<=16:=jG (w:=2) (rJ A B)
theorem CW (A B:List Par):(br (dt A B)).length<=16:=jG (w:=2) (mA A B)
theorem yk {A B:List Par}{n:Nat}{p:Par}(h:A[n]?=some p):dt (A.take (n+1)) B=dt (A.take n) B++(if inB B p then [] else [pN p]):=by
 rw[dt,List.take_add_one,h,List.filter_append,List.map_append]
 show _++((([p]:List Par).filter fun p=>!inB B p).map pN)=_
 cases hp:inB B p<;>simp[dt,hp]
theorem s7 {A:List Par}{f:Par->List Nat}{n:Nat}{p:Par}(h:A[n]?=some p):(A.take (n+1)).map f=(A.take n).map f++[f p]:=by
 rw[List.take_add_one,h];simp
theorem Tells.swap2 {o:List (List Nat)}{d e:Nat}{S:List Nat->Prop}{g:(Nat->Bool)->Bool}(h:Tells o [d,e] (fun r=>S r.reverse) g):Tells o [e,d] S g:=h.swap.iff fun r=>by rw[List.reverse_reverse]
set_option maxHeartbeats 32000000 in
theorem y4 (s:St)(od:Int)(A B:List Par)(hA:A.length<=140737488355328)(hB:B.length<=140737488355328):SRet Tryz.prog 5 [.int .i64 od,.lst (cu A) .no,.lst (cu B) .no] s (.bool true) s:=by
 have hAl:=eL (T:=A)
 have hBl:=eL (T:=B)
 by_cases h20:(A.length:Int) > 20
 ·have wa:=gg s
  generalize cu A=PA at *
  generalize cu B=PB at *
  refine am Tryz.func5 rfl Tryz.ntmps5 rfl fun Q hQ hQe=>?_
  (repeat'(first|refine Ctl ?_|((with_reducible refine k_ hK ?_);clear hK hE K E)|((with_reducible refine ah (fun h=>?_) (fun h=>?_))<;>(try(exfalso;assumption)))|(((with_reducible first|refine ab fun K E hK hE=>?_|refine ae yS (wa) ?_))<;>(try simp(disch:=omega) only[go_sem,seval,hAl,h20, *]))))
  all_goals(refine aq CX hQ ?_)
  all_goals exact⟨_,_,Wk.refl _,Fg.refl _,rfl,rfl⟩
 by_cases h21:(B.length:Int) > 20
 ·have wa:=gg s
  generalize cu A=PA at *
  generalize cu B=PB at *
  refine am Tryz.func5 rfl Tryz.ntmps5 rfl fun Q hQ hQe=>?_
  (repeat'(first|refine Ctl ?_|((with_reducible refine k_ hK ?_);clear hK hE K E)|((with_reducible refine ah (fun h=>?_) (fun h=>?_))<;>(try(exfalso;assumption)))|(((with_reducible first|refine ab fun K E hK hE=>?_|refine ae yS (wa) ?_))<;>(try simp(disch:=omega) only[go_sem,seval,hAl,hBl,h20,h21, *]))))
  all_goals(refine aq CX hQ ?_)
  all_goals exact⟨_,_,Wk.refl _,Fg.refl _,rfl,rfl⟩
 have hA20:A.length<=20:=by omega
 have hB20:B.length<=20:=by omega
 obtain⟨i,hi3,wb⟩:=pj s od
 have w2:=fun(u:St) (K:OB) (x m q c:Nat) (ns:List Tr) (L:RLaw s u K x m q c ns i 2)=>GY L A B .no .no hA20 hB20 (N':=802) (by omega) (by omega)
 have W2:=o_ w2
 have HAT:=o_ (fun(j:Nat) (t:Par) (h:A[j]?=some t)=>fT h)
 have HBT:=o_ (fun(j:Nat) (t:Par) (h:B[j]?=some t)=>fT h)
 clear w2
 generalize cu A=PA at *
 generalize cu B=PB at *
 refine am Tryz.func5 rfl Tryz.ntmps5 rfl fun Q hQ hQe=>?_
 (repeat'(first|refine Ctl ?_|((with_reducible refine k_ hK ?_);clear hK hE K E)|((with_reducible refine ah (fun h=>?_) (fun h=>?_))<;>(try(exfalso;assumption)))|(((with_reducible refine ab fun K E hK hE=>?_))<;>(try simp(disch:=omega) only[go_sem,seval,hAl,hBl,h20,h21, *]))))
 refine ao L0 wb (fun a h=>?_)
 obtain⟨u0,K0,q,c,x⟩:=a
 have w:=W2.out _ _ _ _ _ _ _ (RLaw.of h hi3)
 dsimp only at w ⊢
 simp only[az,ak,dM,List.map_cons,List.map_nil,fc,fb,eZ,eY]at w
 clear h wb W2
 simp only[go_sem,seval]
 (repeat'(first|refine Ctl ?_|((with_reducible refine k_ hK ?_);clear hK hE K E)|((with_reducible refine ah (fun h=>?_) (fun h=>?_))<;>(try(exfalso;assumption)))|(((with_reducible refine ab fun K E hK hE=>?_))<;>(try simp(disch:=omega) only[go_sem,seval,hAl,hBl, *]))))
 refine ao PX w (fun a h=>?_)
 obtain⟨⟨u1,K1,m1,ns1,kp,kq⟩,fp,fq⟩:=a
 have L1:=h.L
 have T1:=h.T1
 have T2:=h.T2
 have np:=h.n1
 have nq:=h.n2
 dsimp only at L1 T1 T2 np nq ⊢
 have HP:=o_ T1
 have HQ:=o_ T2
 clear h w T1 T2
 simp only[go_sem,seval]
 (repeat'(first|refine Ctl ?_|((with_reducible refine k_ hK ?_);clear hK hE K E)|((first|(with_reducible refine ab fun K E hK hE=>?_)|((with_reducible refine au (fun b hb=>?_));(repeat(obtain⟨_,hb⟩:=hb))))<;>(try simp(disch:=first|assumption|omega) only[go_sem,seval, *]))))
 rename_i b9 hb9 _ _
 obtain⟨b10,hb10e⟩:∃z,z=b:=⟨_,rfl⟩
 subst hb10e
 obtain⟨v1,hv1⟩:∃z,z=(u1.set b9 (.obj 30 (rv2 [120] [121] 0 1 kp))).set b10 (.obj 30 (rv2 [121] [122] 2 0 kq)):=⟨_,rfl⟩
 rw[<- hv1]
 have hbb:u1 b10=.free:=hb
 have gv1:∀z,u1 z≠.free->v1 z=u1 z:=fun z hz=>by rw[hv1,j_ _ _ (nef hbb hz).1,j_ _ _ (nef hb9 hz).1]
 have kb9:v1 b9=.obj 30 (rv2 [120] [121] 0 1 kp):=by rw[hv1,j_ _ _ (by assumption),q_]
 have kb10:v1 b10=.obj 30 (rv2 [121] [122] 2 0 kq):=by rw[hv1,q_]
 simp only[rv2]at kb9 kb10
 have hb10s:=L1.free hbb
 clear hv1 hbb hb hb9
 have w:=(L1.more gv1).name HQ.out nq .no .no qn rfl (by decide) (by decide) .full sY rfl (N':=802) (by decide)
 simp only[az,ak,dM,List.map_cons,List.map_nil,fc,fb,eZ,eY]at w
 refine ao Qs w (fun a h=>?_)
 obtain⟨⟨u2,K2,m2,ns2,k_2⟩,f2⟩:=a
 have L2:=h.L
 have T2:=h.T
 have nq:=h.nd
 have np:=np.app h.pre
 have kb9:=h.own b9 _ kb9
 have kb10:=h.own b10 _ kb10
 dsimp only at L2 T2 nq np kb9 kb10 ⊢
 have HQ2:=o_ T2
 have nb9:¬ b9=b10:=by assumption
 clear h w T2 L1 gv1 HQ
 simp only[go_sem,seval,kb10]
 (repeat'(first|refine Ctl ?_|((with_reducible refine k_ hK ?_);clear hK hE K E)|(((with_reducible refine ab fun K E hK hE=>?_))<;>(try simp(disch:=omega) only[go_sem,seval, *]))))
 obtain⟨v2,hv2⟩:∃z,z=u2.set b10 (.obj 30 (rv2 [121] [120] 2 0 k_2)):=⟨_,rfl⟩
 rw[<- hv2]
 have gv2:RLaw s v2 K2 x m2 q c ns2 i 802:=L2.fin fun z hz=>by
  by_cases e:z=b10
  ·subst e;exact .inr ⟨⟨_,kb10⟩,hb10s⟩
  ·exact .inl (by rw[hv2,j_ _ _ e])
 have kb9:=(show v2 b9=u2 b9 from by rw[hv2,j_ _ _ nb9]).trans kb9
 have kb10:v2 b10=.obj 30 (rv2 [121] [120] 2 0 k_2):=by rw[hv2,q_]
 simp only[rv2]at kb10
 clear hv2 L2
 have w:=gv2.or HP.out np .no .no ee rfl (by decide) (by decide) HQ2.out nq .no .no sY rfl (by decide) (by decide) (by decide) rfl (Dk:=[1,0]) (S':=(·∈iV A B)) (N':=914) rfl (by decide) (by decide) (fun G hG=>Ls HP.out hG) (by decide) (by decide)
 simp only[az,ak,dM,List.map_cons,List.map_nil,fc,fb,eZ,eY]at w
 refine ao GW w (fun a h=>?_)
 obtain⟨⟨u3,K3,m3,ns3,k_3⟩,f3⟩:=a
 have L3:=h.L
 have T3:=h.T
 have no:=h.nd
 have np:=np.app h.pre
 have nq:=nq.app h.pre
 have kb10:=h.own b10 _ kb10
 dsimp only at L3 T3 no np nq kb10 ⊢
 have hlb10:u3 b10≠.free:=by rw[kb10];simp
 have HO:=o_ T3
 clear h w T3 gv2 kb9
 simp only[go_sem,seval]
 (repeat'(first|refine Ctl ?_|((with_reducible refine k_ hK ?_);clear hK hE K E)|((first|(with_reducible refine ab fun K E hK hE=>?_)|((with_reducible refine au (fun b hb=>?_));(try(obtain⟨_,_⟩:=nef hb hlb10))))<;>(try simp(disch:=omega) only[go_sem,seval, *]))))
 obtain⟨b13,hb13⟩:∃z,z=b:=⟨_,rfl⟩
 subst hb13
 have fb13:u3 b13=.free:=hb
 obtain⟨v3,huv3⟩:∃z,z=u3.set b13 (.obj 30 (rv2 [120] [121] 0 1 k_3)):=⟨_,rfl⟩
 rw[<- huv3]
 have gv3:∀z,u3 z≠.free->v3 z=u3 z:=fun z hz=>by rw[huv3,j_ _ _ (nef fb13 hz).1]
 have kb13:v3 b13=.obj 30 (rv2 [120] [121] 0 1 k_3):=by rw[huv3,q_]
 try simp only[rv2]at kb13
 try simp only[rv3]at kb13
 clear huv3 hb
 have kb10:=(gv3 b10 hlb10).trans kb10
 have hb13s:=L3.free fb13
 have w:=(L3.more gv3).not HO.out no .no .no ee rfl (by decide) (by decide) HQ2.out nq .no .no sY rfl (by decide) (by decide) (by decide) rfl (Dk:=[1,0]) (S':=(·∈dt A B)) (N':=1026) rfl (by decide) (by decide) (fun G hG=>AQ HO.out hG) (by decide) (by decide)
 simp only[az,ak,dM,List.map_cons,List.map_nil,fc,fb,eZ,eY]at w
 refine ao Qr w (fun a h=>?_)
 obtain⟨⟨u4,K4,m4,ns4,k_4⟩,f4⟩:=a
 have L4:=h.L
 have T4:=h.T
 have nn:=h.nd
 have nq:=nq.app h.pre
 have no:=no.app h.pre
 have kb10:=h.own b10 _ kb10
 have kb13:=h.own b13 _ kb13
 dsimp only at L4 T4 nn nq no kb10 kb13 ⊢
 have hlb10:u4 b10≠.free:=by rw[kb10];simp
 have hlb13:u4 b13≠.free:=by rw[kb13];simp
 have HN:=o_ T4
 clear h w T4 L3 gv3
 simp only[go_sem,seval]
 (repeat'(first|refine Ctl ?_|((with_reducible refine k_ hK ?_);clear hK hE K E)|((first|(with_reducible refine ab fun K E hK hE=>?_)|((with_reducible refine au (fun b hb=>?_));(try(obtain⟨_,_⟩:=nef hb hlb10;obtain⟨_,_⟩:=nef hb hlb13))))<;>(try simp(disch:=omega) only[go_sem,seval, *]))))
 obtain⟨b15,hb15⟩:∃z,z=b:=⟨_,rfl⟩
 subst hb15
 have fb15:u4 b15=.free:=hb
 obtain⟨v4,huv4⟩:∃z,z=u4.set b15 (.obj 30 (rv2 [120] [121] 0 1 k_4)):=⟨_,rfl⟩
 rw[<- huv4]
 have gv4:∀z,u4 z≠.free->v4 z=u4 z:=fun z hz=>by rw[huv4,j_ _ _ (nef fb15 hz).1]
 have kb15:v4 b15=.obj 30 (rv2 [120] [121] 0 1 k_4):=by rw[huv4,q_]
 try simp only[rv2]at kb15
 try simp only[rv3]at kb15
 clear huv4 hb
 have kb10:=(gv4 b10 hlb10).trans kb10
 have kb13:=(gv4 b13 hlb13).trans kb13
 have hb15s:=L4.free fb15
 have w:=(L4.more gv4).or HQ2.out nq .no .no sY rfl (by decide) (by decide) HN.out nn .no .no ee rfl (by decide) (by decide) (by decide) rfl (Dk:=[0,2]) (S':=fun r=>r.reverse∈iV A B) (N':=1138) rfl (by decide) (by decide) (fun G hG=>(BS HQ2.out hG).swap) (by decide) (by decide)
 simp only[az,ak,dM,List.map_cons,List.map_nil,fc,fb,eZ,eY]at w
 refine ao GW w (fun a h=>?_)
 obtain⟨⟨u5,K5,m5,ns5,k_5⟩,f5⟩:=a
 have L5:=h.L
 have T5:=h.T
 have nb:=h.nd
 have no:=no.app h.pre
 have nn:=nn.app h.pre
 have kb13:=h.own b13 _ kb13
 have kb15:=h.own b15 _ kb15
 dsimp only at L5 T5 nb no nn kb13 kb15 ⊢
 have hlb13:u5 b13≠.free:=by rw[kb13];simp
 have hlb15:u5 b15≠.free:=by rw[kb15];simp
 have HB:=o_ T5
 clear h w T5 L4 gv4 kb10
 simp only[go_sem,seval]
 (repeat'(first|refine Ctl ?_|((with_reducible refine k_ hK ?_);clear hK hE K E)|((first|(with_reducible refine ab fun K E hK hE=>?_)|((with_reducible refine au (fun b hb=>?_));(try(obtain⟨_,_⟩:=nef hb hlb13;obtain⟨_,_⟩:=nef hb hlb15))))<;>(try simp(disch:=omega) only[go_sem,seval, *]))))
 obtain⟨b17,hb17⟩:∃z,z=b:=⟨_,rfl⟩
 subst hb17
 have fb17:u5 b17=.free:=hb
 obtain⟨v5,huv5⟩:∃z,z=u5.set b17 (.obj 30 (rv2 [121] [120] 2 0 k_5)):=⟨_,rfl⟩
 rw[<- huv5]
 have gv5:∀z,u5 z≠.free->v5 z=u5 z:=fun z hz=>by rw[huv5,j_ _ _ (nef fb17 hz).1]
 have kb17:v5 b17=.obj 30 (rv2 [121] [120] 2 0 k_5):=by rw[huv5,q_]
 try simp only[rv2]at kb17
 try simp only[rv3]at kb17
 clear huv5 hb
 have kb13:=(gv5 b13 hlb13).trans kb13
 have kb15:=(gv5 b15 hlb15).trans kb15
 have hb17s:=L5.free fb17
 have w:=(L5.more gv5).keep HB.out nb .no .no sY rfl (by decide) (by decide) (by decide) .full ee (by decide) (by decide) (D':=[0,2]) (K':=[]) (S':=(·∈iV A B)) (N':=1306) rfl rfl (by rw[xv];exact HB.out.swap2) (by decide) (by decide)
 simp only[az,ak,dM,List.map_cons,List.map_nil,fc,fb,eZ,eY]at w
 refine ao GX w (fun a h=>?_)
 obtain⟨⟨u6,K6,m6,ns6,k_6⟩,f6⟩:=a
 have L6:=h.L
 have T6:=h.T
 have nb:=h.nd
 have no:=no.app h.pre
 have nn:=nn.app h.pre
 have kb13:=h.own b13 _ kb13
 have kb15:=h.own b15 _ kb15
 have kb17:=h.own b17 _ kb17
 dsimp only at L6 T6 nb no nn kb13 kb15 kb17 ⊢
 have HB2:=o_ T6
 have nb13:¬ b13=b17:=by assumption
 have nb15:¬ b15=b17:=by assumption
 clear h w T6 L5 gv5
 simp only[go_sem,seval,kb17]
 (repeat'(first|refine Ctl ?_|((with_reducible refine k_ hK ?_);clear hK hE K E)|(((with_reducible refine ab fun K E hK hE=>?_))<;>(try simp(disch:=omega) only[go_sem,seval, *]))))
 obtain⟨v6,hv6⟩:∃z,z=u6.set b17 (.obj 30 (rv2 [120] [121] 0 2 k_6)):=⟨_,rfl⟩
 rw[<- hv6]
 have gv6:RLaw s v6 K6 x m6 q c ns6 i 1306:=L6.fin fun z hz=>by
  by_cases e:z=b17
  ·subst e;exact .inr ⟨⟨_,kb17⟩,hb17s⟩
  ·exact .inl (by rw[hv6,j_ _ _ e])
 have kb13:=(show v6 b13=u6 b13 from by rw[hv6,j_ _ _ nb13]).trans kb13
 have kb15:=(show v6 b15=u6 b15 from by rw[hv6,j_ _ _ nb15]).trans kb15
 have kb17:v6 b17=.obj 30 (rv2 [120] [121] 0 2 k_6):=by rw[hv6,q_]
 simp only[rv2]at kb17
 clear hv6 L6
 have w:=gv6.tuples HO.out no .no .no ee rfl (by decide) (by decide) (rJ A B) (most:=16) (N':=1378) (by decide) (BV A B) (by decide) (by decide)
 simp only[az,ak,dM,List.map_cons,List.map_nil,fc,fb,eZ,eY]at w
 refine ao lW w (fun a h=>?_)
 obtain⟨u7,K7,m7,ns7⟩:=a
 obtain⟨L7,hpre,hown⟩:=h
 have nn:=nn.app hpre
 have nb:=nb.app hpre
 have kb15:=hown b15 _ kb15
 have kb17:=hown b17 _ kb17
 dsimp only at L7 nn nb kb15 kb17 ⊢
 clear w hpre hown gv6 kb13
 simp only[go_sem,seval]
 (repeat'(first|refine Ctl ?_|((with_reducible refine k_ hK ?_);clear hK hE K E)|(((with_reducible refine ab fun K E hK hE=>?_))<;>(try simp(disch:=omega) only[go_sem,seval, *]))))
 have w:=L7.tuples HB2.out nb .no .no ee rfl (by decide) (by decide) (rJ A B) (most:=16) (N':=1450) (by decide) (BV A B) (by decide) (by decide)
 simp only[az,ak,dM,List.map_cons,List.map_nil,fc,fb,eZ,eY]at w
 refine ao lW w (fun a h=>?_)
 obtain⟨u8,K8,m8,ns8⟩:=a
 obtain⟨L8,hpre,hown⟩:=h
 have nn:=nn.app hpre
 have kb15:=hown b15 _ kb15
 dsimp only at L8 nn kb15 ⊢
 clear w hpre hown L7 kb17
 simp only[go_sem,seval]
 (repeat'(first|refine Ctl ?_|((with_reducible refine k_ hK ?_);clear hK hE K E)|(((with_reducible refine ab fun K E hK hE=>?_))<;>(try simp(disch:=omega) only[go_sem,seval, *]))))
 have w:=L8.tuples HN.out nn .no .no ee rfl (by decide) (by decide) (mA A B) (most:=16) (N':=1522) (by decide) (CW A B) (by decide) (by decide)
 simp only[az,ak,dM,List.map_cons,List.map_nil,fc,fb,eZ,eY]at w
 refine ao lW w (fun a h=>?_)
 obtain⟨u9,K9,m9,ns9⟩:=a
 obtain⟨L9,hpre,hown⟩:=h
 dsimp only at L9   ⊢
 clear w hpre hown L8 kb15
 have har:dL (br (iV A B)):=gw (w:=2) (by decide) (rJ A B)
 have hrr:dL (br (dt A B)):=gw (w:=2) (by decide) (mA A B)
 have hs:=fun(o2:Own)=>eT (br (iV A B)) (br (iV A B)) .no o2 har har u9
 rw[decide_eq_true rfl]at hs
 have hs2:=fun(o2:Own)=>eT (br (dt A B)) (br (dt A B)) .no o2 hrr hrr u9
 rw[decide_eq_true rfl]at hs2
 have HSA:=o_ hs
 have HSR:=o_ hs2
 have hs1:=hs .no
 have HLL:=o_ L9
 clear hs hs2 har hrr L9 HP HQ2 HO HN HB HB2
 simp only[go_sem,seval]
 (repeat'(first|refine Ctl ?_|((with_reducible refine k_ hK ?_);clear hK hE K E)|((with_reducible refine ah (fun h=>?_) (fun h=>?_))<;>(try(exfalso;assumption)))|(((with_reducible first|refine ab fun K E hK hE=>?_|refine ae oZ (hs1) ?_))<;>(try simp(disch:=omega) only[go_sem,seval, *]))))
 clear hs1
 generalize hRA:bh (br (iV A B))=RA at *
 generalize hRR:bh (br (dt A B))=RR at *
 have HRA:=o_ hRA
 have HRR:=o_ hRR
 clear hRA hRR
 refine aY (fun f env s'=>∃(n:Nat) (ow ow2:Own),n<=A.length/\f+n=A.length/\u9=s'/\env 1=.lst PA .no/\env 2=.lst PB .no/\env 20=.lst RA .no/\env 24=.lst RR .no/\env 26=.lst (bh (br ((A.take n).map pN))) ow/\env 27=.lst (bh (br (dt (A.take n) B))) ow2/\env 28=.int .i64 (n:Int)) A.length
  ⟨0,.full,.full,by omega,by omega,rfl,ac,ac,ac,ac,(by(rw[show bh (br ((A.take 0).map pN))=[] from rfl];((try simp(disch:=assumption) only[go_sem,seval, *])<;>rfl))),(by(rw[show bh (br (dt (A.take 0) B))=[] from rfl];((try simp(disch:=assumption) only[go_sem,seval, *])<;>rfl))),ac⟩ ?_
 rintro f env s' ⟨n,ow,ow2,hn,hfn,rfl,e1,e2,e20,e24,e26,e27,e28⟩
 by_cases hlt:n<A.length
 ·obtain⟨pa,hpa⟩:∃p,A[n]?=some p:=⟨_,m_ hlt⟩
  have hxa:=HAT.out n pa hpa
  have a1:=fA pa.1
  have a2:=fA pa.2
  have hma:=s7 (f:=pN) hpa
  have hrs:=yk (B:=B) hpa
  have okA:dL (br ((A.take n).map pN)):=jl _
  have okR:dL (br (dt (A.take n) B)):=gw (w:=2) (by decide) (mA _ _)
  have wp:=iP (br ((A.take n).map pN)) (eE (pN pa)) ow .full okA (by simp[eE,pN]) u9
  rw[<- jH,<- hma]at wp
  rw[show aI (eE (pN pa))=[[.int .i64 ((lo2 pa.1:Nat):Int)],[.int .i64 ((lo2 pa.2:Nat):Int)]] from rfl]at wp
  have wr:=iP (br (dt (A.take n) B)) (eE (pN pa)) ow2 .full okR (by simp[eE,pN]) u9
  rw[<- jH]at wr
  rw[show aI (eE (pN pa))=[[.int .i64 ((lo2 pa.1:Nat):Int)],[.int .i64 ((lo2 pa.2:Nat):Int)]] from rfl]at wr
  have HRS:=o_ hrs
  have WR:=o_ wr
  have HA1:=o_ a1
  have HA2:=o_ a2
  clear hma hrs okA okR wr hpa
  generalize hAN:bh (br ((A.take (n+1)).map pN))=AN at *
  have HAN:=o_ hAN
  clear hAN
  generalize bh (br ((A.take n).map pN))=AO at *
  generalize hC1:lo2 pa.1=c1 at *
  generalize hC2:lo2 pa.2=c2 at *
  have HC:=o_ (And.intro hC1 hC2)
  clear hC1 hC2
  obtain⟨pa1,pa2⟩:=pa
  dsimp only at hxa a1 a2
  (repeat'(first|refine Ctl ?_|(with_reducible first|(refine k_ hK ?_;clear hK hE K E)|(refine k_ hKh ?_;clear hKh Kh)|(refine k_ hKb (aC ?_);clear hKb Kb)|refine ax 21 [([0,1,2,3,4,5,6,7,8,9,10,11,12,13],14,[[]])] [15] hQe fun K E hK hE=>?_)|((with_reducible refine ah (fun h=>?_) (fun h=>?_))<;>(try(exfalso;assumption)))|(((with_reducible first|refine ab fun K E hK hE=>?_|refine ae xL (wp) ?_|refine ay fun Kh hKh=>?_|refine aG fun Kh hKh=>?_|refine aB fun Kb hKb=>?_))<;>(try simp(disch:=omega) only[go_sem,seval,hAl,hxa,a1,a2, *]))))
  refine aY (fun f env s'=>∃(r:Nat),r<=B.length/\f+r=B.length/\u9=s'/\env 1=.lst PA .no/\env 2=.lst PB .no/\env 20=.lst RA .no/\env 24=.lst RR .no/\env 26=.lst AN .no/\env 27=.lst (bh (br (dt (A.take n) B))) ow2/\env 28=.int .i64 (n:Int)/\env 29=.bool (inB (B.take r) (pa1,pa2))/\env 30=.int .i64 (r:Int)) B.length
   ⟨0,by omega,by omega,rfl,ac,ac,ac,ac,ac,ac,ac,(by(rw[show inB (B.take 0) (pa1,pa2)=false from rfl];((try simp(disch:=assumption) only[go_sem,seval, *])<;>rfl))),ac⟩ ?_
  clear e1 e2 e20 e24 e26 e27 e28 wp
  rintro f' env s' ⟨r,hr,hfr,rfl,e1,e2,e20,e24,e26,e27,e28,e29,e30⟩
  by_cases hlt2:r<B.length
  ·obtain⟨pb,hpb⟩:∃p,B[r]?=some p:=⟨_,m_ hlt2⟩
   have hxb:=HBT.out r pb hpb
   have b1:=fA pb.1
   have b2:=fA pb.2
   have hin:=EL (p:=(pa1,pa2)) hpb
   dsimp only at hin
   have hc:=HC.out
   dsimp only at hc
   rw[hc.1,hc.2]at hin
   clear hpb hc
   generalize lo2 pb.1=d1 at *
   generalize lo2 pb.2=d2 at *
   obtain⟨pb1,pb2⟩:=pb
   dsimp only at hxb b1 b2
   cases hI:inB (B.take r) (pa1,pa2)with
   |true=>
    rw[hI]at e29 hin
    have HIN:Hid (inB (B.take (r+1)) (pa1,pa2)=true):=o_ (by rw[hin];rfl)
    clear hin hI b1 b2
    (repeat'(first|refine Ctl ?_|(with_reducible first|(refine k_ hK ?_;clear hK hE K E)|(refine k_ hKh ?_;clear hKh Kh)|(refine k_ hKb (aC ?_);clear hKb Kb)|refine ax 26 [([0,1,2,3,4,5,6,7,8,9,10,11,12,13,14,15,16,17,18,19,20,21,22,23,24,25,26,27,28,29,30],31,[[0,1,2,3,4,5,6,7,8,9,10,11,12,13,14,15,16,17,18,19,20,21,22,23,24,25,26,27,28,29,30]])] [] hQe fun K E hK hE=>?_)|((with_reducible refine ah (fun h=>?_) (fun h=>?_))<;>(try(exfalso;assumption)))|(((with_reducible first|refine ab fun K E hK hE=>?_|refine ay fun Kh hKh=>?_|refine aG fun Kh hKh=>?_|refine aB fun Kb hKb=>?_))<;>(try simp(disch:=omega) only[go_sem,seval,hBl,hxa,hxb,a1,a2, *]))))
    all_goals exact⟨f' - 1,by omega,r+1,by omega,by omega,rfl,ac,ac,ac,ac,ac,ac,ac,(by(rw[HIN.out];((try simp(disch:=assumption) only[go_sem,seval, *])<;>rfl))),ac⟩
   |false=>
    rw[hI]at e29 hin
    rw[Bool.false_or]at hin
    by_cases hd1:d2=c1
    ·by_cases hd2:d1=c2
     ·have HIN:Hid (inB (B.take (r+1)) (pa1,pa2)=true):=o_ (by rw[hin];simp[hd1,hd2])
      subst hd1 hd2
      clear hin hI
      (repeat'(first|refine Ctl ?_|(with_reducible first|(refine k_ hK ?_;clear hK hE K E)|(refine k_ hKh ?_;clear hKh Kh)|(refine k_ hKb (aC ?_);clear hKb Kb)|refine ax 26 [([0,1,2,3,4,5,6,7,8,9,10,11,12,13,14,15,16,17,18,19,20,21,22,23,24,25,26,27,28,29,30],31,[[0,1,2,3,4,5,6,7,8,9,10,11,12,13,14,15,16,17,18,19,20,21,22,23,24,25,26,27,28,29,30]])] [] hQe fun K E hK hE=>?_)|((with_reducible refine ah (fun h=>?_) (fun h=>?_))<;>(try(exfalso;assumption)))|(((with_reducible first|refine ab fun K E hK hE=>?_|refine ay fun Kh hKh=>?_|refine aG fun Kh hKh=>?_|refine aB fun Kb hKb=>?_))<;>(try simp(disch:=omega) only[go_sem,seval,hBl,hxa,hxb,a1,a2,b1,b2, *]))))
      all_goals exact⟨f' - 1,by omega,r+1,by omega,by omega,rfl,ac,ac,ac,ac,ac,ac,ac,(by(rw[HIN.out];((try simp(disch:=assumption) only[go_sem,seval, *])<;>rfl))),ac⟩
     ·have HIN:Hid (inB (B.take (r+1)) (pa1,pa2)=false):=o_ (by rw[hin];simp[hd2])
      have hne:¬ (d1:Int)=(c2:Int):=by omega
      subst hd1
      clear hin hI hd2
      (repeat'(first|refine Ctl ?_|(with_reducible first|(refine k_ hK ?_;clear hK hE K E)|(refine k_ hKh ?_;clear hKh Kh)|(refine k_ hKb (aC ?_);clear hKb Kb)|refine ax 26 [([0,1,2,3,4,5,6,7,8,9,10,11,12,13,14,15,16,17,18,19,20,21,22,23,24,25,26,27,28,29,30],31,[[0,1,2,3,4,5,6,7,8,9,10,11,12,13,14,15,16,17,18,19,20,21,22,23,24,25,26,27,28,29,30]])] [] hQe fun K E hK hE=>?_)|((with_reducible refine ah (fun h=>?_) (fun h=>?_))<;>(try(exfalso;assumption)))|(((with_reducible first|refine ab fun K E hK hE=>?_|refine ay fun Kh hKh=>?_|refine aG fun Kh hKh=>?_|refine aB fun Kb hKb=>?_))<;>(try simp(disch:=omega) only[go_sem,seval,hBl,hxa,hxb,a1,a2,b1,b2,hne, *]))))
      all_goals exact⟨f' - 1,by omega,r+1,by omega,by omega,rfl,ac,ac,ac,ac,ac,ac,ac,(by(rw[HIN.out];((try simp(disch:=assumption) only[go_sem,seval, *])<;>rfl))),ac⟩
    ·have HIN:Hid (inB (B.take (r+1)) (pa1,pa2)=false):=o_ (by rw[hin];simp[hd1])
     have hne:¬ (d2:Int)=(c1:Int):=by omega
     clear hin hI hd1
     (repeat'(first|refine Ctl ?_|(with_reducible first|(refine k_ hK ?_;clear hK hE K E)|(refine k_ hKh ?_;clear hKh Kh)|(refine k_ hKb (aC ?_);clear hKb Kb)|refine ax 26 [([0,1,2,3,4,5,6,7,8,9,10,11,12,13,14,15,16,17,18,19,20,21,22,23,24,25,26,27,28,29,30],31,[[0,1,2,3,4,5,6,7,8,9,10,11,12,13,14,15,16,17,18,19,20,21,22,23,24,25,26,27,28,29,30]])] [] hQe fun K E hK hE=>?_)|((with_reducible refine ah (fun h=>?_) (fun h=>?_))<;>(try(exfalso;assumption)))|(((with_reducible first|refine ab fun K E hK hE=>?_|refine ay fun Kh hKh=>?_|refine aG fun Kh hKh=>?_|refine aB fun Kb hKb=>?_))<;>(try simp(disch:=omega) only[go_sem,seval,hBl,hxa,hxb,a1,a2,b1,b2,hne, *]))))
     all_goals exact⟨f' - 1,by omega,r+1,by omega,by omega,rfl,ac,ac,ac,ac,ac,ac,ac,(by(rw[HIN.out];((try simp(disch:=assumption) only[go_sem,seval, *])<;>rfl))),ac⟩
  ·have hinb:r=B.length:=by omega
   rw[hinb,b_]at e29
   have hnl:¬ (r:Int)<(B.length:Int):=by omega
   have hrs:=HRS.out
   cases hI:inB B (pa1,pa2)with
   |true=>
    rw[hI]at e29 hrs
    rw[if_pos rfl,List.append_nil]at hrs
    have HR1:=o_ hrs
    clear hrs hI
    (repeat'(first|refine Ctl ?_|((with_reducible refine k_ hK ?_);clear hK hE K E)|((with_reducible refine ah (fun h=>?_) (fun h=>?_))<;>(try(exfalso;first|assumption|omega)))|(((with_reducible refine ab fun K E hK hE=>?_))<;>(try simp(disch:=omega) only[go_sem,seval,hBl,hnl, *]))))
    all_goals exact⟨f - 1,by omega,n+1,.no,ow2,by omega,by omega,rfl,ac,ac,ac,ac,(by(rw[HAN.out];((try simp(disch:=assumption) only[go_sem,seval, *])<;>rfl))),(by(rw[HR1.out];((try simp(disch:=assumption) only[go_sem,seval, *])<;>rfl))),ac⟩
   |false=>
    rw[hI]at e29 hrs
    rw[if_neg (by decide)]at hrs
    have wr:=WR.out
    rw[<- hrs]at wr
    have HR1:=o_ hrs
    clear hrs hI
    generalize hRN:bh (br (dt (A.take (n+1)) B))=RN at *
    have HRN:=o_ hRN
    clear hRN
    generalize bh (br (dt (A.take n) B))=RO at *
    (repeat'(first|refine Ctl ?_|(with_reducible first|(refine k_ hK ?_;clear hK hE K E)|(refine k_ hKh ?_;clear hKh Kh)|(refine k_ hKb (aC ?_);clear hKb Kb)|refine ax 28 [([0,1,2,3,4,5,6,7,8,9,10,11,12,13],14,[[]])] [15] hQe fun K E hK hE=>?_)|((with_reducible refine ah (fun h=>?_) (fun h=>?_))<;>(try(exfalso;first|assumption|omega)))|(((with_reducible first|refine ab fun K E hK hE=>?_|refine ae xL (wr) ?_|refine ay fun Kh hKh=>?_|refine aG fun Kh hKh=>?_|refine aB fun Kb hKb=>?_))<;>(try simp(disch:=omega) only[go_sem,seval,hAl,hBl,hnl,hxa,a1,a2, *]))))
    all_goals exact⟨f - 1,by omega,n+1,.no,.no,by omega,by omega,rfl,ac,ac,ac,ac,(by(rw[HAN.out];((try simp(disch:=assumption) only[go_sem,seval, *])<;>rfl))),(by(rw[HRN.out];((try simp(disch:=assumption) only[go_sem,seval, *])<;>rfl))),ac⟩
 ·have hin:n=A.length:=by omega
  rw[hin,b_]at e26 e27
  rw[HRR.out]at e27
  have hnl:¬ (n:Int)<(A.length:Int):=by omega
  (repeat'(first|refine Ctl ?_|((with_reducible refine k_ hK ?_);clear hK hE K E)|((with_reducible refine ah (fun h=>?_) (fun h=>?_))<;>(try(exfalso;omega)))|(((with_reducible refine ab fun K E hK hE=>?_))<;>(try simp(disch:=omega) only[go_sem,seval,hAl,hnl, *]))))
  refine aY (fun f env s'=>∃(r:Nat) (ow:Own),r<=B.length/\f+r=B.length/\u9=s'/\env 2=.lst PB .no/\env 20=.lst RA .no/\env 24=.lst RR .no/\env 26=.lst (bh (br (A.map pN++(B.take r).map pX))) ow/\env 27=.lst RR ow2/\env 31=.int .i64 (r:Int)) B.length
   ⟨0,ow,by omega,by omega,rfl,ac,ac,ac,(by(rw[show A.map pN++(B.take 0).map pX=A.map pN by simp];((try simp(disch:=assumption) only[go_sem,seval, *])<;>rfl))),ac,ac⟩ ?_
  clear e1 e2 e20 e24 e26 e27 e28 hnl
  rintro f' env s' ⟨r,ow,hr,hfr,rfl,e2,e20,e24,e26,e27,e31⟩
  by_cases hlt2:r<B.length
  ·obtain⟨pb,hpb⟩:∃p,B[r]?=some p:=⟨_,m_ hlt2⟩
   have hxb:=HBT.out r pb hpb
   have b1:=fA pb.1
   have b2:=fA pb.2
   have hma:=s7 (f:=pX) hpb
   have okA:dL (br (A.map pN++(B.take r).map pX)):=gw (w:=2) (by decide) fun t ht=>(f_.1 ht).elim (iI A t) (AD _ t)
   have wp:=iP (br (A.map pN++(B.take r).map pX)) (eE (pX pb)) ow .full okA (by simp[eE,pX]) u9
   rw[<- jH,List.append_assoc,<- hma]at wp
   rw[show aI (eE (pX pb))=[[.int .i64 ((lo2 pb.2:Nat):Int)],[.int .i64 ((lo2 pb.1:Nat):Int)]] from rfl]at wp
   clear hma okA hpb
   generalize hAN:bh (br (A.map pN++(B.take (r+1)).map pX))=AN at *
   have HAN:=o_ hAN
   clear hAN
   generalize bh (br (A.map pN++(B.take r).map pX))=AO at *
   generalize lo2 pb.1=d1 at *
   generalize lo2 pb.2=d2 at *
   obtain⟨pb1,pb2⟩:=pb
   dsimp only at hxb b1 b2
   (repeat'(first|refine Ctl ?_|(with_reducible first|(refine k_ hK ?_;clear hK hE K E)|(refine k_ hKh ?_;clear hKh Kh)|(refine k_ hKb (aC ?_);clear hKb Kb)|refine ax 32 [([0,1,2,3,4,5,6,7,8,9,10,11,12,13],14,[[]])] [15] hQe fun K E hK hE=>?_)|((with_reducible refine ah (fun h=>?_) (fun h=>?_))<;>(try(exfalso;assumption)))|(((with_reducible first|refine ab fun K E hK hE=>?_|refine ae xL (wp) ?_|refine ay fun Kh hKh=>?_|refine aG fun Kh hKh=>?_|refine aB fun Kb hKb=>?_))<;>(try simp(disch:=omega) only[go_sem,seval,hBl,hxb,b1,b2, *]))))
   all_goals exact⟨f' - 1,by omega,r+1,.no,by omega,by omega,rfl,ac,ac,ac,(by(rw[HAN.out];((try simp(disch:=assumption) only[go_sem,seval, *])<;>rfl))),ac,ac⟩
  ·have hin2:r=B.length:=by omega
   rw[hin2,b_,show A.map pN++B.map pX=iV A B from rfl,HRA.out]at e26
   have hnl:¬ (r:Int)<(B.length:Int):=by omega
   have hsa:=HSA.out ow
   have hsr:=HSR.out ow2
   (repeat'(first|refine Ctl ?_|((with_reducible refine k_ hK ?_);clear hK hE K E)|((with_reducible refine ah (fun h=>?_) (fun h=>?_))<;>(try(exfalso;omega)))|(((with_reducible first|refine ab fun K E hK hE=>?_|refine ae oZ (hsa) ?_|refine ae oZ (hsr) ?_|refine ae yS (gg _) ?_))<;>(try simp(disch:=omega) only[go_sem,seval,hBl,hnl, *]))))
   all_goals(refine aq CX hQ ?_)
   all_goals exact⟨_,_,Wk.refl _,HLL.out.fg,rfl,rfl⟩
end Go.Proofs.YtohnaepcgnbaiaaGreatDoor
