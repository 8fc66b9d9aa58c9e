/- Walks of functions that the claim reaches, and plain facts of them. Conditions: those in the statements. -/
import Derived.Test.YtohnaepcgnbaiaaGreatDoorJkFlj
import Derived.Test.YtohnaepcgnbaiaaGreatDoorJkFj
set_option linter.unusedSimpArgs false
set_option linter.unusedVariables false
set_option maxRecDepth 100000
namespace Go.Proofs.YtohnaepcgnbaiaaGreatDoor
open Go.RowKit
attribute [-go_sem] bJ cX bH bG aT cU cT
theorem AS:bi [[121],[122],[120]]:=⟨by decide,by decide,by decide⟩
theorem mI (A B:List Par):∀t,t∈bZ A B->t.length=3/\∀v,v∈t->v<4:=fun _ h=>oq h
theorem tg (A B:List Par):(br (bZ A B)).length<=64:=jG (w:=3) (mI A B)
theorem jl (A:List Par):dL (br (A.map pN)):=gw (w:=2) (by decide) (iI A)
theorem A6 {A B:List Par}{n r:Nat}{p:Par}(hp:A[n]?=some p):∀t,t∈bZ (A.take n) B++eh p (B.take r)->t.length=3/\∀v,v∈t->v<4:=fun t h=>by
 rcases f_.1 h with h|h
 ·exact oq h
 ·refine oq (A:=[p]) (B:=B.take r) ?_
  simp only[bZ,List.flatMap_cons,List.flatMap_nil,List.append_nil]
  exact h
set_option maxHeartbeats 32000000 in
theorem Mz (s:St)(od:Int)(A B:List Par)(hA:A.length<=140737488355328)(hB:B.length<=140737488355328):SRet Tryz.prog 4 [.int .i64 od,.lst (cu A) .no,.lst (cu B) .no] s (.bool true) s:=by
 have hAl:=eL (T:=A)
 have hBl:=eL (T:=B)
 by_cases h20:(A.length:Int) > 20
 ·have wa:=gg s
  generalize cu A=PA at *
  generalize cu B=PB at *
  refine am Tryz.func4 rfl Tryz.ntmps4 rfl fun Q hQ hQe=>?_
  (repeat'(first|refine Ctl ?_|((with_reducible refine k_ hK ?_);clear hK hE K E)|((with_reducible refine ah (fun h=>?_) (fun h=>?_))<;>(try(exfalso;assumption)))|(((with_reducible first|refine ab fun K E hK hE=>?_|refine ae yS (wa) ?_))<;>(try simp(disch:=omega) only[go_sem,seval,hAl,h20, *]))))
  all_goals(refine aq CY hQ ?_)
  all_goals exact⟨_,_,Wk.refl _,Fg.refl _,rfl,rfl⟩
 by_cases h21:(B.length:Int) > 20
 ·have wa:=gg s
  generalize cu A=PA at *
  generalize cu B=PB at *
  refine am Tryz.func4 rfl Tryz.ntmps4 rfl fun Q hQ hQe=>?_
  (repeat'(first|refine Ctl ?_|((with_reducible refine k_ hK ?_);clear hK hE K E)|((with_reducible refine ah (fun h=>?_) (fun h=>?_))<;>(try(exfalso;assumption)))|(((with_reducible first|refine ab fun K E hK hE=>?_|refine ae yS (wa) ?_))<;>(try simp(disch:=omega) only[go_sem,seval,hAl,hBl,h20,h21, *]))))
  all_goals(refine aq CY hQ ?_)
  all_goals exact⟨_,_,Wk.refl _,Fg.refl _,rfl,rfl⟩
 have hA20:A.length<=20:=by omega
 have hB20:B.length<=20:=by omega
 obtain⟨i,hi3,wb⟩:=pj s od
 have w2:=fun(u:St) (K:OB) (x m q c:Nat) (ns:List Tr) (L:RLaw s u K x m q c ns i 2)=>GY L A B .no .no hA20 hB20 (N':=802) (by omega) (by omega)
 have W2:=o_ w2
 have HAT:=o_ (fun(j:Nat) (t:Par) (h:A[j]?=some t)=>fT h)
 have HBT:=o_ (fun(j:Nat) (t:Par) (h:B[j]?=some t)=>fT h)
 clear w2
 generalize cu A=PA at *
 generalize cu B=PB at *
 refine am Tryz.func4 rfl Tryz.ntmps4 rfl fun Q hQ hQe=>?_
 (repeat'(first|refine Ctl ?_|((with_reducible refine k_ hK ?_);clear hK hE K E)|((with_reducible refine ah (fun h=>?_) (fun h=>?_))<;>(try(exfalso;assumption)))|(((with_reducible refine ab fun K E hK hE=>?_))<;>(try simp(disch:=omega) only[go_sem,seval,hAl,hBl,h20,h21, *]))))
 refine ao L0 wb (fun a h=>?_)
 obtain⟨u0,K0,q,c,x⟩:=a
 have w:=W2.out _ _ _ _ _ _ _ (RLaw.of h hi3)
 dsimp only at w ⊢
 simp only[az,ak,dM,List.map_cons,List.map_nil,fc,fb,eZ,eY]at w
 clear h wb W2
 simp only[go_sem,seval]
 (repeat'(first|refine Ctl ?_|((with_reducible refine k_ hK ?_);clear hK hE K E)|((with_reducible refine ah (fun h=>?_) (fun h=>?_))<;>(try(exfalso;assumption)))|(((with_reducible refine ab fun K E hK hE=>?_))<;>(try simp(disch:=omega) only[go_sem,seval,hAl,hBl, *]))))
 refine ao PX w (fun a h=>?_)
 obtain⟨⟨u1,K1,m1,ns1,kp,kq⟩,fp,fq⟩:=a
 have L1:=h.L
 have T1:=h.T1
 have T2:=h.T2
 have np:=h.n1
 have nq:=h.n2
 dsimp only at L1 T1 T2 np nq ⊢
 have HP:=o_ T1
 have HQ:=o_ T2
 clear h w T1 T2
 simp only[go_sem,seval]
 (repeat'(first|refine Ctl ?_|((with_reducible refine k_ hK ?_);clear hK hE K E)|((with_reducible refine ah (fun h=>?_) (fun h=>?_))<;>(try(exfalso;assumption)))|((first|(with_reducible refine ab fun K E hK hE=>?_)|((with_reducible refine au (fun b hb=>?_));(repeat(obtain⟨_,hb⟩:=hb))))<;>(try simp(disch:=first|assumption|omega) only[go_sem,seval, *]))))
 rename_i b9 hb9 _ _
 obtain⟨b10,hb10e⟩:∃z,z=b:=⟨_,rfl⟩
 subst hb10e
 obtain⟨v1,hv1⟩:∃z,z=(u1.set b9 (.obj 30 (rv2 [120] [121] 0 1 kp))).set b10 (.obj 30 (rv2 [121] [122] 2 0 kq)):=⟨_,rfl⟩
 rw[<- hv1]
 have hbb:u1 b10=.free:=hb
 have gv1:∀z,u1 z≠.free->v1 z=u1 z:=fun z hz=>by rw[hv1,j_ _ _ (nef hbb hz).1,j_ _ _ (nef hb9 hz).1]
 have k9:v1 b9=.obj 30 (rv2 [120] [121] 0 1 kp):=by rw[hv1,j_ _ _ (by assumption),q_]
 have k10:v1 b10=.obj 30 (rv2 [121] [122] 2 0 kq):=by rw[hv1,q_]
 simp only[rv2]at k9 k10
 clear hv1 hbb hb hb9
 have w:=(L1.more gv1).join HP.out np .no .no ee rfl (by decide) (by decide) (by decide) HQ.out nq .no .no qn rfl (by decide) (by decide) (by decide) (jq:=⟨[0,1,2,0,3],[1,3],[0,1,3],[[120],[121],[122]]⟩) (S':=(·∈bZ A B)) (N':=962) rfl kZ rfl (by decide) (by decide) (by decide) (by decide) rfl (by decide) (by decide) (fun G hG=>qt HP.out hG) (by decide) (by decide)
 simp only[az,ak,dM,List.map_cons,List.map_nil,fc,fb,eZ,eY]at w
 refine ao xM w (fun a h=>?_)
 obtain⟨⟨u2,K2,m2,ns2,k_2⟩,f2⟩:=a
 have L2:=h.L
 have T2:=h.T
 have nj:=h.nd
 have np:=np.app h.pre
 have nq:=nq.app h.pre
 have k9:=h.own b9 _ k9
 have k10:=h.own b10 _ k10
 dsimp only at L2 T2 nj np nq k9 k10 ⊢
 have hlb9:u2 b9≠.free:=by rw[k9];simp
 have hlb10:u2 b10≠.free:=by rw[k10];simp
 have HJ:=o_ T2
 clear h w T2 L1 gv1
 simp only[go_sem,seval]
 (repeat'(first|refine Ctl ?_|((with_reducible refine k_ hK ?_);clear hK hE K E)|((first|(with_reducible refine ab fun K E hK hE=>?_)|((with_reducible refine au (fun b hb=>?_));(try(obtain⟨_,_⟩:=nef hb hlb9;obtain⟨_,_⟩:=nef hb hlb10))))<;>(try simp(disch:=omega) only[go_sem,seval, *]))))
 obtain⟨b12,hb12⟩:∃z,z=b:=⟨_,rfl⟩
 subst hb12
 have fb12:u2 b12=.free:=hb
 obtain⟨v2,huv2⟩:∃z,z=u2.set b12 (.obj 30 (rv3 [120] [121] [122] 0 1 3 k_2)):=⟨_,rfl⟩
 rw[<- huv2]
 have gv2:∀z,u2 z≠.free->v2 z=u2 z:=fun z hz=>by rw[huv2,j_ _ _ (nef fb12 hz).1]
 have kb12:v2 b12=.obj 30 (rv3 [120] [121] [122] 0 1 3 k_2):=by rw[huv2,q_]
 try simp only[rv2]at kb12
 try simp only[rv3]at kb12
 clear huv2 hb
 have k9:=(gv2 b9 hlb9).trans k9
 have k10:=(gv2 b10 hlb10).trans k10
 have hb12s:=L2.free fb12
 have w:=(L2.more gv2).join HQ.out nq .no .no qn rfl (by decide) (by decide) (by decide) HP.out np .no .no ee rfl (by decide) (by decide) (by decide) (jq:=⟨[2,0,0,1,3],[3,2],[2,0,3],[[121],[122],[120]]⟩) (S':=fun r=>∃x y z,r=[y,z,x]/\[x,y,z]∈bZ A B) (N':=1122) rfl AS rfl (by decide) (by decide) (by decide) (by decide) rfl (by decide) (by decide) (fun G hG=>(vf HQ.out hG).rot) (by decide) (by decide)
 simp only[az,ak,dM,List.map_cons,List.map_nil,fc,fb,eZ,eY]at w
 refine ao xM w (fun a h=>?_)
 obtain⟨⟨u3,K3,m3,ns3,k_3⟩,f3⟩:=a
 have L3:=h.L
 have T3:=h.T
 have nk:=h.nd
 have np:=np.app h.pre
 have nq:=nq.app h.pre
 have nj:=nj.app h.pre
 have k9:=h.own b9 _ k9
 have k10:=h.own b10 _ k10
 have kb12:=h.own b12 _ kb12
 dsimp only at L3 T3 nk np nq nj k9 k10 kb12 ⊢
 have hlb9:u3 b9≠.free:=by rw[k9];simp
 have hlb10:u3 b10≠.free:=by rw[k10];simp
 have hlb12:u3 b12≠.free:=by rw[kb12];simp
 have HK:=o_ T3
 clear h w T3 L2 gv2
 simp only[go_sem,seval]
 (repeat'(first|refine Ctl ?_|((with_reducible refine k_ hK ?_);clear hK hE K E)|((first|(with_reducible refine ab fun K E hK hE=>?_)|((with_reducible refine au (fun b hb=>?_));(try(obtain⟨_,_⟩:=nef hb hlb9;obtain⟨_,_⟩:=nef hb hlb10;obtain⟨_,_⟩:=nef hb hlb12))))<;>(try simp(disch:=omega) only[go_sem,seval, *]))))
 obtain⟨b14,hb14⟩:∃z,z=b:=⟨_,rfl⟩
 subst hb14
 have fb14:u3 b14=.free:=hb
 obtain⟨v3,huv3⟩:∃z,z=u3.set b14 (.obj 30 (rv3 [121] [122] [120] 2 0 3 k_3)):=⟨_,rfl⟩
 rw[<- huv3]
 have gv3:∀z,u3 z≠.free->v3 z=u3 z:=fun z hz=>by rw[huv3,j_ _ _ (nef fb14 hz).1]
 have kb14:v3 b14=.obj 30 (rv3 [121] [122] [120] 2 0 3 k_3):=by rw[huv3,q_]
 try simp only[rv2]at kb14
 try simp only[rv3]at kb14
 clear huv3 hb
 have k9:=(gv3 b9 hlb9).trans k9
 have k10:=(gv3 b10 hlb10).trans k10
 have kb12:=(gv3 b12 hlb12).trans kb12
 have hb14s:=L3.free fb14
 have w:=(L3.more gv3).keep HK.out nk .no .no AS rfl (by decide) (by decide) (by decide) .full kZ (by decide) (by decide) (D':=[3,2,0]) (K':=[]) (S':=(·∈bZ A B)) (N':=1886) rfl rfl (by rw[xv];exact HK.out.unrot) (by decide) (by decide)
 simp only[az,ak,dM,List.map_cons,List.map_nil,fc,fb,eZ,eY]at w
 refine ao GX w (fun a h=>?_)
 obtain⟨⟨u4,K4,m4,ns4,k_4⟩,f4⟩:=a
 have L4:=h.L
 have T4:=h.T
 have nk:=h.nd
 have np:=np.app h.pre
 have nj:=nj.app h.pre
 have k9:=h.own b9 _ k9
 have kb12:=h.own b12 _ kb12
 have kb14:=h.own b14 _ kb14
 dsimp only at L4 T4 nk np nj k9 kb12 kb14 ⊢
 have HK4:=o_ T4
 have n9:¬ b9=b14:=(by assumption)
 have n12:¬ b12=b14:=(by assumption)
 clear h w T4 L3 gv3
 simp only[go_sem,seval,kb14]
 (repeat'(first|refine Ctl ?_|((with_reducible refine k_ hK ?_);clear hK hE K E)|(((with_reducible refine ab fun K E hK hE=>?_))<;>(try simp(disch:=omega) only[go_sem,seval, *]))))
 obtain⟨v4,hv4⟩:∃z,z=u4.set b14 (.obj 30 (rv3 [120] [121] [122] 3 2 0 k_4)):=⟨_,rfl⟩
 rw[<- hv4]
 have L5:RLaw s v4 K4 x m4 q c ns4 i 1886:=L4.fin fun z hz=>by
  by_cases e:z=b14
  ·subst e;exact .inr ⟨⟨_,kb14⟩,hb14s⟩
  ·exact .inl (by rw[hv4,j_ _ _ e])
 have k9:=(show v4 b9=u4 b9 from by rw[hv4,j_ _ _ n9]).trans k9
 have kb12:=(show v4 b12=u4 b12 from by rw[hv4,j_ _ _ n12]).trans kb12
 have kb14:v4 b14=.obj 30 (rv3 [120] [121] [122] 3 2 0 k_4):=by rw[hv4,q_]
 simp only[rv3]at kb14
 clear hv4 L4
 have w:=L5.tuples HJ.out nj .no .no kZ rfl (by decide) (by decide) (mI A B) (most:=64) (N':=2138) (by decide) (tg A B) (by decide) (by decide)
 simp only[az,ak,dM,List.map_cons,List.map_nil,fc,fb,eZ,eY]at w
 refine ao lW w (fun a h=>?_)
 obtain⟨u5,K5,m5,ns5⟩:=a
 obtain⟨L5,hpre,hown⟩:=h
 have np:=np.app hpre
 have nk:=nk.app hpre
 have k9:=hown b9 _ k9
 have kb14:=hown b14 _ kb14
 dsimp only at L5 np nk k9 kb14 ⊢
 clear w hpre hown kb12
 simp only[go_sem,seval]
 (repeat'(first|refine Ctl ?_|((with_reducible refine k_ hK ?_);clear hK hE K E)|(((with_reducible refine ab fun K E hK hE=>?_))<;>(try simp(disch:=omega) only[go_sem,seval, *]))))
 have w:=L5.tuples HK4.out nk .no .no kZ rfl (by decide) (by decide) (mI A B) (most:=64) (N':=2390) (by decide) (tg A B) (by decide) (by decide)
 simp only[az,ak,dM,List.map_cons,List.map_nil,fc,fb,eZ,eY]at w
 refine ao lW w (fun a h=>?_)
 obtain⟨u6,K6,m6,ns6⟩:=a
 obtain⟨L6,hpre,hown⟩:=h
 have np:=np.app hpre
 have k9:=hown b9 _ k9
 dsimp only at L6 np k9 ⊢
 clear w hpre hown kb14 HK4 HJ HK
 have hjr:dL (br (bZ A B)):=gw (w:=3) (by decide) (mI A B)
 have hs:=fun(u:St) (o2:Own)=>eT (br (bZ A B)) (br (bZ A B)) .no o2 hjr hjr u
 rw[decide_eq_true rfl]at hs
 have HSJ:=o_ hs
 have hs1:=hs u6 .no
 have hs2:=fun(u:St)=>eT (br (A.map pN)) (br (A.map pN)) .no .no (jl A) (jl A) u
 rw[decide_eq_true rfl]at hs2
 have HSP:=o_ hs2
 clear hs hs2 hjr HQ
 simp only[go_sem,seval]
 (repeat'(first|refine Ctl ?_|((with_reducible refine k_ hK ?_);clear hK hE K E)|((with_reducible refine ah (fun h=>?_) (fun h=>?_))<;>(try(exfalso;assumption)))|(((with_reducible first|refine ab fun K E hK hE=>?_|refine ae oZ (hs1) ?_))<;>(try simp(disch:=omega) only[go_sem,seval, *]))))
 clear hs1
 have HRJ:=o_ (show bh (br (bZ A B))=bh (br (bZ A B)) from rfl)
 generalize hRJ:bh (br (bZ A B))=RJ at *
 have HRJ2:=o_ hRJ
 clear hRJ HRJ
 refine aY (fun f env s'=>∃(n:Nat) (ow:Own),n<=A.length/\f+n=A.length/\u6=s'/\env 1=.lst PA .no/\env 2=.lst PB .no/\env 7=.ptr x 0/\env 9=.ptr b9 0/\env 17=.lst RJ .no/\env 21=.lst (bh (br (bZ (A.take n) B))) ow/\env 22=.int .i64 (n:Int)) A.length
  ⟨0,.full,by omega,by omega,rfl,ac,ac,ac,ac,ac,(by(rw[show bh (br (bZ (A.take 0) B))=[] from rfl];((try simp(disch:=assumption) only[go_sem,seval, *])<;>rfl))),ac⟩ ?_
 rintro f env s' ⟨n,ow,hn,hfn,rfl,e1,e2,e7,e9,e17,e21,e22⟩
 by_cases hlt:n<A.length
 ·obtain⟨pa,hpa⟩:∃p,A[n]?=some p:=⟨_,m_ hlt⟩
  have hxa:=HAT.out n pa hpa
  have hjt:=yB (B:=B) hpa
  have HJT:=o_ hjt
  have HPA:=o_ hpa
  have HST:=o_ (show bZ (A.take n) B=bZ (A.take n) B++eh pa (B.take 0) by simp[eh])
  clear hjt hpa
  (repeat'(first|refine Ctl ?_|((with_reducible refine k_ hK ?_);clear hK hE K E)|((with_reducible refine ah (fun h=>?_) (fun h=>?_))<;>(try(exfalso;assumption)))|(((with_reducible refine ab fun K E hK hE=>?_))<;>(try simp(disch:=omega) only[go_sem,seval,hAl,hBl, *]))))
  refine aY (fun f env s'=>∃(r:Nat) (ow:Own),r<=B.length/\f+r=B.length/\u6=s'/\env 1=.lst PA .no/\env 2=.lst PB .no/\env 7=.ptr x 0/\env 9=.ptr b9 0/\env 17=.lst RJ .no/\env 21=.lst (bh (br (bZ (A.take n) B++eh pa (B.take r)))) ow/\env 22=.int .i64 (n:Int)/\env 23=.int .i64 (r:Int)) B.length
   ⟨0,ow,by omega,by omega,rfl,ac,ac,ac,ac,ac,(by(rw[<- HST.out];((try simp(disch:=assumption) only[go_sem,seval, *])<;>rfl))),ac,ac⟩ ?_
  clear e1 e2 e7 e9 e17 e21 e22
  rintro f' env s' ⟨r,ow,hr,hfr,rfl,e1,e2,e7,e9,e17,e21,e22,e23⟩
  by_cases hlt2:r<B.length
  ·obtain⟨pb,hpb⟩:∃p,B[r]?=some p:=⟨_,m_ hlt2⟩
   have hxb:=HBT.out r pb hpb
   have hji:=yC (p:=pa) hpb
   have ok:=gw (w:=3) (by decide) (A6 (B:=B) (r:=r) HPA.out)
   have a1:=fA pa.1
   have a2:=fA pa.2
   have a3:=fA pb.1
   have a4:=fA pb.2
   by_cases heq:lo2 pa.2=lo2 pb.1
   ·have wp:=iP (br (bZ (A.take n) B++eh pa (B.take r))) (eE [lo2 pa.1,lo2 pa.2,lo2 pb.2]) ow .full ok (by simp[eE]) u6
    have hj1:lR pa pb=some [lo2 pa.1,lo2 pa.2,lo2 pb.2]:=by unfold lR;rw[if_pos heq]
    rw[hj1]at hji
    have hnew:putRow (br (bZ (A.take n) B++eh pa (B.take r))) (eE [lo2 pa.1,lo2 pa.2,lo2 pb.2])=br (bZ (A.take n) B++eh pa (B.take (r+1))):=by rw[hji,Option.toList,<- List.append_assoc,jH]
    rw[hnew]at wp
    rw[show aI (eE [lo2 pa.1,lo2 pa.2,lo2 pb.2])=[[.int .i64 ((lo2 pa.1:Nat):Int)],[.int .i64 ((lo2 pa.2:Nat):Int)],[.int .i64 ((lo2 pb.2:Nat):Int)]] from rfl]at wp
    rw[<- heq]at a3
    clear hji hj1 hnew ok heq hpb
    generalize hRN:bh (br (bZ (A.take n) B++eh pa (B.take (r+1))))=RN at *
    have HRN:=o_ hRN
    clear hRN
    generalize bh (br (bZ (A.take n) B++eh pa (B.take r)))=RO at *
    generalize lo2 pa.1=c1 at *
    generalize lo2 pa.2=c2 at *
    generalize lo2 pb.2=c4 at *
    obtain⟨pa1,pa2⟩:=pa
    obtain⟨pb1,pb2⟩:=pb
    dsimp only at hxa hxb a1 a2 a3 a4
    (repeat'(first|refine Ctl ?_|(with_reducible first|(refine k_ hK ?_;clear hK hE K E)|(refine k_ hKh ?_;clear hKh Kh)|(refine k_ hKb (aC ?_);clear hKb Kb)|refine ax 23 [] [0,1,2,3,4,5,6,7,8,9,10,11,12] hQe fun K E hK hE=>?_|refine ax 24 [([0,1,2,3,4,5,6,7,8,9,10,11,12,13,14,15,16,17,18,19],20,[[]])] [21] hQe fun K E hK hE=>?_)|((with_reducible refine ah (fun h=>?_) (fun h=>?_))<;>(try(exfalso;assumption)))|(((with_reducible first|refine ab fun K E hK hE=>?_|refine ae xL (wp) ?_|refine ay fun Kh hKh=>?_|refine aG fun Kh hKh=>?_|refine aB fun Kb hKb=>?_))<;>(try simp(disch:=omega) only[go_sem,seval,hBl,hxa,hxb,a1,a2,a3,a4, *]))))
    all_goals exact⟨f' - 1,by omega,r+1,.no,by omega,by omega,rfl,ac,ac,ac,ac,ac,(by(rw[HRN.out];((try simp(disch:=assumption) only[go_sem,seval, *])<;>rfl))),ac,ac⟩
   ·have hj1:lR pa pb=none:=by unfold lR;rw[if_neg heq]
    rw[hj1]at hji
    have hnew:eh pa (B.take (r+1))=eh pa (B.take r):=by rw[hji];simp
    have HNEW:=o_ hnew
    have hne:¬ ((lo2 pa.2:Nat):Int)=((lo2 pb.1:Nat):Int):=by omega
    clear hji hj1 hnew ok heq hpb a1 a4
    generalize lo2 pa.2=c2 at *
    generalize lo2 pb.1=c3 at *
    obtain⟨pa1,pa2⟩:=pa
    obtain⟨pb1,pb2⟩:=pb
    dsimp only at hxa hxb a2 a3
    (repeat'(first|refine Ctl ?_|(with_reducible first|(refine k_ hK ?_;clear hK hE K E)|(refine k_ hKh ?_;clear hKh Kh)|refine ax 23 [] [0,1,2,3,4,5,6,7,8,9,10,11,12] hQe fun K E hK hE=>?_)|((with_reducible refine ah (fun h=>?_) (fun h=>?_))<;>(try(exfalso;assumption)))|(((with_reducible first|refine ab fun K E hK hE=>?_|refine aG fun Kh hKh=>?_))<;>(try simp(disch:=omega) only[go_sem,seval,hBl,hxa,hxb,a2,a3,hne, *]))))
    all_goals exact⟨f' - 1,by omega,r+1,ow,by omega,by omega,rfl,ac,ac,ac,ac,ac,(by(rw[HNEW.out];((try simp(disch:=assumption) only[go_sem,seval, *])<;>rfl))),ac,ac⟩
  ·have hin:r=B.length:=by omega
   rw[hin,b_,<- HJT.out]at e21
   have hnl:¬ (r:Int)<(B.length:Int):=by omega
   (repeat'(first|refine Ctl ?_|((with_reducible refine k_ hK ?_);clear hK hE K E)|((with_reducible refine ah (fun h=>?_) (fun h=>?_))<;>(try(exfalso;omega)))|(((with_reducible refine ab fun K E hK hE=>?_))<;>(try simp(disch:=omega) only[go_sem,seval,hBl,hnl, *]))))
   all_goals exact⟨f - 1,by omega,n+1,ow,by omega,by omega,rfl,ac,ac,ac,ac,ac,ac,ac⟩
 ·have hin:n=A.length:=by omega
  rw[hin,b_,HRJ2.out]at e21
  have hnl:¬ (n:Int)<(A.length:Int):=by omega
  (repeat'(first|refine Ctl ?_|((with_reducible refine k_ hK ?_);clear hK hE K E)|((with_reducible refine ah (fun h=>?_) (fun h=>?_))<;>(try(exfalso;omega)))|(((with_reducible refine ab fun K E hK hE=>?_))<;>(try simp(disch:=omega) only[go_sem,seval,hAl,hnl, *]))))
  have w:=L6.join HP.out np .no .no ee rfl (by decide) (by decide) (by decide) HP.out np .no .no ee rfl (by decide) (by decide) (by decide) (jq:=⟨[0,1,0,1],[0,1],[0,1],[[120],[121]]⟩) (S':=(·∈A.map pN)) (N':=2502) rfl ee rfl (by decide) (by decide) (by decide) (by decide) rfl (by decide) (by decide) (fun G hG=>(HP.out.and hG).iff fun r=>and_self_iff) (by decide) (by decide)
  simp only[az,ak,dM,List.map_cons,List.map_nil,fc,fb,eZ,eY]at w
  refine ao xM w (fun a h=>?_)
  obtain⟨⟨u7,K7,m7,ns7,k_7⟩,f7⟩:=a
  have L7:=h.L
  have T7:=h.T
  have nx:=h.nd
  have np:=np.app h.pre
  have k9:=h.own b9 _ k9
  dsimp only at L7 T7 nx np k9 ⊢
  have hlb9:u7 b9≠.free:=by rw[k9];simp
  have HX:=o_ T7
  clear h w T7 L6
  simp only[go_sem,seval]
  (repeat'(first|refine Ctl ?_|((with_reducible refine k_ hK ?_);clear hK hE K E)|((first|(with_reducible refine ab fun K E hK hE=>?_)|((with_reducible refine au (fun b hb=>?_));(try(obtain⟨_,_⟩:=nef hb hlb9))))<;>(try simp(disch:=omega) only[go_sem,seval, *]))))
  obtain⟨b24,hb24⟩:∃z,z=b:=⟨_,rfl⟩
  subst hb24
  have fb24:u7 b24=.free:=hb
  obtain⟨v7,huv7⟩:∃z,z=u7.set b24 (.obj 30 (rv2 [120] [121] 0 1 k_7)):=⟨_,rfl⟩
  rw[<- huv7]
  have gv7:∀z,u7 z≠.free->v7 z=u7 z:=fun z hz=>by rw[huv7,j_ _ _ (nef fb24 hz).1]
  have kb24:v7 b24=.obj 30 (rv2 [120] [121] 0 1 k_7):=by rw[huv7,q_]
  try simp only[rv2]at kb24
  try simp only[rv3]at kb24
  clear huv7 hb
  have k9:=(gv7 b9 hlb9).trans k9
  have hb24s:=L7.free fb24
  have w:=(L7.more gv7).tuples HX.out nx .no .no ee rfl (by decide) (by decide) (iI A) (most:=64) (N':=2574) (by decide) (Nat.le_trans (xb sP) (by decide)) (by decide) (by decide)
  simp only[az,ak,dM,List.map_cons,List.map_nil,fc,fb,eZ,eY]at w
  refine ao lW w (fun a h=>?_)
  obtain⟨u8,K8,m8,ns8⟩:=a
  obtain⟨L8,hpre,hown⟩:=h
  have np:=np.app hpre
  have k9:=hown b9 _ k9
  dsimp only at L8 np k9 ⊢
  clear w hpre hown kb24
  simp only[go_sem,seval]
  (repeat'(first|refine Ctl ?_|((with_reducible refine k_ hK ?_);clear hK hE K E)|(((with_reducible refine ab fun K E hK hE=>?_))<;>(try simp(disch:=omega) only[go_sem,seval, *]))))
  have w:=L8.tuples HP.out np .no .no ee rfl (by decide) (by decide) (iI A) (most:=64) (N':=2646) (by decide) (Nat.le_trans (xb sP) (by decide)) (by decide) (by decide)
  simp only[az,ak,dM,List.map_cons,List.map_nil,fc,fb,eZ,eY]at w
  refine ao lW w (fun a h=>?_)
  obtain⟨u9,K9,m9,ns9⟩:=a
  obtain⟨L9,hpre,hown⟩:=h
  have k9:=hown b9 _ k9
  dsimp only at L9  k9 ⊢
  clear w hpre hown np HX
  have hsj:=HSJ.out u9 ow
  have hsp:=HSP.out u9
  have HLL:=o_ L9
  clear L9 HP
  generalize bh (br (A.map pN))=RP at *
  simp only[go_sem,seval]
  (repeat'(first|refine Ctl ?_|((with_reducible refine k_ hK ?_);clear hK hE K E)|(((with_reducible first|refine ab fun K E hK hE=>?_|refine ae oZ (hsj) ?_|refine ae oZ (hsp) ?_|refine ae yS (gg _) ?_))<;>(try simp(disch:=omega) only[go_sem,seval, *]))))
  all_goals(refine aq CY hQ ?_)
  all_goals exact⟨_,_,Wk.refl _,HLL.out.fg,rfl,rfl⟩
end Go.Proofs.YtohnaepcgnbaiaaGreatDoor
