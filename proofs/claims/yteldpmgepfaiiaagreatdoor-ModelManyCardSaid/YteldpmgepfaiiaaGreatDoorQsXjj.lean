/- Walks of functions, and plain facts. Conditions: those in the statements. -/
import Derived.Test.YteldpmgepfaiiaaGreatDoorQsXfj
set_option linter.unusedSimpArgs false
set_option linter.unusedVariables false
set_option maxRecDepth 100000
namespace Go.Proofs.YteldpmgepfaiiaaGreatDoor
open Go.RowKit
theorem Cz (t:St)(p b1 b2:Nat)(x:Pgm)(r:Rul)(hp:PrAt t p b1 b2 x)(hb:r.head.ts.length<=8/\r.body.length<=8/\∀a,a∈r.body->a.ts.length<=8)(Y:Scp)(h:bJ x r=.ok Y) :
  SCalls Tryz.prog 78 [.ptr p 0,.agg (ax r)] t fun w u=>∃q:Nat×Nat×St,w=.ret (.tup [.ptr q.1 0,.int .i64 0])/\u=q.2.2/\Fg q.2.2 t/\q.2.2 q.1=.pk 147 [.lst (aA Y.vs) .no,.lst (aA Y.ds) .no,.mp q.2.1] qM:=by
 have:=oY t p b1 b2 x r hp (by omega) (by omega) (fun a ha=>Nat.le_trans (hb.2.2 a ha) (by omega))
 rw[h]at this
 exact this.mono fun w u ⟨xb,bm,h1,h2,h3⟩=>⟨(xb,bm,u),h1,rfl,h2,h3⟩
set_option maxHeartbeats 4000000 in
theorem Ez (x:Pgm)(k:Int)(hx:PgmOk x)(t:St):SRet Tryz.prog 46 [.agg (pgC x),.int .i64 k] t (zV (varsP x k)) t:=by
 have w1:=fun s=>xY x hx s
 have hlr:(x.rules.map ax).length=x.rules.length:=by simp
 have hrl:=hx.2.2.1
 by_cases he:(soundP x).2.1=0
 ·obtain⟨l,hs,hr,hb,hst⟩:=eq he
  obtain⟨hdl,hrl,hbd⟩:=ij (dL hr)
  rw[hs]at w1
  have w2:∀s,SCalls Tryz.prog 57 [.agg (pgC x)] s fun w u=>∃q:St×Nat×Nat×Nat,w=.ret (.tup [.ptr q.2.1 0,.lst (aB (List.map (fun n:Nat=>(n:Int)) l)) .no,.int .i64 (-1),.int .i64 0])/\u=q.1/\Fg q.1 s/\PrAt q.1 q.2.1 q.2.2.1 q.2.2.2 x:=fun s=>
   (w1 s).mono fun w u ⟨P,h1,h2,h3⟩=>by
    obtain⟨p,b1,b2,rfl,h4⟩:=h3 rfl
    exact⟨(u,p,b1,b2),h1,rfl,h2,h4⟩
  clear w1
  by_cases hk0:k<0
  ·have hv:varsP x k=(⟨[],[]⟩,1):=by unfold varsP;rw[if_neg (by simp[he]),if_pos hk0]
   rw[hv]
   simp only[pgC]at w2 ⊢
   clear hst hs hr hb hbd he hv
   refine aw Tryz.func46 rfl Tryz.ntmps46 rfl fun Q hQ hQe=>?_
   (repeat'(first|refine Ctl ?_|((with_reducible refine j_ hK ?_);clear hK hE K E)|((with_reducible refine aj (fun h=>?_) (fun h=>?_))<;>(try(exfalso;assumption)))|((first|(with_reducible refine ae fun K E hK hE=>?_)|((with_reducible refine aO tU (w2 _) (fun a h=>?_));(obtain⟨hfa,hpa⟩:=h;try(have hab:=hfa.keep (b:=b) (by rw[q_];simp);rw[q_]at hab)))|((with_reducible refine ao (fun b hb=>?_))))<;>(try simp(disch:=omega) only[go_sem,seval,hlr, *]))))
   all_goals(refine ap sU hQ ?_)
   all_goals exact⟨_,t,mH (q:=(⟨[],[]⟩,1)),hfa.trans (v_ _ hb),rfl,rfl⟩
  ·obtain⟨n,rfl⟩:∃n:Nat,k=n:=⟨k.toNat,by omega⟩
   by_cases hkn:n<x.rules.length
   ·obtain⟨r,hrj⟩:=aN hkn
    have hsx:=fc hrj
    obtain⟨Y,hY⟩:=fo _ _ hb r (p_ hrj)
    have hbr:=hbd r (p_ hrj)
    have w3:=fun s p b1 b2 (hp:PrAt s p b1 b2 x)=>Cz s p b1 b2 x r hp hbr Y hY
    have hv:varsP x n=(Y,0):=by unfold varsP;rw[if_neg (by simp[he]),if_neg hk0,Int.toNat_natCast,hrj];simp only[hY]
    rw[hv]
    simp only[pgC,ax]at w2 w3 ⊢
    clear hst hs hr hb hbd he hv hrj hY hbr
    have hkI:¬ ((x.rules.length:Int)<=(n:Int)):=by omega
    refine aw Tryz.func46 rfl Tryz.ntmps46 rfl fun Q hQ hQe=>?_
    (repeat'(first|refine Ctl ?_|(with_reducible first|(refine j_ hK ?_;clear hK hE K E)|(refine j_ hKh ?_;clear hKh Kh)|refine aq 7 [] [0,1,2,3,4,5,6,7,8,9,10] hQe fun K E hK hE=>?_)|((with_reducible refine aj (fun h=>?_) (fun h=>?_))<;>(try(exfalso;assumption)))|((first|(with_reducible first|refine ae fun K E hK hE=>?_|refine aD fun Kh hKh=>?_)|((with_reducible refine aO tU (w2 _) (fun a h=>?_));(obtain⟨hfa,hpa⟩:=h;try(have hab:=hfa.keep (b:=b) (by rw[q_];simp);rw[q_]at hab)))|((with_reducible refine aO BS (w3 _ _ _ _ (‹_›)) (fun a h=>?_));(obtain⟨hfa,hpa⟩:=h;try(have hab:=hfa.keep (b:=b) (by rw[q_];simp);rw[q_]at hab)))|((with_reducible refine ao (fun b hb=>?_))))<;>(try simp(disch:=omega) only[go_sem,seval,hlr,hsx,ax, *]))))
    all_goals(refine ap sU hQ ?_)
    all_goals exact⟨_,t,mH (q:=(Y,0)),Fg.trans hfa (Fg.trans (‹_›) (v_ _ hb)),rfl,rfl⟩
   ·have hv:varsP x n=(⟨[],[]⟩,1):=by unfold varsP;rw[if_neg (by simp[he]),if_neg hk0,Int.toNat_natCast,C_ (by omega)]
    rw[hv]
    simp only[pgC]at w2 ⊢
    clear hst hs hr hb hbd he hv
    have hkI:((x.rules.length:Int)<=(n:Int)):=by omega
    refine aw Tryz.func46 rfl Tryz.ntmps46 rfl fun Q hQ hQe=>?_
    (repeat'(first|refine Ctl ?_|((with_reducible refine j_ hK ?_);clear hK hE K E)|((with_reducible refine aj (fun h=>?_) (fun h=>?_))<;>(try(exfalso;assumption)))|((first|(with_reducible refine ae fun K E hK hE=>?_)|((with_reducible refine aO tU (w2 _) (fun a h=>?_));(obtain⟨hfa,hpa⟩:=h;try(have hab:=hfa.keep (b:=b) (by rw[q_];simp);rw[q_]at hab)))|((with_reducible refine ao (fun b hb=>?_))))<;>(try simp(disch:=omega) only[go_sem,seval,hlr, *]))))
    all_goals(refine ap sU hQ ?_)
    all_goals exact⟨_,t,mH (q:=(⟨[],[]⟩,1)),hfa.trans (v_ _ hb),rfl,rfl⟩
 ·have hv:varsP x k=(⟨[],[]⟩,(soundP x).2.1):=by unfold varsP;rw[if_pos he]
  rw[hv]
  have w2:=fun s=>CG x hx s
  clear hv w1
  generalize soundP x=Z at *
  obtain⟨z1,z2,z3⟩:=Z
  simp only at he w2 ⊢
  have hef:(z2=0)=False:=eq_false he
  simp only[pgC]at w2 ⊢
  refine aw Tryz.func46 rfl Tryz.ntmps46 rfl fun Q hQ hQe=>?_
  (repeat'(first|refine Ctl ?_|((with_reducible refine j_ hK ?_);clear hK hE K E)|((with_reducible refine aj (fun h=>?_) (fun h=>?_))<;>(try(exfalso;assumption)))|((first|(with_reducible refine ae fun K E hK hE=>?_)|((with_reducible refine aO tU (w2 _) (fun a h=>?_)))|((with_reducible refine ao (fun b hb=>?_))))<;>(try simp(disch:=omega) only[go_sem,seval,hlr, *]))))
  all_goals(refine ap sU hQ ?_)
  all_goals exact⟨_,t,mH (q:=(⟨[],[]⟩,z2)),bC,rfl,rfl⟩
attribute [local go_sem] aH aV cH
noncomputable def varsL (x:Pgm)(i:Nat):List (List (List UInt8)):=(List.range i).map fun(k:Nat)=>(varsP x (k:Int)).1.vs
theorem fU {T:St}{o:Own}{b:Nat}{c:Cell}{e:TypeId}{sz n:Nat}(h:ay o b):(T.set b c).own o e sz n=(T.own o e sz n).set b c:=by
 cases o with
 |at_ q=>
  have hq:q≠b:=by intro hq;subst hq;simp[ay]at h
  exact cJ (Ne.symm hq)
 |_=>rfl
theorem TbsAt.new {T:St}{X:List Tab}(h:TbsAt T X){m b:Nat}(hm:T m=.free)(hb:T b=.free)(hne:¬ b=m) :
  TbsAt ((T.set m (.map [])).set b (.obj 81 [.raw (.slice none 0 0),.mp m])) (X++[⟨b,m,0,[]⟩]):=by
 have hx:∀y,y∈X->∀z,y.F z->z≠m/\z≠b:=fun y hy z hz=>by
  have hl:=TabAt.live (h.at_ y hy) hz
  exact⟨by rintro rfl;exact hl hm,by rintro rfl;exact hl hb⟩
 constructor
 ·intro y hy
  rcases l_.1 hy with hy|hy
  ·refine TabAt.keep (h.at_ y hy) fun z hz=>?_
   rw[k_ _ _ (hx y hy z hz).2,k_ _ _ (hx y hy z hz).1]
  ·rw[e_]at hy
   subst hy
   exact⟨q_ _ _ _,by rw[k_ _ _ (fun e=>hne e.symm),q_];rfl,fun h=>absurd rfl h,(fun x hx=>by cases hx),by simp⟩
 ·rw[List.pairwise_append]
  refine⟨h.dis,by simp,?_⟩
  intro x hxm y hy z hz
  rw[e_]at hy
  subst hy
  rintro(e|e|⟨e,_⟩)
  ·exact(hx x hxm z hz).2 e
  ·exact(hx x hxm z hz).1 e
  ·exact e rfl
set_option maxHeartbeats 8000000 in
theorem EL (x:Pgm)(hx:PgmOk x)(hs:x.decls.length<=100000/\x.rules.length<=100000)(h1:(x.doms.map (·.name)).Nodup)(h2:(x.decls.map (·.name)).Nodup)(t:St):SCalls Tryz.prog 26 [.agg (pgC x)] t fun w u=>
  ∃p bm bz X,w=.ret (.ptr p 0)/\MdAt u p bm bz x (varsL x x.rules.length) X/\X.map (·.l)=List.replicate x.decls.length []/\Fg u t/\(∀z,(z=p\/z=bm\/z=bz\/TbF X z)->t z=.free):=by
 have w1:=fun(k:Int) s=>Ez x k hx s
 simp only[pgC]at w1 ⊢
 obtain⟨ds,cs,rs⟩:=x
 obtain⟨hd,hc,hr,hdd,hdc,_⟩:=hx
 simp only at hd hc hr hdd hdc h1 h2 w1 hs ⊢
 obtain⟨hs1,hs2⟩:=hs
 have hl1:(ds.map dmC).length=ds.length:=by simp
 have hl2:(cs.map az).length=cs.length:=by simp
 have hl3:(rs.map ax).length=rs.length:=by simp
 refine aw Tryz.func26 rfl Tryz.ntmps26 rfl fun Q hQ hQe=>?_
 (repeat'(first|refine Ctl ?_|((with_reducible refine j_ hK ?_);clear hK hE K E)|((first|(with_reducible refine ae fun K E hK hE=>?_)|((with_reducible refine ao (fun b hb=>?_));(repeat(obtain⟨_,hb⟩:=hb))))<;>(try simp(disch:=omega) only[go_sem,seval,hl1, *]))))
 rename_i bx hbx b1 n1 n2 hb1 b2 n3 n4 n5 n6 hb2 n7 n8 n9 n10 n11 n12
 obtain⟨pp,hpp⟩:∃x,x=b:=⟨_,rfl⟩
 subst hpp
 have hx0:(t.set bx (.obj 26 [.lst (ds.map dmC) .no,.lst (cs.map az) .no,.lst (rs.map ax) .no])) bx=.obj 26 [.lst (ds.map dmC) .no,.lst (cs.map az) .no,.lst (rs.map ax) .no]:=q_ _ _ _
 have f1:(t.set bx (.obj 26 [.lst (ds.map dmC) .no,.lst (cs.map az) .no,.lst (rs.map ax) .no])) b1=.free:=by rw[k_ _ _ (‹_›)];exact hb1
 have f2:(t.set bx (.obj 26 [.lst (ds.map dmC) .no,.lst (cs.map az) .no,.lst (rs.map ax) .no])) b2=.free:=by rw[k_ _ _ (‹_›)];exact hb2
 have f3:(t.set bx (.obj 26 [.lst (ds.map dmC) .no,.lst (cs.map az) .no,.lst (rs.map ax) .no])) pp=.free:=by rw[k_ _ _ (‹_›)];exact hb
 have hF0:Fg (t.set bx (.obj 26 [.lst (ds.map dmC) .no,.lst (cs.map az) .no,.lst (rs.map ax) .no])) t:=v_ _ hbx
 generalize t.set bx (.obj 26 [.lst (ds.map dmC) .no,.lst (cs.map az) .no,.lst (rs.map ax) .no])=S at *
 have HF:=u_ hF0
 have HP:=u_ hb
 have HP1:=u_ hb1
 have HP2:=u_ hb2
 have hSxf:S bx≠.free:=by rw[hx0];simp
 clear hF0 hbx hb hb1 hb2
 refine aI (fun m env s'=>∃(i:Nat),i<=ds.length/\m+i=ds.length/\s'=((S.set b1 (.map (mpV bL []))).set b2 (.map (mpV bL (qU (ds.take i))))).set pp (.obj 77 [.lst (ds.map dmC) .no,.lst (cs.map az) .no,.lst (rs.map ax) .no,.mp b1,.mp b2,.lst [] .full,.lst [] .full]) /\
  env 1=.ptr bx 0/\env 3=.ptr pp 0/\env 18=.lst (ds.map dmC) .no/\env 19=.int .i64 ds.length/\env 20=.int .i64 i) ds.length ?_ ?_
 ·exact⟨_,Fg.refl _,0,by omega,by omega,rfl,ab,ab,ab,ab,ab⟩
 rintro m env s' ⟨i,hi,hm,rfl,e1,e3,e18,e19,e20⟩
 by_cases hlt:i<ds.length
 ·obtain⟨c,hcc⟩:=aN hlt
  have hsx:=ge hcc
  have hA:=wW hcc
  have HA:=u_ hA
  clear hcc hA
  obtain⟨cn,cz⟩:=c
  (repeat'(first|refine Ctl ?_|(with_reducible first|(refine j_ hK ?_;clear hK hE K E)|(refine j_ hKh ?_;clear hKh Kh)|(refine j_ hKb (aL ?_);clear hKb Kb)|refine aq 5 [([0,1,2,3,4,5,6,7],8,[[]])] [] hQe fun K E hK hE=>?_)|((with_reducible refine aj (fun h=>?_) (fun h=>?_))<;>(try(exfalso;assumption)))|((first|(with_reducible first|refine ae fun K E hK hE=>?_|refine aE fun Kh hKh=>?_|refine aD fun Kh hKh=>?_|refine aM fun Kb hKb=>?_)|((with_reducible refine ao (fun b hb=>?_));(repeat(obtain⟨_,hb⟩:=hb));(try(obtain⟨_,_⟩:=nef hb hSxf))))<;>(try simp(disch:=first|assumption|omega) only[go_sem,seval,hl1,hsx,dmC, *]))))
  exact⟨_,v_ _ (by rw[k_ _ _ (‹_›),k_ _ _ (‹_›),k_ _ _ (‹_›)];exact hb),m - 1,by omega,i+1,by omega,by omega,by rw[HA.out],ab,ab,ab,ab,ab⟩
 ·obtain rfl:i=ds.length:=by omega
  rw[f_,wV h1]
  (repeat'(first|refine Ctl ?_|((with_reducible refine j_ hK ?_);clear hK hE K E)|((with_reducible refine aj (fun h=>?_) (fun h=>?_))<;>(try(exfalso;assumption)))|(((with_reducible refine ae fun K E hK hE=>?_))<;>(try simp(disch:=omega) only[go_sem,seval,hl1,hl2, *]))))
  have hx2:(S.set b2 (.map (mpV bL (szA ds)))) bx=.obj 26 [.lst (ds.map dmC) .no,.lst (cs.map az) .no,.lst (rs.map ax) .no]:=by rw[k_ _ _ (‹_›)];exact hx0
  have hz2:(S.set b2 (.map (mpV bL (szA ds)))) b2=.map (mpV bL (szA ds)):=q_ _ _ _
  have g1:(S.set b2 (.map (mpV bL (szA ds)))) b1=.free:=by rw[k_ _ _ (‹_›)];exact f1
  have g3:(S.set b2 (.map (mpV bL (szA ds)))) pp=.free:=by rw[k_ _ _ (‹_›)];exact f3
  have hF2:Fg (S.set b2 (.map (mpV bL (szA ds)))) t:=w_ HF.out HP2.out
  rw[show (S.set b1 (.map (mpV bL []))).set b2 (.map (mpV bL (szA ds)))=(S.set b2 (.map (mpV bL (szA ds)))).set b1 (.map (mpV bL [])) from cJ (‹_›)]
  generalize S.set b2 (.map (mpV bL (szA ds)))=S2 at *
  clear e18 e19 e20 hi hm hlt f1 f2 f3 hx0 hSxf HF
  have HF:=u_ hF2
  clear hF2
  refine ef (fun m env s'=>∃(i:Nat) (o:Own) (T:St) (X:List Tab),i<=cs.length/\m+i=cs.length/\OwnOk T o i/\ay o b1/\ay o pp /\
   T bx=.obj 26 [.lst (ds.map dmC) .no,.lst (cs.map az) .no,.lst (rs.map ax) .no]/\T b2=.map (mpV bL (szA ds))/\T b1=.free/\T pp=.free/\Hid (Fg T t)/\Hid (TbsAt T X)/\Hid (X.map (·.l)=List.replicate i [])/\Hid (∀z,TbF X z->t z=.free/\z≠bx/\z≠b2) /\
   s'=((T.own o 78 1 i).set b1 (.map (mpV bL (qT (cs.take i))))).set pp (.obj 77 [.lst (ds.map dmC) .no,.lst (cs.map az) .no,.lst (rs.map ax) .no,.mp b1,.mp b2,.lst (X.map fun y=>[.ptr y.b 0]) o,.lst [] .full]) /\
   env 1=.ptr bx 0/\env 3=.ptr pp 0/\env 34=.lst (cs.map az) .no/\env 35=.int .i64 cs.length/\env 36=.int .i64 i) cs.length ?_ ?_
  ·refine⟨_,GS.refl _,0,.full,S2,[],by omega,by omega,b9,trivial,trivial,hx2,hz2,g1,g3,HF,u_ ⟨by simp,by simp⟩,u_ rfl,u_ (fun z hz=>by obtain⟨y,hy,_⟩:=hz;cases hy),rfl,ab,ab,ab,ab,ab⟩
  clear e1 e3 env m hx2 hz2 g1 g3 HF S2
  rintro m env s' ⟨i,o,T,X,hi,hm,ho,hom,hop,hx2,hz2,g1,g3,HF,HT,HL,HD,rfl,e1,e3,e34,e35,e36⟩
  have hTx:T bx≠.free:=by rw[hx2];simp
  have hTz:T b2≠.free:=by rw[hz2];simp
  have hox:=ho.not hTx
  have hoz:=ho.not hTz
  have hXl:X.length=i:=by have:=congrArg List.length HL.out;simpa using this
  have hXm:(X.map fun y=>[VV.ptr y.b 0]).length=i:=by rw[a_];exact hXl
  by_cases hlt:i<cs.length
  ·obtain⟨c,hcc⟩:=aN hlt
   have hsx:=dp hcc
   have hA:=wU hcc
   have HA:=u_ hA
   clear hcc hA
   obtain⟨cn,cd⟩:=c
   have hXs:∀q:Tab,(X++[q]).map (fun y=>[VV.ptr y.b 0])=X.map (fun y=>[VV.ptr y.b 0])++[[.ptr q.b 0]]:=fun q=>by simp
   have HXS:=u_ hXs
   have h1y:∀y,y∈X.map (fun y=>[VV.ptr y.b 0])->y.length=1:=fun y hy=>by
    obtain⟨q,_,rfl⟩:=E_.1 hy
    rfl
   clear hXs
   generalize X.map (fun y=>[VV.ptr y.b 0])=L at *
   (repeat'(first|refine Ctl ?_|(with_reducible first|(refine j_ hK ?_;clear hK hE K E)|(refine j_ hKh ?_;clear hKh Kh)|(refine j_ hKb (aL ?_);clear hKb Kb)|refine aq 10 [([0,1,2,3,4,5,6],7,[[]])] [] hQe fun K E hK hE=>?_)|((with_reducible refine aj (fun h=>?_) (fun h=>?_))<;>(try(exfalso;assumption)))|((first|(with_reducible first|refine ae fun K E hK hE=>?_|refine aE fun Kh hKh=>?_|refine aD fun Kh hKh=>?_|refine aM fun Kb hKb=>?_)|((with_reducible refine ao (fun b hb=>?_));(repeat(obtain⟨_,hb⟩:=hb));(try(rw[aR]at hb;obtain⟨_,hb⟩:=hb;obtain⟨_,_⟩:=nef hb hTx;obtain⟨_,_⟩:=nef hb hTz)))|((with_reducible refine cq (fun o2 ho=>?_));(try simp(disch:=assumption) only[aQ,aS,bc,cB,a_,List.length_cons,List.length_nil,Nat.zero_add,hl2,hsx,az,hXm]at ho);(repeat(obtain⟨_,ho⟩:=ho))))<;>(try simp(disch:=first|assumption|omega) only[go_sem,seval,hl2,hsx,az,hXm, *]))))
   rename_i bd _ _ _ _ _ hbd _ _ _ _ mt _ _ _ _ _ _ kq hmt _ _ _ _ _ _ _ _ _ _ _ _ _ _ _ _ _ k1 k2 k3 k4 k5
   obtain⟨bt,hbt⟩:∃x,x=b:=⟨_,rfl⟩
   subst hbt
   have hnm:¬ bt=mt:=by assumption
   have HT2:=TbsAt.new HT.out hmt hb hnm
   have HX2:=HXS.out ⟨bt,mt,0,[]⟩
   refine⟨_,?_,m - 1,by omega,i+1,o2,(T.set mt (.map [])).set bt (.obj 81 [.raw (.slice none 0 0),.mp mt]),X++[⟨bt,mt,0,[]⟩],by omega,by omega,?_,k5,k4,?_,?_,?_,?_,?_,u_ HT2,?_,?_,rfl,ab,ab,ab,ab,ab⟩
   ·refine(GS.rawnil (i:=0) (q_ _ _ _) rfl).trans ?_
    rw[St.set_set]
    refine GS.of_fg ?_
    rw[fU (show ay o2 bt from k1),fU (show ay o2 mt from k2)]
    rw[HX2,HA.out,cJ (x:=bt) (y:=b1) (‹_›),cJ (x:=bt) (y:=pp) (‹_›),cJ (x:=mt) (y:=b1) (‹_›),cJ (x:=mt) (y:=pp) (‹_›)]
    exact Fg.set (Fg.set (v_ _ (by rw[k_ _ _ (‹_›),k_ _ _ (‹_›),aR];exact⟨k3,hbd⟩)) _ _) _ _
   ·rw[bc,cB];exact⟨k1,k2,ho⟩
   ·rw[k_ _ _ (‹_›),k_ _ _ (‹_›)];exact hx2
   ·rw[k_ _ _ (‹_›),k_ _ _ (‹_›)];exact hz2
   ·rw[k_ _ _ (‹_›),k_ _ _ (‹_›)];exact g1
   ·rw[k_ _ _ (‹_›),k_ _ _ (‹_›)];exact g3
   ·exact u_ (w_ (w_ HF.out (HF.out.free hmt)) (HF.out.free hb))
   ·refine u_ ?_
    rw[List.map_append,HL.out,List.replicate_succ']
    rfl
   ·refine u_ fun z hz=>?_
    obtain⟨y,hy,hzF⟩:=hz
    rcases l_.1 hy with hy|hy
    ·exact HD.out z ⟨y,hy,hzF⟩
    ·rw[e_]at hy
     subst hy
     rcases hzF with rfl|rfl|⟨e,_⟩
     ·exact⟨HF.out.free hb,‹_›,‹_›⟩
     ·exact⟨HF.out.free hmt,‹_›,‹_›⟩
     ·exact absurd rfl e
  ·obtain rfl:i=cs.length:=by omega
   rw[f_,wT h2]
   have hg:=GS.wkobj (s:=((T.own o 78 1 cs.length).set b1 (.map (mpV bL (rlA cs)))).set pp (.obj 77 [.lst (ds.map dmC) .no,.lst (cs.map az) .no,.lst (rs.map ax) .no,.mp b1,.mp b2,.lst (X.map fun y=>[.ptr y.b 0]) o,.lst [] .full])) (b:=pp) (ys:=[.lst (ds.map dmC) .no,.lst (cs.map az) .no,.lst (rs.map ax) .no,.mp b1,.mp b2,.lst (X.map fun y=>[.ptr y.b 0]) .no,.lst [] .full]) (q_ _ _ _) rfl (fun j y hy=>by
    match j with
    |0=>simp at hy;subst hy;exact⟨_,rfl,Wk.refl _,id⟩
    |1=>simp at hy;subst hy;exact⟨_,rfl,Wk.refl _,id⟩
    |2=>simp at hy;subst hy;exact⟨_,rfl,Wk.refl _,id⟩
    |3=>simp at hy;subst hy;exact⟨_,rfl,Wk.refl _,id⟩
    |4=>simp at hy;subst hy;exact⟨_,rfl,Wk.refl _,id⟩
    |5=>simp at hy;subst hy;exact⟨_,rfl,Wk.lst _ _,id⟩
    |6=>simp at hy;subst hy;exact⟨_,rfl,Wk.refl _,id⟩
    |j+7=>simp at hy)
   rw[St.set_set]at hg
   refine pc (hg.trans (GS.of_fg (((Fg.own ho).set b1 _).set pp _))) ?_
   clear hg
   have hx3:(T.set b1 (.map (mpV bL (rlA cs)))) bx=.obj 26 [.lst (ds.map dmC) .no,.lst (cs.map az) .no,.lst (rs.map ax) .no]:=by rw[k_ _ _ (‹_›)];exact hx2
   have hz3:(T.set b1 (.map (mpV bL (rlA cs)))) b2=.map (mpV bL (szA ds)):=by rw[k_ _ _ (‹_›)];exact hz2
   have ha3:(T.set b1 (.map (mpV bL (rlA cs)))) b1=.map (mpV bL (rlA cs)):=q_ _ _ _
   have g33:(T.set b1 (.map (mpV bL (rlA cs)))) pp=.free:=by rw[k_ _ _ (‹_›)];exact g3
   have hXf:∀z,TbF X z->z≠b1/\z≠pp:=fun z hz=>⟨by rintro rfl;exact HT.out.live hz g1,by rintro rfl;exact HT.out.live hz g3⟩
   have hT3:TbsAt (T.set b1 (.map (mpV bL (rlA cs)))) X:=HT.out.keep fun z hz=>k_ _ _ (hXf z hz).1
   have hF3:Fg (T.set b1 (.map (mpV bL (rlA cs)))) t:=w_ HF.out HP1.out
   have HXF:=u_ hXf
   clear hx2 hz2 g1 g3 hTx hTz hox hoz HT HF hXf
   generalize T.set b1 (.map (mpV bL (rlA cs)))=T3 at *
   have HT:=u_ hT3
   have HF:=u_ hF3
   clear hT3 hF3 ho hom hop
   (repeat'(first|refine Ctl ?_|((with_reducible refine j_ hK ?_);clear hK hE K E)|((with_reducible refine aj (fun h=>?_) (fun h=>?_))<;>(try(exfalso;assumption)))|(((with_reducible refine ae fun K E hK hE=>?_))<;>(try simp(disch:=omega) only[go_sem,seval,hl2,hl3, *]))))
   generalize hLX:X.map (fun y=>[VV.ptr y.b 0])=L at *
   have HLX:=u_ hLX
   clear e34 e35 e36 hLX
   refine ef (fun m env s'=>∃(i:Nat) (o:Own),i<=rs.length/\m+i=rs.length/\OwnOk T3 o i/\ay o pp /\
    s'=(T3.own o 64 1 i).set pp (.obj 77 [.lst (ds.map dmC) .no,.lst (cs.map az) .no,.lst (rs.map ax) .no,.mp b1,.mp b2,.lst L .no,.lst ((varsL ⟨ds,cs,rs⟩ i).map fun v=>[.lst (aA v) .no]) o]) /\
    env 1=.ptr bx 0/\env 3=.ptr pp 0/\env 62=.lst (rs.map ax) .no/\env 63=.int .i64 rs.length/\env 64=.int .i64 i) rs.length ?_ ?_
   ·exact⟨_,GS.refl _,0,.full,by omega,by omega,b9,trivial,rfl,ab,ab,ab,ab,ab⟩
   clear e1 e3 env hm hi hlt m
   rintro m env s' ⟨i,o,hi,hm,ho,hop,rfl,e1,e3,e62,e63,e64⟩
   have hTx:T3 bx≠.free:=by rw[hx3];simp
   have hox:=ho.not hTx
   have hVl:((varsL ⟨ds,cs,rs⟩ i).map fun v=>[VV.lst (aA v) .no]).length=i:=by simp[varsL]
   by_cases hlt:i<rs.length
   ·have w2:=w1 (i:Int)
    have hV:(varsL ⟨ds,cs,rs⟩ (i+1)).map (fun v=>[VV.lst (aA v) .no])=(varsL ⟨ds,cs,rs⟩ i).map (fun v=>[VV.lst (aA v) .no])++[[.lst (aA (varsP ⟨ds,cs,rs⟩ (i:Int)).1.vs) .no]]:=by
     unfold varsL
     rw[List.range_succ,List.map_append,List.map_append]
     rfl
    have HV:=u_ hV
    have h1y:∀y,y∈(varsL ⟨ds,cs,rs⟩ i).map (fun v=>[VV.lst (aA v) .no])->y.length=1:=fun y hy=>by
     obtain⟨q,_,rfl⟩:=E_.1 hy
     rfl
    simp only[zV]at w2
    clear hV w1
    generalize (varsP ⟨ds,cs,rs⟩ (i:Int))=q at *
    generalize (varsL ⟨ds,cs,rs⟩ i).map (fun v=>[VV.lst (aA v) .no])=M at *
    (repeat'(first|refine Ctl ?_|((with_reducible refine j_ hK ?_);clear hK hE K E)|((with_reducible refine aj (fun h=>?_) (fun h=>?_))<;>(try(exfalso;assumption)))|((first|(with_reducible first|refine ae fun K E hK hE=>?_|refine ak MD (w2 _) ?_)|((with_reducible refine cq (fun o2 ho=>?_));(try simp(disch:=assumption) only[aQ,aS,bc,cB,a_,List.length_cons,List.length_nil,Nat.zero_add,hl3,hVl]at ho);(repeat(obtain⟨_,ho⟩:=ho))))<;>(try simp(disch:=first|assumption|omega) only[go_sem,seval,hl3,hVl, *]))))
    exact⟨_,GS.refl _,m - 1,by omega,i+1,o2,by omega,by omega,ho,‹_›,by rw[HV.out],ab,ab,ab,ab,ab⟩
   ·obtain rfl:i=rs.length:=by omega
    have hg:=GS.wkobj (s:=(T3.own o 64 1 rs.length).set pp (.obj 77 [.lst (ds.map dmC) .no,.lst (cs.map az) .no,.lst (rs.map ax) .no,.mp b1,.mp b2,.lst L .no,.lst ((varsL ⟨ds,cs,rs⟩ rs.length).map fun v=>[.lst (aA v) .no]) o])) (b:=pp) (ys:=[.lst (ds.map dmC) .no,.lst (cs.map az) .no,.lst (rs.map ax) .no,.mp b1,.mp b2,.lst L .no,.lst ((varsL ⟨ds,cs,rs⟩ rs.length).map fun v=>[.lst (aA v) .no]) .no]) (q_ _ _ _) rfl (fun j y hy=>by
     match j with
     |0=>simp at hy;subst hy;exact⟨_,rfl,Wk.refl _,id⟩
     |1=>simp at hy;subst hy;exact⟨_,rfl,Wk.refl _,id⟩
     |2=>simp at hy;subst hy;exact⟨_,rfl,Wk.refl _,id⟩
     |3=>simp at hy;subst hy;exact⟨_,rfl,Wk.refl _,id⟩
     |4=>simp at hy;subst hy;exact⟨_,rfl,Wk.refl _,id⟩
     |5=>simp at hy;subst hy;exact⟨_,rfl,Wk.refl _,id⟩
     |6=>simp at hy;subst hy;exact⟨_,rfl,Wk.lst _ _,id⟩
     |j+7=>simp at hy)
    rw[St.set_set]at hg
    refine pc (hg.trans (GS.of_fg ((Fg.own ho).set pp _))) ?_
    clear hg
    generalize hM:(varsL ⟨ds,cs,rs⟩ rs.length).map (fun v=>[VV.lst (aA v) .no])=M at *
    have HMM:=u_ hM
    clear hM
    (repeat'(first|refine Ctl ?_|((with_reducible refine j_ hK ?_);clear hK hE K E)|((with_reducible refine aj (fun h=>?_) (fun h=>?_))<;>(try(exfalso;assumption)))|(((with_reducible refine ae fun K E hK hE=>?_))<;>(try simp(disch:=omega) only[go_sem,seval,hl3, *]))))
    all_goals(refine ap E6 hQ ?_)
    refine⟨_,_,Wk.refl _,Fg.refl _,pp,b1,b2,X,rfl,⟨?_,?_,?_,?_,fun z hz=>⟨(HXF.out z hz).2,(HXF.out z hz).1,(HD.out z hz).2.2⟩⟩,HL.out,w_ HF.out HP.out,?_⟩
    ·rw[q_,HLX.out,HMM.out]
    ·rw[k_ _ _ (‹_›)];exact ha3
    ·rw[k_ _ _ (‹_›)];exact hz3
    ·exact HT.out.keep fun z hz=>k_ _ _ (HXF.out z hz).2
    ·rintro z (rfl|rfl|rfl|hz)
     ·exact HP.out
     ·exact HP1.out
     ·exact HP2.out
     ·exact(HD.out z hz).1
end Go.Proofs.YteldpmgepfaiiaaGreatDoor
namespace Go.Proofs.YteldpmgepfaiiaaGreatDoor
open Go.RowKit
set_option maxHeartbeats 4000000 in
theorem JH (l:List (List Int))(r:List Int)(o1 o2:Own)(hl:iv l)(hr:r.length<=1000000000)(t:St):SRet Tryz.prog 76 [.lst (aF l) o1,.lst (aB r) o2] t (.bool (decide (r∈l))) t:=by
 have hl1:(aF l).length=l.length:=rowsV_len
 obtain⟨ha1,ha2⟩:=hl
 generalize hR:decide (r∈l)=R
 have HR:=u_ hR
 clear hR
 refine aw Tryz.func76 rfl Tryz.ntmps76 rfl fun Q hQ hQe=>?_
 (repeat'(first|refine Ctl ?_|((with_reducible refine j_ hK ?_);clear hK hE K E)|(((with_reducible refine ae fun K E hK hE=>?_))<;>(try simp(disch:=omega) only[go_sem,seval,hl1, *]))))
 refine bB (fun m env s'=>∃(i:Nat),i<=l.length/\m+i=l.length/\Hid (r∉l.take i)/\s'=t/\env 0=.lst (aF l) o1/\env 1=.lst (aB r) o2/\env 5=.int .i64 i) l.length
  ⟨0,by omega,by omega,u_ (by simp),rfl,ab,ab,ab⟩ ?_
 rintro m env s' ⟨i,hi,hm,HH,rfl,e0,e1,e5⟩
 by_cases h2:i<l.length
 ·obtain⟨x,hx⟩:∃x,l[i]?=some x:=⟨_,b_ (by omega)⟩
  have sx:=dK hx
  have hxm:=p_ hx
  have w1:=fun s=>kr x r .no o2 (by have:=ha2 x hxm;omega) (by omega) s
  have t1:l.take (i+1)=l.take i++[x]:=by rw[List.take_add_one,hx];rfl
  have HT:¬ x=r->r∉l.take (i+1):=fun e=>by
   rw[t1,l_,e_]
   rintro(h|h)
   ·exact HH.out h
   ·exact e h.symm
  clear t1 hx
  by_cases e:x=r
  ·have hR:R=true:=by rw[<- HR.out];subst e;simp[hxm]
   subst hR
   rw[show decide (x=r)=true by simp[e]]at w1
   clear HT e hxm
   (repeat'(first|refine Ctl ?_|((with_reducible refine j_ hK ?_);clear hK hE K E)|((with_reducible refine aj (fun h=>?_) (fun h=>?_))<;>(try(exfalso;assumption)))|(((with_reducible first|refine ae fun K E hK hE=>?_|refine ak qr (w1 _) ?_))<;>(try simp(disch:=omega) only[go_sem,seval,hl1,sx, *]))))
   all_goals(refine ap Az hQ ?_)
   all_goals(refine⟨_,_,Wk.of_eq ?_,?_,rfl,rfl⟩)
   all_goals first|rfl|(exact bC)
  ·have HT2:=u_ (HT e)
   rw[show decide (x=r)=false by simp[e]]at w1
   clear HT e hxm
   (repeat'(first|refine Ctl ?_|((with_reducible refine j_ hK ?_);clear hK hE K E)|((with_reducible refine aj (fun h=>?_) (fun h=>?_))<;>(try(exfalso;assumption)))|(((with_reducible first|refine ae fun K E hK hE=>?_|refine ak qr (w1 _) ?_))<;>(try simp(disch:=omega) only[go_sem,seval,hl1,sx, *]))))
   all_goals exact⟨m - 1,by omega,i+1,by omega,by omega,HT2,rfl,ab,ab,ab⟩
 ·have hR:R=false:=by
   have h3:=HH.out
   rw[B_ (by omega)]at h3
   rw[<- HR.out];simp[h3]
  subst hR
  (repeat'(first|refine Ctl ?_|((with_reducible refine j_ hK ?_);clear hK hE K E)|((with_reducible refine aj (fun h=>?_) (fun h=>?_))<;>(try(exfalso;assumption)))|(((with_reducible refine ae fun K E hK hE=>?_))<;>(try simp(disch:=omega) only[go_sem,seval,hl1, *]))))
  all_goals(refine ap Az hQ ?_)
  all_goals(refine⟨_,_,Wk.of_eq ?_,?_,rfl,rfl⟩)
  all_goals first|rfl|(exact bC)
def gc (n:List UInt8)(l:List (List UInt8)):Int:=match ixT n l with|some k=>(k:Int)|none=>-1
def mv (n:List UInt8)(l:List (List UInt8))(i:Nat):Int:=match ixT n (l.drop i)with|some k=>((k+i:Nat):Int)|none=>-1
theorem BB {n x:List UInt8}{l:List (List UInt8)}{i:Nat}(h:l[i]?=some x):mv n l i=if n=x then(i:Int)else mv n l (i+1):=by
 have hlt:i<l.length:=(n_.1 h).1
 have hc:l[i]=x:=by rw[b_ hlt]at h;injection h
 unfold mv
 rw[g_ hlt,hc]
 simp only[ixT]
 by_cases e:n=x
 ·rw[if_pos e,if_pos e];simp
 ·rw[if_neg e,if_neg e]
  cases ixT n (l.drop (i+1))with
  |none=>rfl
  |some k=>simp only[Option.map_some];congr 1;omega
theorem zn {n:List UInt8}{l:List (List UInt8)}:mv n l l.length=-1:=by unfold mv;rw[G_];rfl
theorem D7 {n:List UInt8}{l:List (List UInt8)}:mv n l 0=gc n l:=by unfold mv gc;rw[List.drop_zero];cases ixT n l<;>rfl
set_option maxHeartbeats 4000000 in
theorem qD (l:List (List UInt8))(n:List UInt8)(o1:Own)(hl:l.length<=1000000000)(t:St):SRet Tryz.prog 84 [.lst (aA l) o1,.str n] t (.int .i64 (gc n l)) t:=by
 have hl1:(aA l).length=l.length:=by simp[aA]
 generalize hR:gc n l=R
 rw[<- D7]at hR
 have HR:=u_ hR
 clear hR
 refine aw Tryz.func84 rfl Tryz.ntmps84 rfl fun Q hQ hQe=>?_
 (repeat'(first|refine Ctl ?_|((with_reducible refine j_ hK ?_);clear hK hE K E)|(((with_reducible refine ae fun K E hK hE=>?_))<;>(try simp(disch:=omega) only[go_sem,seval,hl1, *]))))
 refine bB (fun m env s'=>∃(i:Nat),i<=l.length/\m+i=l.length/\Hid (mv n l i=R)/\s'=t/\env 0=.lst (aA l) o1/\env 1=.str n/\env 5=.int .i64 i) l.length
  ⟨0,by omega,by omega,HR,rfl,ab,ab,ab⟩ ?_
 rintro m env s' ⟨i,hi,hm,HH,rfl,e0,e1,e5⟩
 by_cases h2:i<l.length
 ·obtain⟨x,hx⟩:∃x,l[i]?=some x:=⟨_,b_ (by omega)⟩
  have sx:(aA l)[i]?=some [.str x]:=by simp[aA,hx]
  have hd:=(BB (n:=n) hx).symm.trans HH.out
  clear hx
  by_cases e:n=x
  ·rw[if_pos e]at hd
   have HD:=u_ hd
   subst e
   clear hd
   (repeat'(first|refine Ctl ?_|((with_reducible refine j_ hK ?_);clear hK hE K E)|((with_reducible refine aj (fun h=>?_) (fun h=>?_))<;>(try(exfalso;assumption)))|(((with_reducible refine ae fun K E hK hE=>?_))<;>(try simp(disch:=omega) only[go_sem,seval,hl1,sx, *]))))
   all_goals(refine ap Aw hQ ?_)
   all_goals rw[<- HD.out]
   all_goals(refine⟨_,_,Wk.of_eq ?_,?_,rfl,rfl⟩)
   all_goals first|rfl|(exact bC)
  ·rw[if_neg e]at hd
   have HD:=u_ hd
   have e':(x=n)=False:=eq_false fun h=>e h.symm
   clear hd e
   (repeat'(first|refine Ctl ?_|((with_reducible refine j_ hK ?_);clear hK hE K E)|((with_reducible refine aj (fun h=>?_) (fun h=>?_))<;>(try(exfalso;assumption)))|(((with_reducible refine ae fun K E hK hE=>?_))<;>(try simp(disch:=omega) only[go_sem,seval,hl1,sx,e', *]))))
   all_goals exact⟨m - 1,by omega,i+1,by omega,by omega,HD,rfl,ab,ab,ab⟩
 ·obtain rfl:i=l.length:=by omega
  have hR:R=-1:=HH.out.symm.trans zn
  subst hR
  (repeat'(first|refine Ctl ?_|((with_reducible refine j_ hK ?_);clear hK hE K E)|((with_reducible refine aj (fun h=>?_) (fun h=>?_))<;>(try(exfalso;assumption)))|(((with_reducible refine ae fun K E hK hE=>?_))<;>(try simp(disch:=omega) only[go_sem,seval,hl1, *]))))
  all_goals(refine ap Aw hQ ?_)
  all_goals(refine⟨_,_,Wk.of_eq ?_,?_,rfl,rfl⟩)
  all_goals first|rfl|(exact bC)
theorem nF {l:List (List Int)}{k:Nat}:(aF l).take k=aF (l.take k):=by simp[aF,List.map_take]
theorem nG {l:List (List Int)}{k:Nat}:(aF l).drop k=aF (l.drop k):=by simp[aF,List.map_drop]
theorem fF {l:List (List Int)}:∀y,y∈aF l->y.length=1:=fun y hy=>by
 obtain⟨q,_,rfl⟩:=E_.1 hy
 rfl
attribute [local go_sem] aH aV cH
set_option maxHeartbeats 8000000 in
theorem ux (l:List (List Int))(r:List Int)(o1:Own)(hl:iv l)(hr:r.length<=1000000000)(t:St):SRet Tryz.prog 77 [.lst (aF l) o1,.lst (aB r) .no] t (.lst (aF (putRow l r)) .no) t:=by
 have hl1:(aF l).length=l.length:=rowsV_len
 obtain⟨ha1,ha2⟩:=hl
 generalize hR:putRow l r=R
 have HR:=u_ hR
 clear hR
 refine aw Tryz.func77 rfl Tryz.ntmps77 rfl fun Q hQ hQe=>?_
 (repeat'(first|refine Ctl ?_|((with_reducible refine j_ hK ?_);clear hK hE K E)|(((with_reducible refine ae fun K E hK hE=>?_))<;>(try simp(disch:=omega) only[go_sem,seval,hl1, *]))))
 refine bB (fun m env s'=>∃(i:Nat),i<=l.length/\m+i=l.length/\Hid (∀(j:Nat) (a:List Int),j<i->l[j]?=some a->eV a r=true)/\s'=t/\env 0=.lst (aF l) o1/\env 1=.lst (aB r) .no/\env 5=.int .i64 i) l.length
  ⟨0,by omega,by omega,u_ (fun j a h=>by omega),rfl,ab,ab,ab⟩ ?_
 rintro m env s' ⟨i,hi,hm,HH,rfl,e0,e1,e5⟩
 by_cases h2:i<l.length
 ·obtain⟨x,hx⟩:∃x,l[i]?=some x:=⟨_,b_ (by omega)⟩
  have sx:=dK hx
  have hxm:=p_ hx
  have w1:=fun s=>kr x r .no .no (by have:=ha2 x hxm;omega) (by omega) s
  have w2:=fun s=>CT x r .no .no (ha2 x hxm) hr s
  cases hlx:eV x r with
  |true=>
   have HT:∀(j:Nat) (a:List Int),j<i+1->l[j]?=some a->eV a r=true:=fun j a hj ha=>by
    by_cases e:j=i
    ·subst e;rw[hx]at ha;injection ha with ha;subst ha;exact hlx
    ·exact HH.out j a (by omega) ha
   have HT2:=u_ HT
   rw[hlx]at w2
   clear HT hx hxm hlx w1
   (repeat'(first|refine Ctl ?_|((with_reducible refine j_ hK ?_);clear hK hE K E)|((with_reducible refine aj (fun h=>?_) (fun h=>?_))<;>(try(exfalso;assumption)))|(((with_reducible first|refine ae fun K E hK hE=>?_|refine ak tT (w2 _) ?_))<;>(try simp(disch:=omega) only[go_sem,seval,hl1,sx, *]))))
   all_goals exact⟨m - 1,by omega,i+1,by omega,by omega,HT2,rfl,ab,ab,ab⟩
  |false=>
   have hsp:=ig (l:=l) (r:=r) i HH.out (fun a ha=>by rw[hx]at ha;injection ha with ha;subst ha;exact hlx) hi
   rw[hx]at hsp
   rw[hlx]at w2
   by_cases e:x=r
   ·rw[if_pos (by rw[e])]at hsp
    have hR:R=l:=HR.out.symm.trans hsp
    subst hR
    rw[show decide (x=r)=true by simp[e]]at w1
    clear hsp hx hxm hlx e
    (repeat'(first|refine Ctl ?_|((with_reducible refine j_ hK ?_);clear hK hE K E)|((with_reducible refine aj (fun h=>?_) (fun h=>?_))<;>(try(exfalso;assumption)))|(((with_reducible first|refine ae fun K E hK hE=>?_|refine ak tT (w2 _) ?_|refine ak qr (w1 _) ?_))<;>(try simp(disch:=omega) only[go_sem,seval,hl1,sx, *]))))
    all_goals(refine ap wK hQ ?_)
    all_goals exact⟨_,_,Wk.lst _ _,Fg.refl _,rfl,rfl⟩
   ·rw[if_neg (by intro h;injection h with h;exact e h)]at hsp
    have hRV:aF R=aF (l.take i)++[ca r]::aF (l.drop i):=by rw[<- HR.out,hsp,pK];rfl
    have HRV:=u_ hRV
    rw[show decide (x=r)=false by simp[e]]at w1
    have hlt:(aF (l.take i)).length=i:=by rw[rowsV_len,A_];omega
    have hld:(aF (l.drop i)).length=l.length - i:=by rw[rowsV_len,D_]
    have ht1:=fF (l:=l.take i)
    have hd1:=fF (l:=l.drop i)
    have hz:(0<=i/\∀x,x∈aF l->x.length=1)=True:=eq_true ⟨Nat.zero_le i,fF⟩
    have hz2:(l.length<=l.length/\∀x,x∈aF l->x.length=1)=True:=eq_true ⟨Nat.le_refl _,fF⟩
    have hla:(aF (l.take i)++[[VV.lst (aB r) .no]]).length=i+1:=by rw[d_,hlt];rfl
    have hly:∀y,y∈aF (l.take i)++[[VV.lst (aB r) .no]]->y.length=1:=fun y hy=>by
     rcases l_.1 hy with h|h
     ·exact ht1 y h
     ·rw[e_]at h;subst h;rfl
    clear hsp hx hxm hlx e hRV
    (repeat'(first|refine Ctl ?_|((with_reducible refine j_ hK ?_);clear hK hE K E)|((with_reducible refine aj (fun h=>?_) (fun h=>?_))<;>(try(exfalso;assumption)))|((first|(with_reducible first|refine ae fun K E hK hE=>?_|refine ak tT (w2 _) ?_|refine ak qr (w1 _) ?_)|((with_reducible refine cq (fun o2 ho=>?_));(try simp(disch:=assumption) only[aQ,aS,bc,cB,a_,List.length_cons,List.length_nil,Nat.zero_add,hl1,sx,nF,nG,hlt,hld,hz,hz2,hla,f_]at ho);(try(simp only[aH]at ho))))<;>(try simp(disch:=first|assumption|omega) only[go_sem,seval,hl1,sx,nF,nG,hlt,hld,hz,hz2,hla,f_, *]))))
    all_goals(refine ap wK hQ ?_)
    all_goals(have hv:aF R=(aF (l.take i)++[[VV.lst (aB r) .no]])++aF (l.drop i):=by rw[HRV.out,List.append_assoc];rfl)
    all_goals rw[hv]
    all_goals exact⟨_,_,Wk.lst _ _,Fg.own ho,rfl,rfl⟩
 ·obtain rfl:i=l.length:=by omega
  have hsp:=ig (l:=l) (r:=r) l.length HH.out (fun a ha=>by simp at ha) (Nat.le_refl _)
  rw[if_neg (by simp),f_,G_]at hsp
  have hRV:aF R=aF l++[[ca r]]:=by rw[<- HR.out,hsp,pK];rfl
  have HRV:=u_ hRV
  clear hsp hRV
  have ht1:=fF (l:=l)
  have hz:(0<=l.length/\∀x,x∈aF l->x.length=1)=True:=eq_true ⟨Nat.zero_le _,fF⟩
  have htk:(aF l).take l.length=aF l:=by rw[B_ (by rw[hl1];omega)]
  have hdk:(aF l).drop l.length=[]:=by rw[List.drop_of_length_le (by rw[hl1];omega)]
  have hla:(aF l++[[VV.lst (aB r) .no]]).length=l.length+1:=by rw[d_,hl1];rfl
  have hly:∀y,y∈aF l++[[VV.lst (aB r) .no]]->y.length=1:=fun y hy=>by
   rcases l_.1 hy with h|h
   ·exact ht1 y h
   ·rw[e_]at h;subst h;rfl
  have hn0:∀y,y∈([]:List (List VV))->y.length=1:=fun y hy=>by cases hy
  (repeat'(first|refine Ctl ?_|((with_reducible refine j_ hK ?_);clear hK hE K E)|((with_reducible refine aj (fun h=>?_) (fun h=>?_))<;>(try(exfalso;assumption)))|((first|(with_reducible first|refine ae fun K E hK hE=>?_|refine gh ?_)|((with_reducible refine cq (fun o2 ho=>?_));(try simp(disch:=assumption) only[aQ,aS,bc,cB,a_,List.length_cons,List.length_nil,Nat.zero_add,hl1,hz,htk,hdk,hla]at ho);(try(simp only[aH]at ho))))<;>(try simp(disch:=first|assumption|omega) only[go_sem,seval,hl1,hz,htk,hdk,hla, *]))))
  all_goals(refine ap wK hQ ?_)
  all_goals rw[HRV.out]
  all_goals exact⟨_,_,Wk.lst _ _,Fg.own ho,rfl,rfl⟩
end Go.Proofs.YteldpmgepfaiiaaGreatDoor
namespace Go.Proofs.YteldpmgepfaiiaaGreatDoor
open Go.RowKit
def ix (vars:List (List UInt8))(n:Nat)(ts:List Trm):Prop:=∀x,x∈ts->x.var=true->∃k,ixT x.nm vars=some k/\k<n
attribute [local go_sem] aH aV cH
theorem kg {vars:List (List UInt8)}{row:List Int}{ts:List Trm}{i:Nat}{x:Trm}(h:ts[i]?=some x):aB (aU vars row (ts.take (i+1)))=aB (aU vars row (ts.take i))++[[.int .i64 (eF vars row x)]]:=by
 rw[bY h]
 simp[aU,aB]
set_option maxHeartbeats 8000000 in
theorem xZ (vars:List (List UInt8))(row:List Int)(o1 oR:Own)(a:Atm)(hv:vars.length<=1000000000)(ha:a.ts.length<=1000000000)(hf:ix vars row.length a.ts)(t:St) :
  SRet Tryz.prog 56 [.lst (aA vars) o1,.lst (aB row) oR,.agg (aG a)] t (.lst (aB (aU vars row a.ts)) .no) t:=by
 obtain⟨nt,rl,ts⟩:=a
 simp only at ha hf ⊢
 have hl1:(ts.map aC).length=ts.length:=by simp
 have w1:=fun n s=>qD vars n o1 hv s
 simp only[aG]
 refine aw Tryz.func56 rfl Tryz.ntmps56 rfl fun Q hQ hQe=>?_
 (repeat'(first|refine Ctl ?_|((with_reducible refine j_ hK ?_);clear hK hE K E)|((first|(with_reducible refine ae fun K E hK hE=>?_)|((with_reducible refine ao (fun b hb=>?_))))<;>(try simp(disch:=omega) only[go_sem,seval,hl1, *]))))
 obtain⟨bx,hbx⟩:∃x,x=b:=⟨_,rfl⟩
 subst hbx
 generalize hR:aB (aU vars row ts)=R
 have HR:=u_ hR
 clear hR
 refine aI (fun m env s'=>∃(i:Nat) (o:Own),i<=ts.length/\m+i=ts.length/\OwnOk t o i/\ay o bx/\s'=(t.own o 3 1 i).set bx (.obj 40 [.bool nt,.str rl,.lst (ts.map aC) .no]) /\
  env 0=.lst (aA vars) o1/\env 1=.lst (aB row) oR/\env 5=.ptr bx 0/\env 7=.lst (aB (aU vars row (ts.take i))) o/\env 8=.int .i64 i) ts.length ?_ ?_
 ·exact⟨_,Fg.refl _,0,.full,by omega,by omega,b9,trivial,rfl,ab,ab,ab,ab,ab⟩
 rintro m env s' ⟨i,o,hi,hm,ho,hno,rfl,e0,e1,e5,e7,e8⟩
 have hLl:(aB (aU vars row (ts.take i))).length=i:=by rw[bH,aU,a_,A_];omega
 have h1y:∀y,y∈aB (aU vars row (ts.take i))->y.length=1:=fun y hy=>by
  obtain⟨q,_,rfl⟩:=E_.1 hy
  rfl
 have hrl:(aB row).length=row.length:=bH
 by_cases hlt:i<ts.length
 ·obtain⟨x,hx⟩:=aN hlt
  have hsx:=dl hx
  have hS:=kg (vars:=vars) (row:=row) hx
  have HS:=u_ hS
  have hfx:=hf x (p_ hx)
  obtain⟨xv,xn,xz⟩:=x
  simp only[aC]at hsx
  clear hx hS
  generalize aB (aU vars row (ts.take i))=L at *
  cases xv with
  |true=>
   obtain⟨k,hk1,hk2⟩:=hfx rfl
   have hfz:gc xn vars=(k:Int):=by simp[gc,hk1]
   obtain⟨z,hz⟩:=aN hk2
   have hsz:=cD hz
   have htz:eF vars row ⟨true,xn,xz⟩=z:=by simp[eF,hk1,hz]
   have w2:=w1 xn
   rw[hfz]at w2
   rw[htz]at HS
   clear hfx hk1 hz hfz htz w1
   (repeat'(first|refine Ctl ?_|((with_reducible refine j_ hK ?_);clear hK hE K E)|((with_reducible refine aj (fun h=>?_) (fun h=>?_))<;>(try(exfalso;assumption)))|((first|(with_reducible first|refine ae fun K E hK hE=>?_|refine ak xL (w2 _) ?_)|((with_reducible refine cq (fun o2 ho=>?_));(try simp(disch:=assumption) only[aQ,aS,bc,cB,a_,List.length_cons,List.length_nil,Nat.zero_add,hl1,hsx,hrl,hLl,hsz]at ho);(repeat(obtain⟨_,ho⟩:=ho))))<;>(try simp(disch:=first|assumption|omega) only[go_sem,seval,hl1,hsx,hrl,hLl,hsz, *]))))
   exact⟨_,Fg.refl _,m - 1,by omega,i+1,o2,by omega,by omega,ho,‹_›,rfl,ab,ab,ab,by rw[HS.out];((try simp(disch:=assumption) only[go_sem,seval, *])<;>rfl),ab⟩
  |false=>
   have htz:eF vars row ⟨false,xn,xz⟩=xz:=by simp[eF]
   rw[htz]at HS
   clear hfx htz w1
   (repeat'(first|refine Ctl ?_|((with_reducible refine j_ hK ?_);clear hK hE K E)|((with_reducible refine aj (fun h=>?_) (fun h=>?_))<;>(try(exfalso;assumption)))|((first|(with_reducible refine ae fun K E hK hE=>?_)|((with_reducible refine cq (fun o2 ho=>?_));(try simp(disch:=assumption) only[aQ,aS,bc,cB,a_,List.length_cons,List.length_nil,Nat.zero_add,hl1,hsx,hrl,hLl]at ho);(repeat(obtain⟨_,ho⟩:=ho))))<;>(try simp(disch:=first|assumption|omega) only[go_sem,seval,hl1,hsx,hrl,hLl, *]))))
   exact⟨_,Fg.refl _,m - 1,by omega,i+1,o2,by omega,by omega,ho,‹_›,rfl,ab,ab,ab,by rw[HS.out];((try simp(disch:=assumption) only[go_sem,seval, *])<;>rfl),ab⟩
 ·obtain rfl:i=ts.length:=by omega
  rw[f_,HR.out]at e7
  (repeat'(first|refine Ctl ?_|((with_reducible refine j_ hK ?_);clear hK hE K E)|((with_reducible refine aj (fun h=>?_) (fun h=>?_))<;>(try(exfalso;assumption)))|(((with_reducible refine ae fun K E hK hE=>?_))<;>(try simp(disch:=omega) only[go_sem,seval,hl1, *]))))
  all_goals(refine ap EZ hQ ?_)
  all_goals exact⟨_,_,Wk.lst _ _,w_ (Fg.own ho) hb,by rw[HR.out],rfl⟩
end Go.Proofs.YteldpmgepfaiiaaGreatDoor
namespace Go.Proofs.YteldpmgepfaiiaaGreatDoor
open Go.RowKit
def eL (vars:List (List UInt8)):List (List UInt8×Int):=dO (fun v:List UInt8=>v) (fun(i:Nat) (_:List UInt8)=>(i:Int)) 0 vars
def pD (vars:List (List UInt8)):List (List UInt8×Int):=fS (fun v:List UInt8=>v) (fun(i:Nat) (_:List UInt8)=>(i:Int)) 0 vars []
theorem Ai {vars:List (List UInt8)}{i:Nat}{v:List UInt8}(h:vars[i]?=some v):pD (vars.take (i+1))=ptA v (i:Int) (pD (vars.take i)):=by
 unfold pD;rw[bY h,ju,A_,Nat.min_eq_left (Nat.le_of_lt (n_.1 h).1),Nat.zero_add]
theorem Ah {vars:List (List UInt8)}(h:vars.Nodup):pD vars=eL vars:=by unfold pD eL;rw[fj 0 vars [] (by simpa using h),List.nil_append]
theorem sw {vars:List (List UInt8)}(n:List UInt8):lkA n (eL vars)=Option.map (fun i:Nat=>(i:Int)) (ixT n vars):=by
 unfold eL
 rw[jw,List.map_id']
 cases h:ixT n vars with
 |none=>rfl
 |some j=>simp[cI h]
theorem nl {vars:List (List UInt8)}{rv:List Int}{n:List UInt8}{c z:Int}{k:Nat}(h1:ixT n vars=some k)(h2:rv[k]?=some z):eF vars rv ⟨true,n,c⟩=z:=by simp[eF,h1,h2]
def cF (l:List Bool):List VV:=l.map VV.bool
theorem fK {l:List Bool}:(cF l).length=l.length:=by simp[cF]
theorem tZ {l:List Bool}{i:Nat}{n:Bool}(h:l[i]?=some n):(cF l)[i]?=some (.bool n):=by simp[cF,h]
theorem zB {n:Nat}:List.replicate n (VV.bool false)=cF (List.replicate n false):=by simp[cF]
theorem jC {l:List Bool}{i:Nat}{n:Bool}(h:i<l.length):(cF l).take i++[.bool n]++(cF l).drop (i+1)=cF (l.set i n):=by
 have h1:cF (l.set i n)=(cF l).set i (.bool n):=by simp[cF,List.map_set]
 rw[h1,List.set_eq_take_append_cons_drop,if_pos (by rw[fK];exact h),List.append_assoc]
 rfl
theorem Bw {l:List Int}{i:Nat}{n:Int}(h:i<l.length):(cY l).take i++[.int .i64 n]++(cY l).drop (i+1)=cY (l.set i n):=by
 have h1:cY (l.set i n)=(cY l).set i (.int .i64 n):=by simp[cY,List.map_set]
 rw[h1,List.set_eq_take_append_cons_drop,if_pos (by rw[oe];exact h),List.append_assoc]
 rfl
set_option maxHeartbeats 4000000 in
theorem vW (vars:List (List UInt8))(br bs rb sb:Nat)(rv:List Int)(x:Trm)(t:St)(h1:t br=.obj 48 [.msl rb rv.length])(h2:t rb=.obj 3 (cY rv))(h3:t bs=.obj 73 [.mp sb])
  (h4:t sb=.map (mpV bL (eL vars))) (hf:x.var=true->∃k,ixT x.nm vars=some k/\k<rv.length) (hl:rv.length<=1000000000) :
  SRet Tryz.prog 79 [.agg (aC x),.ptr br 0,.ptr bs 0] t (.int .i64 (eF vars rv x)) t:=by
 obtain⟨xv,xn,xz⟩:=x
 have l1:t br≠.free:=by rw[h1];simp
 have l2:t rb≠.free:=by rw[h2];simp
 have l3:t bs≠.free:=by rw[h3];simp
 have l4:t sb≠.free:=by rw[h4];simp
 cases xv with
 |true=>
  obtain⟨k,hk1,hk2⟩:=hf rfl
  have hlk:lkA xn (eL vars)=some (k:Int):=by rw[sw,hk1];rfl
  obtain⟨z,hz⟩:=aN hk2
  have hrk:=D2 hz
  rw[nl hk1 hz]
  have hil:(cY rv).length=rv.length:=oe
  clear hf hk1 hz
  simp only[aC]
  generalize eL vars=SL at *
  refine aw Tryz.func79 rfl Tryz.ntmps79 rfl fun Q hQ hQe=>?_
  (repeat'(first|refine Ctl ?_|((with_reducible refine j_ hK ?_);clear hK hE K E)|((with_reducible refine aj (fun h=>?_) (fun h=>?_))<;>(try(exfalso;assumption)))|((first|(with_reducible first|refine ae fun K E hK hE=>?_|refine gh ?_)|((with_reducible refine ao (fun b hb=>?_));(try(obtain⟨_,_⟩:=nef hb l1;obtain⟨_,_⟩:=nef hb l2;obtain⟨_,_⟩:=nef hb l3;obtain⟨_,_⟩:=nef hb l4))))<;>(try simp(disch:=omega) only[go_sem,seval,hlk,hrk,hil,Option.getD_some, *]))))
  all_goals(refine ap Ay hQ ?_)
  all_goals(refine⟨_,_,Wk.of_eq ?_,?_,rfl,rfl⟩)
  all_goals first|rfl|(exact bC)
 |false=>
  rw[show eF vars rv ⟨false,xn,xz⟩=xz from rfl]
  clear hf
  simp only[aC]
  refine aw Tryz.func79 rfl Tryz.ntmps79 rfl fun Q hQ hQe=>?_
  (repeat'(first|refine Ctl ?_|((with_reducible refine j_ hK ?_);clear hK hE K E)|((with_reducible refine aj (fun h=>?_) (fun h=>?_))<;>(try(exfalso;assumption)))|((first|(with_reducible refine ae fun K E hK hE=>?_)|((with_reducible refine ao (fun b hb=>?_))))<;>(try simp(disch:=omega) only[go_sem,seval, *]))))
  all_goals(refine ap Ay hQ ?_)
  all_goals(refine⟨_,_,Wk.of_eq ?_,?_,rfl,rfl⟩)
  all_goals first|rfl|(exact bC)
structure WB where
 yes:Nat
 no:Nat
 val:Nat
 x:Nat
 tell:Nat
 row:Nat
 known:Nat
 slot:Nat
 walk:Nat
 rb:Nat
 kb:Nat
 sb:Nat
def WB.caps (B:WB):List VV:=[.ptr B.yes 0,.ptr B.no 0,.ptr B.val 0,.ptr B.x 0,.ptr B.tell 0,.ptr B.row 0,.ptr B.known 0,.ptr B.slot 0,.ptr B.walk 0]
structure Wk0 (t:St) (B:WB) (p:Nat) (ys ns:List Atm) (vars:List (List UInt8)) (tf:FuncId) (tc:List VV) (rv:List Int) (kn:List Bool):Prop where
 yes:t B.yes=.obj 41 [.lst (ys.map fun a=>aG a) .no]
 no:t B.no=.obj 41 [.lst (ns.map fun a=>aG a) .no]
 val:t B.val=.obj 149 [.fn 79 [.ptr B.row 0,.ptr B.slot 0]]
 x:t B.x=.obj 71 [.ptr p 0]
 tell:t B.tell=.obj 111 [.fn tf tc]
 row:t B.row=.obj 48 [.msl B.rb rv.length]
 known:t B.known=.obj 148 [.msl B.kb kn.length]
 slot:t B.slot=.obj 73 [.mp B.sb]
 walk:t B.walk=.obj 54 [.fn 80 [.ptr B.yes 0,.ptr B.no 0,.ptr B.val 0,.ptr B.x 0,.ptr B.tell 0,.ptr B.row 0,.ptr B.known 0,.ptr B.slot 0,.ptr B.walk 0]]
 rb:t B.rb=.obj 3 (cY rv)
 kb:t B.kb=.obj 4 (cF kn)
 sb:t B.sb=.map (mpV bL (eL vars))
section
variable {t u : St} {B : WB} {p bm bz : Nat} {ys ns : List Atm} {vars : List (List UInt8)} {tf : FuncId} {tc : List VV} {rv rv' : List Int} {kn kn' : List Bool} {x : Pgm} {V : List (List (List UInt8))} {X : List Tab}
def WB.F (B:WB)(z:Nat):Prop:=z=B.yes\/z=B.no\/z=B.val\/z=B.x\/z=B.tell\/z=B.row\/z=B.known\/z=B.slot\/z=B.walk\/z=B.rb\/z=B.kb\/z=B.sb
theorem Wk0.live (h:Wk0 t B p ys ns vars tf tc rv kn){z:Nat}(hz:B.F z):t z≠.free:=by
 rcases hz with rfl|rfl|rfl|rfl|rfl|rfl|rfl|rfl|rfl|rfl|rfl|rfl
 ·rw[h.yes];simp
 ·rw[h.no];simp
 ·rw[h.val];simp
 ·rw[h.x];simp
 ·rw[h.tell];simp
 ·rw[h.row];simp
 ·rw[h.known];simp
 ·rw[h.slot];simp
 ·rw[h.walk];simp
 ·rw[h.rb];simp
 ·rw[h.kb];simp
 ·rw[h.sb];simp
theorem Wk0.keep (h:Wk0 t B p ys ns vars tf tc rv kn)(hk:∀z,B.F z->u z=t z):Wk0 u B p ys ns vars tf tc rv kn:=by
 unfold WB.F at hk
 constructor
 ·rw[hk _ (by simp)];exact h.yes
 ·rw[hk _ (by simp)];exact h.no
 ·rw[hk _ (by simp)];exact h.val
 ·rw[hk _ (by simp)];exact h.x
 ·rw[hk _ (by simp)];exact h.tell
 ·rw[hk _ (by simp)];exact h.row
 ·rw[hk _ (by simp)];exact h.known
 ·rw[hk _ (by simp)];exact h.slot
 ·rw[hk _ (by simp)];exact h.walk
 ·rw[hk _ (by simp)];exact h.rb
 ·rw[hk _ (by simp)];exact h.kb
 ·rw[hk _ (by simp)];exact h.sb
theorem bZ {T T':TypeId}{xs ys:List VV}{a b:Nat}(ha:t a=.obj T xs)(hb:t b=.obj T' ys)(hT:T≠T'):a≠b:=by
 rintro rfl
 rw[ha]at hb
 injection hb with h1 h2
 exact hT h1
theorem dg {T:TypeId}{xs:List VV}{es:List (VV×VV)}{a b:Nat}(ha:t a=.obj T xs)(hb:t b=.map es):a≠b:=by
 rintro rfl
 rw[ha]at hb
 cases hb
theorem Wk0.setR (h:Wk0 t B p ys ns vars tf tc rv kn)(hl:rv'.length=rv.length):Wk0 (t.set B.rb (.obj 3 (cY rv'))) B p ys ns vars tf tc rv' kn:=by
 have o:∀{a:Nat} {T:TypeId} {xs:List VV},t a=.obj T xs->T≠3->(t.set B.rb (.obj 3 (cY rv'))) a=.obj T xs:=fun ha hT=>by rw[k_ _ _ (bZ ha h.rb hT)];exact ha
 refine⟨o h.yes (by decide),o h.no (by decide),o h.val (by decide),o h.x (by decide),o h.tell (by decide),?_,o h.known (by decide),o h.slot (by decide),o h.walk (by decide),q_ _ _ _,o h.kb (by decide),?_⟩
 ·rw[hl];exact o h.row (by decide)
 ·rw[k_ _ _ (Ne.symm (dg h.rb h.sb))];exact h.sb
theorem Wk0.setK (h:Wk0 t B p ys ns vars tf tc rv kn)(hl:kn'.length=kn.length):Wk0 (t.set B.kb (.obj 4 (cF kn'))) B p ys ns vars tf tc rv kn':=by
 have o:∀{a:Nat} {T:TypeId} {xs:List VV},t a=.obj T xs->T≠4->(t.set B.kb (.obj 4 (cF kn'))) a=.obj T xs:=fun ha hT=>by rw[k_ _ _ (bZ ha h.kb hT)];exact ha
 refine⟨o h.yes (by decide),o h.no (by decide),o h.val (by decide),o h.x (by decide),o h.tell (by decide),o h.row (by decide),?_,o h.slot (by decide),o h.walk (by decide),o h.rb (by decide),q_ _ _ _,?_⟩
 ·rw[hl];exact o h.known (by decide)
 ·rw[k_ _ _ (Ne.symm (dg h.kb h.sb))];exact h.sb
def MdF (p bm bz:Nat)(X:List Tab)(z:Nat):Prop:=z=p\/z=bm\/z=bz\/TbF X z
theorem MdAt.live (h:MdAt t p bm bz x V X){z:Nat}(hz:MdF p bm bz X z):t z≠.free:=by
 rcases hz with rfl|rfl|rfl|hz
 ·rw[h.o];simp
 ·rw[h.h1];simp
 ·rw[h.h2];simp
 ·exact h.tb.live hz
theorem MdAt.no_obj (h:MdAt t p bm bz x V X){a:Nat}{T:TypeId}{xs:List VV}(ha:t a=.obj T xs)(h1:T≠77)(h2:T≠81):¬ MdF p bm bz X a:=by
 rintro(rfl|rfl|rfl|⟨y,hy,hz⟩)
 ·rw[h.o]at ha;injection ha with e;exact h1 e.symm
 ·rw[h.h1]at ha;cases ha
 ·rw[h.h2]at ha;cases ha
 ·have hT:=h.tb.at_ y hy
  rcases hz with rfl|rfl|⟨hl,rfl⟩
  ·rw[hT.o]at ha;injection ha with e;exact h2 e.symm
  ·rw[hT.h]at ha;cases ha
  ·rw[hT.r hl]at ha;cases ha
end
structure TellOk {A:Type} (tf:FuncId) (tc:List VV) (Rz:Nat->Prop) (P:A->St->(Nat->Prop)->Prop) (f:A->List Int->A×Bool) (ok:A->Prop) (good:List Int->Prop):Prop where
 can:au Tryz.prog tf
 live:∀a t F z,P a t F->F z->t z≠.free
 rd:∀a t F z,P a t F->Rz z->t z≠.free
 keep:∀a t u F,P a t F->(∀z,F z\/Rz z->u z=t z)->P a u F
 dec:∀a r,ok a->good r->(f a r).2=true->ok (f a r).1
 run:∀a t F r,P a t F->ok a->good r->SCalls Tryz.prog tf (ca r::tc) t fun w u=>∃u':St,w=.ret (.bool (f a r).2)/\u=u'/\∃F',P (f a r).1 u' F'/\(∀z,F' z->F z\/t z=.free)/\Keep t u' F
structure WkS {A:Type} (t:St) (B:WB) (p bm bz:Nat) (x:Pgm) (V:List (List (List UInt8))) (X:List Tab) (ys ns:List Atm) (vars:List (List UInt8)) (tf:FuncId) (tc:List VV) (Rz:Nat->Prop) (P:A->St->(Nat->Prop)->Prop)
  (a:A) (F:Nat->Prop) (rv:List Int) (kn:List Bool):Prop where
 w:Wk0 t B p ys ns vars tf tc rv kn
 m:MdAt t p bm bz x V X
 c:P a t F
 sep:∀z,F z->¬ B.F z/\¬ MdF p bm bz X z
 rsep:∀z,Rz z->z≠B.rb/\z≠B.kb
section
variable {A : Type} {t u : St} {B : WB} {p bm bz : Nat} {x : Pgm} {V : List (List (List UInt8))} {X : List Tab} {ys ns : List Atm} {vars : List (List UInt8)} {tf : FuncId} {tc : List VV} {Rz : Nat -> Prop} {P : A -> St -> (Nat -> Prop) -> Prop}
 {f:A->List Int->A×Bool} {ok:A->Prop} {good:List Int->Prop} {a a':A} {F F':Nat->Prop} {rv rv':List Int} {kn kn':List Bool}
theorem WkS.keep (h:WkS t B p bm bz x V X ys ns vars tf tc Rz P a F rv kn)(hT:TellOk tf tc Rz P f ok good)(hk:∀z,t z≠.free->u z=t z):WkS u B p bm bz x V X ys ns vars tf tc Rz P a F rv kn:=
 ⟨h.w.keep fun z hz=>hk z (h.w.live hz),h.m.keep fun z hz=>hk z (h.m.live hz),hT.keep _ _ _ _ h.c fun z hz=>hk z (hz.elim (hT.live _ _ _ _ h.c) (hT.rd _ _ _ _ h.c)),h.sep,h.rsep⟩
theorem WkS.setR (h:WkS t B p bm bz x V X ys ns vars tf tc Rz P a F rv kn)(hT:TellOk tf tc Rz P f ok good)(hl:rv'.length=rv.length):WkS (t.set B.rb (.obj 3 (cY rv'))) B p bm bz x V X ys ns vars tf tc Rz P a F rv' kn:=by
 refine⟨h.w.setR hl,h.m.keep fun z hz=>k_ _ _ ?_,hT.keep _ _ _ _ h.c fun z hz=>k_ _ _ ?_,h.sep,h.rsep⟩
 ·rintro rfl
  exact h.m.no_obj h.w.rb (by decide) (by decide) hz
 ·rintro rfl
  rcases hz with hz|hz
  ·exact(h.sep _ hz).1 (by simp[WB.F])
  ·exact(h.rsep _ hz).1 rfl
theorem WkS.setK (h:WkS t B p bm bz x V X ys ns vars tf tc Rz P a F rv kn)(hT:TellOk tf tc Rz P f ok good)(hl:kn'.length=kn.length):WkS (t.set B.kb (.obj 4 (cF kn'))) B p bm bz x V X ys ns vars tf tc Rz P a F rv kn':=by
 refine⟨h.w.setK hl,h.m.keep fun z hz=>k_ _ _ ?_,hT.keep _ _ _ _ h.c fun z hz=>k_ _ _ ?_,h.sep,h.rsep⟩
 ·rintro rfl
  exact h.m.no_obj h.w.kb (by decide) (by decide) hz
 ·rintro rfl
  rcases hz with hz|hz
  ·exact(h.sep _ hz).1 (by simp[WB.F])
  ·exact(h.rsep _ hz).2 rfl
theorem WkS.told (h:WkS t B p bm bz x V X ys ns vars tf tc Rz P a F rv kn)(hc:P a' u F')(hF:∀z,F' z->F z\/t z=.free)(hk:Keep t u F):WkS u B p bm bz x V X ys ns vars tf tc Rz P a' F' rv kn:=by
 refine⟨h.w.keep fun z hz=>hk z (h.w.live hz) fun e=>(h.sep z e).1 hz,h.m.keep fun z hz=>hk z (h.m.live hz) fun e=>(h.sep z e).2 hz,hc,fun z hz=>?_,h.rsep⟩
 rcases hF z hz with e|e
 ·exact h.sep z e
 ·exact⟨fun hz=>h.w.live hz e,fun hz=>h.m.live hz e⟩
theorem WkS.fg (h:WkS t B p bm bz x V X ys ns vars tf tc Rz P a F rv kn)(hT:TellOk tf tc Rz P f ok good)(hf:Fg u t):WkS u B p bm bz x V X ys ns vars tf tc Rz P a F rv kn:=
 h.keep hT fun z hz=>(hf z).elim (fun e=>absurd e hz) fun e=>e.symm
end
section
variable {P : Program} {N : Nat} {D : List Deferred} {c : Code} {k : List Itm} {Q : Pst} {env : Env} {s : St}
theorem EN (t g n:Nat){T:TypeId}{xs:List VV}(hb:s g=.row T 1 xs)(ht:env t=.mrw g n)(hn:xs.length=n)
  (h:Kp P N D (.code c::k) Q .norm (upd env t (.lst (xs.map fun y=>[y]) .no)) (s.set g .free)):Kp P N D (.code c::k) Q .norm env s:=by
 intro w0 G w a hfr hD hS
 obtain⟨G',hle,hS',hK,_⟩:=hS.frzR hb
 refine wp_mono (h w0 G' w a ⟨hfr.size,fun i=>?_⟩ hD hS') fun e a w=>Up.back hle
 by_cases e:i=t
 ·subst e
  have hr:=(hfr.rel i).mono hle
  rw[ht]at hr
  simp only[upd,if_true]
  exact hr.frz hn hK
 ·simp only[upd,if_neg e]
  exact(hfr.rel i).mono hle
theorem zR (t:Nat)(ht:env t=.lst [] .full)(h:Kp P N D (.code c::k) Q .norm (upd env t (.raw (.slice none 0 0))) s):Kp P N D (.code c::k) Q .norm env s:=by
 refine lT t ht (fun G v hr=>?_) h
 cases hr with
 |emp a cap o ho=>
  rcases ho with ho|⟨_,rfl,rfl⟩
  ·cases ho
  ·exact .raw _
 |lst b off len cap sz xs o f hl hc hz h1 hK hR ho=>
  simp at hl
  subst hl
  rcases ho with ho|⟨_,_,h0⟩|⟨ho,_⟩
  ·cases ho
  ·omega
  ·cases ho
end
end Go.Proofs.YteldpmgepfaiiaaGreatDoor
