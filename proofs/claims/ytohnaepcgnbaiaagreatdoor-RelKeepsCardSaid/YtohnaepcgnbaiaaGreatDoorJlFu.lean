/- Walks. Conditions: in the statements. -/
import Derived.Test.YtohnaepcgnbaiaaGreatDoorJlGej
set_option maxHeartbeats 32000000
set_option linter.unusedSimpArgs false
set_option linter.unusedVariables false
set_option maxRecDepth 100000
namespace Go.Proofs.YtohnaepcgnbaiaaGreatDoor
open Go.RowKit
attribute [-go_sem] bJ cX bH bG aT cU cT
theorem CW:bi [[120],[122]]:=⟨by decide,by decide,by decide⟩
theorem BV:bi [[122],[120]]:=⟨by decide,by decide,by decide⟩
theorem Rl (T:List Tri):∀t,t∈T.map tN3->t.length=3/\∀v,v∈t->v<4:=fun t ht=>by
 obtain⟨p,_,rfl⟩:=A_.1 ht
 exact⟨rfl,fun v hv=>by simp[tN3]at hv;rcases hv with rfl|rfl|rfl<;>exact vd _⟩
theorem mI (T:List Tri):∀t,t∈T.map tZX->t.length=2/\∀v,v∈t->v<4:=fun t ht=>by
 obtain⟨p,_,rfl⟩:=A_.1 ht
 exact⟨rfl,fun v hv=>by simp[tZX]at hv;rcases hv with rfl|rfl<;>exact vd _⟩
theorem PA (T:List Tri):∀t,t∈T.map tXZ->t.length=2/\∀v,v∈t->v<4:=fun t ht=>by
 obtain⟨p,_,rfl⟩:=A_.1 ht
 exact⟨rfl,fun v hv=>by simp[tXZ]at hv;rcases hv with rfl|rfl<;>exact vd _⟩
theorem nk (v:Nat)(T:List Tri):∀t,t∈fq v T->t.length=2/\∀v,v∈t->v<4:=fun t ht=>PA _ t ht
theorem nj (T:List Tri):∀t,t∈fp T->t.length=2/\∀v,v∈t->v<4:=fun t ht=>PA _ t ht
theorem qu {T:TU}(h:∀t,t∈T->t.length=2/\∀v,v∈t->v<4):(br T).length<=64:=Nat.le_trans (jG (w:=2) h) (by decide)
theorem Rk {o:TU}{T:List Tri}{d e:Nat}{g:Tf}(h:Tells o [d,e] (·∈T.map tXZ) g):Tells o [e,d] (·∈T.map tZX) g:=h.swap.iff fun r=>by
 simp only[A_]
 constructor
 ·rintro⟨t,ht,e⟩;exact⟨t,ht,by rw[<- List.reverse_reverse r,<- e];rfl⟩
 ·rintro⟨t,ht,e⟩;exact⟨t,ht,by rw[<- e];rfl⟩
theorem AQ {f:Tri->TW}{T:List Tri}{n:Nat}{t:Tri}(h:T[n]?=some t):br ((T.take (n+1)).map f)=putRow (br ((T.take n).map f)) (eE (f t)):=by
 rw[List.take_add_one,h,Option.toList,List.map_append,List.map_cons,List.map_nil,jH]
theorem QL {v:Nat}{T:List Tri}{n:Nat}{t:Tri}(h:T[n]?=some t):br (fq v (T.take (n+1)))=if lo2 t.2.1=v then putRow (br (fq v (T.take n))) (eE (tXZ t))else br (fq v (T.take n)):=by
 unfold fq
 rw[List.take_add_one,h,Option.toList,List.filter_append,List.map_append]
 by_cases e:lo2 t.2.1=v
 ·rw[if_pos e,<- jH]
  simp[e]
 ·rw[if_neg e]
  simp[e]
theorem P2 {T:List Tri}{n:Nat}{t:Tri}(h:T[n]?=some t):br (fp (T.take (n+1)))=if lo2 t.1=lo2 t.2.1 then putRow (br (fp (T.take n))) (eE (tXZ t))else br (fp (T.take n)):=by
 unfold fp
 rw[List.take_add_one,h,Option.toList,List.filter_append,List.map_append]
 by_cases e:lo2 t.1=lo2 t.2.1
 ·rw[if_pos e,<- jH]
  simp[e]
 ·rw[if_neg e]
  simp[e]
theorem QY {U:TU}{i:Nat}{t:TW}(h:U[i]?=some t):(cu (U.map eE))[i]?=some [.lst (ak t) .no]:=by
 simp[cu,h,cK,eE,ak,aI,Function.comp_def]
theorem yC (s:St)(od:Int)(T:List Tri)(vl:Int)(hT:T.length<=140737488355328):SRet Tryz.prog 6 [.int .i64 od,.lst (k9 T) .no,.int .i64 vl] s (.bool true) s:=by
 have hTl:=GY (T:=T)
 by_cases h20:(T.length:Int) > 20
 ·have wa:=gg s
  generalize k9 T=PT at *
  refine am Tryz.func6 rfl Tryz.ntmps6 rfl fun Q hQ hQe=>?_
  (repeat'(first|refine Ctl ?_|((with_reducible refine k_ hK ?_);clear hK hE K E)|((with_reducible refine bZ (fun h=>?_) (fun h=>?_))<;>(try(exfalso;assumption)))|(((with_reducible first|refine ab fun K E hK hE=>?_|refine ae yS (wa) ?_))<;>(try simp(disch:=omega) only[go_sem,seval,hTl,h20, *]))))
  all_goals(refine aq Rq hQ ?_)
  all_goals exact⟨_,_,Wk.refl _,Fg.refl _,rfl,rfl⟩
 have hT20:T.length<=20:=by omega
 obtain⟨i,hi3,wb⟩:=pj s od
 have HAT:=o_ (fun(j:Nat) (t:Tri) (h:T[j]?=some t)=>PX h)
 have av:=fA vl
 obtain⟨vv,hvv⟩:∃k,k=lo2 vl:=⟨_,rfl⟩
 have hv4:vv<4:=hvv ▸ vd vl
 rw[<- hvv]at av
 clear hvv
 generalize k9 T=PT at *
 refine am Tryz.func6 rfl Tryz.ntmps6 rfl fun Q hQ hQe=>?_
 (repeat'(first|refine Ctl ?_|((with_reducible refine k_ hK ?_);clear hK hE K E)|((with_reducible refine bZ (fun h=>?_) (fun h=>?_))<;>(try(exfalso;assumption)))|(((with_reducible refine ab fun K E hK hE=>?_))<;>(try simp(disch:=omega) only[go_sem,seval,hTl,h20, *]))))
 refine ao Sd wb (fun a h=>?_)
 obtain⟨u0,K0,q,c,x⟩:=a
 have L0:=RLaw.of h hi3
 dsimp only at L0 ⊢
 have HL0:=o_ L0
 clear h wb L0
 simp only[go_sem,seval]
 (repeat'(first|refine Ctl ?_|((with_reducible refine k_ hK ?_);clear hK hE K E)|((with_reducible refine bZ (fun h=>?_) (fun h=>?_))<;>(try(exfalso;assumption)))|(((with_reducible refine ab fun K E hK hE=>?_))<;>(try simp(disch:=omega) only[go_sem,seval,hTl,av, *]))))
 refine aY (fun f env s'=>∃(n:Nat) (w9 w10 w11 w12:Own),n<=T.length/\f+n=T.length/\s'=u0/\env 1=.lst PT .no/\env 7=.ptr x 0/\env 9=.lst (cu (br ((T.take n).map tN3))) w9/\env 10=.lst (cu (br ((T.take n).map tZX))) w10/\env 11=.lst (cu (br (fq vv (T.take n)))) w11/\env 12=.lst (cu (br (fp (T.take n)))) w12/\env 13=.int .i64 (vv:Int)/\env 14=.int .i64 (n:Int)) T.length
  ⟨0,.full,.full,.full,.full,by omega,by omega,rfl,ac,ac,(by(rw[show cu (br ((T.take 0).map tN3))=[] from rfl];((try simp(disch:=assumption) only[go_sem,seval, *])<;>rfl))),(by(rw[show cu (br ((T.take 0).map tZX))=[] from rfl];((try simp(disch:=assumption) only[go_sem,seval, *])<;>rfl))),(by(rw[show cu (br (fq vv (T.take 0)))=[] from rfl];((try simp(disch:=assumption) only[go_sem,seval, *])<;>rfl))),(by(rw[show cu (br (fp (T.take 0)))=[] from rfl];((try simp(disch:=assumption) only[go_sem,seval, *])<;>rfl))),ac,ac⟩ ?_
 rintro f env s' ⟨n,w9,w10,w11,w12,hn,hfn,rfl,e1,e7,e9,e10,e11,e12,e13,e14⟩
 by_cases hlt:n<T.length
 ·obtain⟨t,ht⟩:∃t,T[n]?=some t:=⟨_,m_ hlt⟩
  have hx:=HAT.out n t ht
  have a1:=fA t.1
  have a2:=fA t.2.1
  have a3:=fA t.2.2
  have n1:=AQ (f:=tN3) ht
  have n2:=AQ (f:=tZX) ht
  have n3:=QL (v:=vv) ht
  have n4:=P2 ht
  have wp1:=iP (br ((T.take n).map tN3)) (eE (tN3 t)) w9 .full (gw (w:=3) (by decide) (Rl _)) (by simp[eE,tN3]) s'
  have wp2:=iP (br ((T.take n).map tZX)) (eE (tZX t)) w10 .full (gw (w:=2) (by decide) (mI _)) (by simp[eE,tZX]) s'
  have wp3:=iP (br (fq vv (T.take n))) (eE (tXZ t)) w11 .full (gw (w:=2) (by decide) (nk _ _)) (by simp[eE,tXZ]) s'
  have wp4:=iP (br (fp (T.take n))) (eE (tXZ t)) w12 .full (gw (w:=2) (by decide) (nj _)) (by simp[eE,tXZ]) s'
  rw[<- n1,show aI (eE (tN3 t))=[[.int .i64 ((lo2 t.1:Nat):Int)],[.int .i64 ((lo2 t.2.1:Nat):Int)],[.int .i64 ((lo2 t.2.2:Nat):Int)]] from rfl]at wp1
  rw[<- n2,show aI (eE (tZX t))=[[.int .i64 ((lo2 t.2.2:Nat):Int)],[.int .i64 ((lo2 t.1:Nat):Int)]] from rfl]at wp2
  rw[show aI (eE (tXZ t))=[[.int .i64 ((lo2 t.1:Nat):Int)],[.int .i64 ((lo2 t.2.2:Nat):Int)]] from rfl]at wp3 wp4
  clear n1 n2 ht
  generalize cu (br ((T.take n).map tN3))=R1 at *
  generalize cu (br ((T.take n).map tZX))=R2 at *
  generalize hR1:cu (br ((T.take (n+1)).map tN3))=Q1 at *
  generalize hR2:cu (br ((T.take (n+1)).map tZX))=Q2 at *
  have HR1:=o_ hR1
  have HR2:=o_ hR2
  clear hR1 hR2
  by_cases hp:lo2 t.2.1=vv
  ·by_cases hs:lo2 t.1=lo2 t.2.1
   ·rw[if_pos hp]at n3
    rw[if_pos hs]at n4
    rw[<- n3]at wp3
    rw[<- n4]at wp4
    generalize hO3:cu (br (fq vv (T.take n)))=R3 at *
    generalize hO4:cu (br (fp (T.take n)))=R4 at *
    generalize hR3:cu (br (fq vv (T.take (n+1))))=Q3 at *
    generalize hR4:cu (br (fp (T.take (n+1))))=Q4 at *
    have HR3:=o_ hR3
    have HR4:=o_ hR4
    rw[hs]at a1 wp1 wp2 wp3 wp4
    rw[hp]at a1 a2 wp1 wp2 wp3 wp4
    clear hR3 hR4 hO3 hO4 n3 n4 hp hs
    generalize lo2 t.2.2=c3 at *
    obtain⟨t1,t2,t3⟩:=t
    dsimp only at hx a1 a2 a3
    (repeat'(first|refine Ctl ?_|(with_reducible first|(refine k_ hK ?_;clear hK hE K E)|(refine k_ hKh ?_;clear hKh Kh)|(refine k_ hKb (aC ?_);clear hKb Kb)|refine ax 11 [] [0,1,2,3,4,5,6,7,8,9,10,11,12,13,14,15,16,17,18,19] hQe fun K E hK hE=>?_|refine ax 13 [([0,1,2,3,4,5,6,7],8,[[]])] [9] hQe fun K E hK hE=>?_|refine ax 15 [([0,1,2,3,4,5,6,7],8,[[]])] [9] hQe fun K E hK hE=>?_|refine ax 16 [] [0,1,2,3,4,5,6] hQe fun K E hK hE=>?_|refine ax 17 [([0,1,2,3,4,5,6,7],8,[[]])] [9] hQe fun K E hK hE=>?_)|((with_reducible refine bZ (fun h=>?_) (fun h=>?_))<;>(try(exfalso;assumption)))|(((with_reducible first|refine ab fun K E hK hE=>?_|refine ae xL (wp1) ?_|refine ae xL (wp2) ?_|refine ae xL (wp3) ?_|refine ae xL (wp4) ?_|refine ay fun Kh hKh=>?_|refine aG fun Kh hKh=>?_|refine aB fun Kb hKb=>?_))<;>(try simp(disch:=omega) only[go_sem,seval,hTl,hx,a1,a2,a3, *]))))
    all_goals exact⟨f - 1,by omega,n+1,.no,.no,.no,.no,by omega,by omega,rfl,ac,ac,(by(rw[HR1.out];((try simp(disch:=assumption) only[go_sem,seval, *])<;>rfl))),(by(rw[HR2.out];((try simp(disch:=assumption) only[go_sem,seval, *])<;>rfl))),(by(rw[HR3.out];((try simp(disch:=assumption) only[go_sem,seval, *])<;>rfl))),(by(rw[HR4.out];((try simp(disch:=assumption) only[go_sem,seval, *])<;>rfl))),ac,ac⟩
   ·rw[if_pos hp]at n3
    rw[if_neg hs]at n4
    rw[<- n3]at wp3
    generalize hO3:cu (br (fq vv (T.take n)))=R3 at *
    generalize hO4:cu (br (fp (T.take n)))=R4 at *
    generalize hR3:cu (br (fq vv (T.take (n+1))))=Q3 at *
    have hR4:cu (br (fp (T.take (n+1))))=R4:=by rw[n4,hO4]
    have HR3:=o_ hR3
    have HR4:=o_ hR4
    have hsn:¬ ((lo2 t.1:Nat):Int)=((lo2 t.2.1:Nat):Int):=by omega
    rw[hp]at a2 wp1 hsn
    clear hR3 hR4 hO3 hO4 n3 n4 hp hs
    generalize lo2 t.1=c1 at *
    generalize lo2 t.2.2=c3 at *
    obtain⟨t1,t2,t3⟩:=t
    dsimp only at hx a1 a2 a3
    (repeat'(first|refine Ctl ?_|(with_reducible first|(refine k_ hK ?_;clear hK hE K E)|(refine k_ hKh ?_;clear hKh Kh)|(refine k_ hKb (aC ?_);clear hKb Kb)|refine ax 11 [] [0,1,2,3,4,5,6,7,8,9,10,11,12,13,14,15,16,17,18,19] hQe fun K E hK hE=>?_|refine ax 13 [([0,1,2,3,4,5,6,7],8,[[]])] [9] hQe fun K E hK hE=>?_|refine ax 15 [([0,1,2,3,4,5,6,7],8,[[]])] [9] hQe fun K E hK hE=>?_|refine ax 16 [] [0,1,2,3,4,5,6] hQe fun K E hK hE=>?_)|((with_reducible refine bZ (fun h=>?_) (fun h=>?_))<;>(try(exfalso;assumption)))|(((with_reducible first|refine ab fun K E hK hE=>?_|refine ae xL (wp1) ?_|refine ae xL (wp2) ?_|refine ae xL (wp3) ?_|refine ay fun Kh hKh=>?_|refine aG fun Kh hKh=>?_|refine aB fun Kb hKb=>?_))<;>(try simp(disch:=omega) only[go_sem,seval,hTl,hx,a1,a2,a3,hsn, *]))))
    all_goals exact⟨f - 1,by omega,n+1,.no,.no,.no,w12,by omega,by omega,rfl,ac,ac,(by(rw[HR1.out];((try simp(disch:=assumption) only[go_sem,seval, *])<;>rfl))),(by(rw[HR2.out];((try simp(disch:=assumption) only[go_sem,seval, *])<;>rfl))),(by(rw[HR3.out];((try simp(disch:=assumption) only[go_sem,seval, *])<;>rfl))),(by(rw[HR4.out];((try simp(disch:=assumption) only[go_sem,seval, *])<;>rfl))),ac,ac⟩
  ·by_cases hs:lo2 t.1=lo2 t.2.1
   ·rw[if_neg hp]at n3
    rw[if_pos hs]at n4
    rw[<- n4]at wp4
    generalize hO3:cu (br (fq vv (T.take n)))=R3 at *
    generalize hO4:cu (br (fp (T.take n)))=R4 at *
    have hR3:cu (br (fq vv (T.take (n+1))))=R3:=by rw[n3,hO3]
    generalize hR4:cu (br (fp (T.take (n+1))))=Q4 at *
    have HR3:=o_ hR3
    have HR4:=o_ hR4
    have hpn:¬ ((lo2 t.2.1:Nat):Int)=(vv:Int):=by omega
    rw[hs]at a1 wp1 wp2 wp3 wp4
    clear hR3 hR4 hO3 hO4 n3 n4 hp hs
    generalize lo2 t.2.1=c2 at *
    generalize lo2 t.2.2=c3 at *
    obtain⟨t1,t2,t3⟩:=t
    dsimp only at hx a1 a2 a3
    (repeat'(first|refine Ctl ?_|(with_reducible first|(refine k_ hK ?_;clear hK hE K E)|(refine k_ hKh ?_;clear hKh Kh)|(refine k_ hKb (aC ?_);clear hKb Kb)|refine ax 11 [] [0,1,2,3,4,5,6,7,8,9,10,11,12,13,14,15,16,17,18,19] hQe fun K E hK hE=>?_|refine ax 13 [([0,1,2,3,4,5,6,7],8,[[]])] [9] hQe fun K E hK hE=>?_|refine ax 16 [] [0,1,2,3,4,5,6] hQe fun K E hK hE=>?_|refine ax 17 [([0,1,2,3,4,5,6,7],8,[[]])] [9] hQe fun K E hK hE=>?_)|((with_reducible refine bZ (fun h=>?_) (fun h=>?_))<;>(try(exfalso;assumption)))|(((with_reducible first|refine ab fun K E hK hE=>?_|refine ae xL (wp1) ?_|refine ae xL (wp2) ?_|refine ae xL (wp4) ?_|refine ay fun Kh hKh=>?_|refine aG fun Kh hKh=>?_|refine aB fun Kb hKb=>?_))<;>(try simp(disch:=omega) only[go_sem,seval,hTl,hx,a1,a2,a3,hpn, *]))))
    all_goals exact⟨f - 1,by omega,n+1,.no,.no,w11,.no,by omega,by omega,rfl,ac,ac,(by(rw[HR1.out];((try simp(disch:=assumption) only[go_sem,seval, *])<;>rfl))),(by(rw[HR2.out];((try simp(disch:=assumption) only[go_sem,seval, *])<;>rfl))),(by(rw[HR3.out];((try simp(disch:=assumption) only[go_sem,seval, *])<;>rfl))),(by(rw[HR4.out];((try simp(disch:=assumption) only[go_sem,seval, *])<;>rfl))),ac,ac⟩
   ·rw[if_neg hp]at n3
    rw[if_neg hs]at n4
    generalize hO3:cu (br (fq vv (T.take n)))=R3 at *
    generalize hO4:cu (br (fp (T.take n)))=R4 at *
    have hR3:cu (br (fq vv (T.take (n+1))))=R3:=by rw[n3,hO3]
    have hR4:cu (br (fp (T.take (n+1))))=R4:=by rw[n4,hO4]
    have HR3:=o_ hR3
    have HR4:=o_ hR4
    have hsn:¬ ((lo2 t.1:Nat):Int)=((lo2 t.2.1:Nat):Int):=by omega
    have hpn:¬ ((lo2 t.2.1:Nat):Int)=(vv:Int):=by omega
    clear hR3 hR4 hO3 hO4 n3 n4 hp hs
    generalize lo2 t.2.1=c2 at *
    generalize lo2 t.1=c1 at *
    generalize lo2 t.2.2=c3 at *
    obtain⟨t1,t2,t3⟩:=t
    dsimp only at hx a1 a2 a3
    (repeat'(first|refine Ctl ?_|(with_reducible first|(refine k_ hK ?_;clear hK hE K E)|(refine k_ hKh ?_;clear hKh Kh)|(refine k_ hKb (aC ?_);clear hKb Kb)|refine ax 11 [] [0,1,2,3,4,5,6,7,8,9,10,11,12,13,14,15,16,17,18,19] hQe fun K E hK hE=>?_|refine ax 13 [([0,1,2,3,4,5,6,7],8,[[]])] [9] hQe fun K E hK hE=>?_|refine ax 16 [] [0,1,2,3,4,5,6] hQe fun K E hK hE=>?_)|((with_reducible refine bZ (fun h=>?_) (fun h=>?_))<;>(try(exfalso;assumption)))|(((with_reducible first|refine ab fun K E hK hE=>?_|refine ae xL (wp1) ?_|refine ae xL (wp2) ?_|refine ay fun Kh hKh=>?_|refine aG fun Kh hKh=>?_|refine aB fun Kb hKb=>?_))<;>(try simp(disch:=omega) only[go_sem,seval,hTl,hx,a1,a2,a3,hpn,hsn, *]))))
    all_goals exact⟨f - 1,by omega,n+1,.no,.no,w11,w12,by omega,by omega,rfl,ac,ac,(by(rw[HR1.out];((try simp(disch:=assumption) only[go_sem,seval, *])<;>rfl))),(by(rw[HR2.out];((try simp(disch:=assumption) only[go_sem,seval, *])<;>rfl))),(by(rw[HR3.out];((try simp(disch:=assumption) only[go_sem,seval, *])<;>rfl))),(by(rw[HR4.out];((try simp(disch:=assumption) only[go_sem,seval, *])<;>rfl))),ac,ac⟩
 ·have hin:n=T.length:=by omega
  rw[hin,b_]at e9 e10 e11 e12
  have hnl:¬ (n:Int)<(T.length:Int):=by omega
  obtain⟨U,hU1,hU2,hU3⟩:=Qd (T.map tN3)
  have hUl:U.length<=20:=by
   rw[hU3]
   exact Nat.le_trans (Q8 _) (by rw[z_];exact hT20)
  rw[hU1]at e9
  have w:=HL0.out.make .full .full kZ rfl (by decide) (by decide) U (cu (U.map eE)) w9 (D:=[2,0,1]) (N':=1402) (fun t ht=>Rl T t ((hU2 t).1 ht)) (fun i t h=>⟨_,QY h⟩) (by simp[cu]) (by omega) (by simp;omega) (by omega)
  rw[show az [[120],[121],[122]]=[[.str [120]],[.str [121]],[.str [122]]] from rfl,show ak [2,0,1]=[[.int .i64 2],[.int .i64 0],[.int .i64 1]] from rfl]at w
  clear hn hfn hlt hin hU1 hU3 hUl hT20
  generalize cu (U.map eE)=RU at *
  generalize hX:cu (br (T.map tZX))=RX at *
  generalize hP:cu (br (fq vv T))=RP at *
  generalize hS:cu (br (fp T))=RS at *
  have HX:=o_ hX
  have HP:=o_ hP
  have HS:=o_ hS
  clear hX hP hS
  (repeat'(first|refine Ctl ?_|((with_reducible refine k_ hK ?_);clear hK hE K E)|((with_reducible refine bZ (fun h=>?_) (fun h=>?_))<;>(try(exfalso;assumption)))|(((with_reducible refine ab fun K E hK hE=>?_))<;>(try simp(disch:=omega) only[go_sem,seval,hTl,hnl, *]))))
  refine ao xK w (fun a h=>?_)
  obtain⟨⟨u1,K1,m1,ns1,k_1⟩,f1⟩:=a
  have L1:=h.L
  have T1:=h.T
  have na:=h.nd
  dsimp only at L1 T1 na ⊢
  have HA:=o_ T1
  clear h w T1 HL0 e9
  simp only[go_sem,seval]
  (repeat'(first|refine Ctl ?_|((with_reducible refine k_ hK ?_);clear hK hE K E)|((first|(with_reducible refine ab fun K E hK hE=>?_)|((with_reducible refine au (fun b hb=>?_))))<;>(try simp(disch:=omega) only[go_sem,seval, *]))))
  obtain⟨b16,hb16⟩:∃z,z=b:=⟨_,rfl⟩
  subst hb16
  have fb16:u1 b16=.free:=hb
  obtain⟨v1,huv1⟩:∃z,z=u1.set b16 (.obj 30 (rv3 [120] [121] [122] 2 0 1 k_1)):=⟨_,rfl⟩
  rw[<- huv1]
  have gv1:∀z,u1 z≠.free->v1 z=u1 z:=fun z hz=>by rw[huv1,j_ _ _ (nef fb16 hz).1]
  have kb16:v1 b16=.obj 30 (rv3 [120] [121] [122] 2 0 1 k_1):=by rw[huv1,q_]
  try simp only[rv2]at kb16
  try simp only[rv3]at kb16
  clear huv1 hb
  have hb16s:=L1.free fb16
  have HA:=o_ (HA.out.iff hU2)
  have hD:=L1.D
  have hod:=L1.w2 (d:=0) (by decide)
  have w:=(L1.more gv1).keep HA.out na .no .no kZ rfl (by decide) (by decide) (by decide) .full CW (by decide) (by decide) (D':=[2,1]) (K':=[0]) (S':=(·∈T.map tXZ)) (N':=2166) rfl rfl (Dk hD (by decide) hod HA.out rJ) (by decide) (by decide)
  simp only[az,ak,dM,List.map_cons,List.map_nil,fc,fb,eZ,eY]at w
  refine ao GX w (fun a h=>?_)
  obtain⟨⟨u2,K2,m2,ns2,k_2⟩,f2⟩:=a
  have L2:=h.L
  have T2:=h.T
  have nb:=h.nd
  have na:=na.app h.pre
  have kb16:=h.own b16 _ kb16
  dsimp only at L2 T2 nb na kb16 ⊢
  have hlb16:u2 b16≠.free:=by rw[kb16];simp
  have HB:=o_ T2
  clear h w T2 L1 gv1
  simp only[go_sem,seval]
  (repeat'(first|refine Ctl ?_|((with_reducible refine k_ hK ?_);clear hK hE K E)|((first|(with_reducible refine ab fun K E hK hE=>?_)|((with_reducible refine au (fun b hb=>?_));(try(obtain⟨_,_⟩:=nef hb hlb16))))<;>(try simp(disch:=omega) only[go_sem,seval, *]))))
  obtain⟨b18,hb18⟩:∃z,z=b:=⟨_,rfl⟩
  subst hb18
  have fb18:u2 b18=.free:=hb
  obtain⟨v2,huv2⟩:∃z,z=u2.set b18 (.obj 30 (rv2 [120] [122] 2 1 k_2)):=⟨_,rfl⟩
  rw[<- huv2]
  have gv2:∀z,u2 z≠.free->v2 z=u2 z:=fun z hz=>by rw[huv2,j_ _ _ (nef fb18 hz).1]
  have kb18:v2 b18=.obj 30 (rv2 [120] [122] 2 1 k_2):=by rw[huv2,q_]
  try simp only[rv2]at kb18
  try simp only[rv3]at kb18
  clear huv2 hb
  have kb16:=(gv2 b16 hlb16).trans kb16
  have hb18s:=L2.free fb18
  have w:=(L2.more gv2).keep HB.out nb .no .no CW rfl (by decide) (by decide) (by decide) .full BV (by decide) (by decide) (D':=[1,2]) (K':=[]) (S':=(·∈T.map tZX)) (N':=2334) rfl rfl (by rw[xv];exact Rk HB.out) (by decide) (by decide)
  simp only[az,ak,dM,List.map_cons,List.map_nil,fc,fb,eZ,eY]at w
  refine ao GX w (fun a h=>?_)
  obtain⟨⟨u3,K3,m3,ns3,k_3⟩,f3⟩:=a
  have L3:=h.L
  have T3:=h.T
  have nb:=h.nd
  have na:=na.app h.pre
  have kb16:=h.own b16 _ kb16
  have kb18:=h.own b18 _ kb18
  dsimp only at L3 T3 nb na kb16 kb18 ⊢
  have HB:=o_ T3
  have n16:¬ b16=b18:=(‹_›)
  clear h w T3 L2 gv2
  simp only[go_sem,seval,kb18]
  (repeat'(first|refine Ctl ?_|((with_reducible refine k_ hK ?_);clear hK hE K E)|(((with_reducible refine ab fun K E hK hE=>?_))<;>(try simp(disch:=omega) only[go_sem,seval, *]))))
  obtain⟨v3,hv3⟩:∃z,z=u3.set b18 (.obj 30 (rv2 [122] [120] 1 2 k_3)):=⟨_,rfl⟩
  rw[<- hv3]
  have L3:RLaw s v3 K3 x m3 q c ns3 i 2334:=L3.fin fun z hz=>by
   by_cases e:z=b18
   ·subst e;exact .inr ⟨⟨_,kb18⟩,hb18s⟩
   ·exact .inl (by rw[hv3,j_ _ _ e])
  have kb16:=(show v3 b16=u3 b16 from by rw[hv3,j_ _ _ n16]).trans kb16
  have kb18:v3 b18=.obj 30 (rv2 [122] [120] 1 2 k_3):=by rw[hv3,q_]
  simp only[rv2]at kb18
  clear hv3
  have w:=L3.keep HA.out na .no .no kZ rfl (by decide) (by decide) (by decide) .full BV (by decide) (by decide) (D':=[1,2]) (K':=[0]) (S':=(·∈T.map tZX)) (N':=3098) rfl rfl (Rk (Dk hD (by decide) hod HA.out rJ)) (by decide) (by decide)
  simp only[az,ak,dM,List.map_cons,List.map_nil,fc,fb,eZ,eY]at w
  refine ao GX w (fun a h=>?_)
  obtain⟨⟨u4,K4,m4,ns4,k_4⟩,f4⟩:=a
  have L4:=h.L
  have T4:=h.T
  have nc:=h.nd
  have na:=na.app h.pre
  have nb:=nb.app h.pre
  have kb16:=h.own b16 _ kb16
  have kb18:=h.own b18 _ kb18
  dsimp only at L4 T4 nc na nb kb16 kb18 ⊢
  have hlb16:u4 b16≠.free:=by rw[kb16];simp
  have hlb18:u4 b18≠.free:=by rw[kb18];simp
  have HC:=o_ T4
  clear h w T4 L3
  simp only[go_sem,seval]
  (repeat'(first|refine Ctl ?_|((with_reducible refine k_ hK ?_);clear hK hE K E)|((first|(with_reducible refine ab fun K E hK hE=>?_)|((with_reducible refine au (fun b hb=>?_));(try(obtain⟨_,_⟩:=nef hb hlb16;obtain⟨_,_⟩:=nef hb hlb18))))<;>(try simp(disch:=omega) only[go_sem,seval, *]))))
  obtain⟨b21,hb21⟩:∃z,z=b:=⟨_,rfl⟩
  subst hb21
  have fb21:u4 b21=.free:=hb
  obtain⟨v4,huv4⟩:∃z,z=u4.set b21 (.obj 30 (rv2 [122] [120] 1 2 k_4)):=⟨_,rfl⟩
  rw[<- huv4]
  have gv4:∀z,u4 z≠.free->v4 z=u4 z:=fun z hz=>by rw[huv4,j_ _ _ (nef fb21 hz).1]
  have kb21:v4 b21=.obj 30 (rv2 [122] [120] 1 2 k_4):=by rw[huv4,q_]
  try simp only[rv2]at kb21
  try simp only[rv3]at kb21
  clear huv4 hb
  have kb16:=(gv4 b16 hlb16).trans kb16
  have kb18:=(gv4 b18 hlb18).trans kb18
  have hb21s:=L4.free fb21
  have w:=(L4.more gv4).pick HA.out na .no .no kZ rfl (by decide) (by decide) [121] (j:=1) (d:=0) (v:=vv) rfl rfl hv4 (A':=[[120],[122]]) (D':=[2,1]) (S':=(·∈fq vv T)) (N':=3612) rfl rfl (Rc hD (by decide) hod HA.out rJ) (by decide) (by decide)
  simp only[az,ak,dM,List.map_cons,List.map_nil,fc,fb,eZ,eY]at w
  refine ao Sg w (fun a h=>?_)
  obtain⟨⟨u5,K5,m5,ns5,k_5⟩,f5⟩:=a
  have L5:=h.L
  have T5:=h.T
  have nd:=h.nd
  have na:=na.app h.pre
  have nb:=nb.app h.pre
  have nc:=nc.app h.pre
  have kb16:=h.own b16 _ kb16
  have kb18:=h.own b18 _ kb18
  have kb21:=h.own b21 _ kb21
  dsimp only at L5 T5 nd na nb nc kb16 kb18 kb21 ⊢
  have hlb16:u5 b16≠.free:=by rw[kb16];simp
  have hlb18:u5 b18≠.free:=by rw[kb18];simp
  have hlb21:u5 b21≠.free:=by rw[kb21];simp
  have HD:=o_ T5
  clear h w T5 L4 gv4
  simp only[go_sem,seval]
  (repeat'(first|refine Ctl ?_|((with_reducible refine k_ hK ?_);clear hK hE K E)|((first|(with_reducible refine ab fun K E hK hE=>?_)|((with_reducible refine au (fun b hb=>?_));(try(obtain⟨_,_⟩:=nef hb hlb16;obtain⟨_,_⟩:=nef hb hlb18;obtain⟨_,_⟩:=nef hb hlb21))))<;>(try simp(disch:=omega) only[go_sem,seval, *]))))
  obtain⟨b23,hb23⟩:∃z,z=b:=⟨_,rfl⟩
  subst hb23
  have fb23:u5 b23=.free:=hb
  obtain⟨v5,huv5⟩:∃z,z=u5.set b23 (.obj 30 (rv2 [120] [122] 2 1 k_5)):=⟨_,rfl⟩
  rw[<- huv5]
  have gv5:∀z,u5 z≠.free->v5 z=u5 z:=fun z hz=>by rw[huv5,j_ _ _ (nef fb23 hz).1]
  have kb23:v5 b23=.obj 30 (rv2 [120] [122] 2 1 k_5):=by rw[huv5,q_]
  try simp only[rv2]at kb23
  try simp only[rv3]at kb23
  clear huv5 hb
  have kb16:=(gv5 b16 hlb16).trans kb16
  have kb18:=(gv5 b18 hlb18).trans kb18
  have kb21:=(gv5 b21 hlb21).trans kb21
  have hb23s:=L5.free fb23
  have w:=(L5.more gv5).same HA.out na .no .no kZ rfl (by decide) (by decide) [120] [121] (j:=0) (j2:=1) (e:=2) (d:=0) rfl rfl rfl rfl (by decide) (A':=[[120],[122]]) (D':=[2,1]) (S':=(·∈fp T)) (N':=4256) rfl rfl (QW hD (by decide) hod HA.out rJ) (by decide) (by decide)
  simp only[az,ak,dM,List.map_cons,List.map_nil,fc,fb,eZ,eY]at w
  refine ao Sf w (fun a h=>?_)
  obtain⟨⟨u6,K6,m6,ns6,k_6⟩,f6⟩:=a
  have L6:=h.L
  have T6:=h.T
  have ne:=h.nd
  have na:=na.app h.pre
  have nb:=nb.app h.pre
  have nc:=nc.app h.pre
  have nd:=nd.app h.pre
  have kb18:=h.own b18 _ kb18
  have kb21:=h.own b21 _ kb21
  have kb23:=h.own b23 _ kb23
  dsimp only at L6 T6 ne na nb nc nd kb18 kb21 kb23 ⊢
  have hlb18:u6 b18≠.free:=by rw[kb18];simp
  have hlb21:u6 b21≠.free:=by rw[kb21];simp
  have hlb23:u6 b23≠.free:=by rw[kb23];simp
  have HE:=o_ T6
  clear h w T6 L5 gv5 kb16
  simp only[go_sem,seval]
  (repeat'(first|refine Ctl ?_|((with_reducible refine k_ hK ?_);clear hK hE K E)|((with_reducible refine bZ (fun h=>?_) (fun h=>?_))<;>(try(exfalso;assumption)))|((first|(with_reducible refine ab fun K E hK hE=>?_)|((with_reducible refine au (fun b hb=>?_));(try(obtain⟨_,_⟩:=nef hb hlb18;obtain⟨_,_⟩:=nef hb hlb21;obtain⟨_,_⟩:=nef hb hlb23))))<;>(try simp(disch:=omega) only[go_sem,seval, *]))))
  obtain⟨b25,hb25⟩:∃z,z=b:=⟨_,rfl⟩
  subst hb25
  have fb25:u6 b25=.free:=hb
  obtain⟨v6,huv6⟩:∃z,z=u6.set b25 (.obj 30 (rv2 [120] [122] 2 1 k_6)):=⟨_,rfl⟩
  rw[<- huv6]
  have gv6:∀z,u6 z≠.free->v6 z=u6 z:=fun z hz=>by rw[huv6,j_ _ _ (nef fb25 hz).1]
  have kb25:v6 b25=.obj 30 (rv2 [120] [122] 2 1 k_6):=by rw[huv6,q_]
  try simp only[rv2]at kb25
  try simp only[rv3]at kb25
  clear huv6 hb
  have kb18:=(gv6 b18 hlb18).trans kb18
  have kb21:=(gv6 b21 hlb21).trans kb21
  have kb23:=(gv6 b23 hlb23).trans kb23
  have hb25s:=L6.free fb25
  have w:=(L6.more gv6).tuples HB.out nb .no .no BV rfl (by decide) (by decide) (mI T) (most:=64) (N':=4328) (by decide) (qu (mI T)) (by decide) (by decide)
  simp only[az,ak,dM,List.map_cons,List.map_nil,fc,fb,eZ,eY]at w
  refine ao lW w (fun a h=>?_)
  obtain⟨u7,K7,m7,ns7⟩:=a
  obtain⟨L7,hpre,hown⟩:=h
  have nc:=nc.app hpre
  have nd:=nd.app hpre
  have ne:=ne.app hpre
  have kb21:=hown b21 _ kb21
  have kb23:=hown b23 _ kb23
  have kb25:=hown b25 _ kb25
  dsimp only at L7 nc nd ne kb21 kb23 kb25 ⊢
  rw[HX.out]
  clear w hpre hown kb18 L6 gv6
  simp only[go_sem,seval]
  (repeat'(first|refine Ctl ?_|((with_reducible refine k_ hK ?_);clear hK hE K E)|(((with_reducible refine ab fun K E hK hE=>?_))<;>(try simp(disch:=omega) only[go_sem,seval, *]))))
  have w:=L7.tuples HC.out nc .no .no BV rfl (by decide) (by decide) (mI T) (most:=64) (N':=4400) (by decide) (qu (mI T)) (by decide) (by decide)
  simp only[az,ak,dM,List.map_cons,List.map_nil,fc,fb,eZ,eY]at w
  refine ao lW w (fun a h=>?_)
  obtain⟨u8,K8,m8,ns8⟩:=a
  obtain⟨L8,hpre,hown⟩:=h
  have nd:=nd.app hpre
  have ne:=ne.app hpre
  have kb23:=hown b23 _ kb23
  have kb25:=hown b25 _ kb25
  dsimp only at L8 nd ne kb23 kb25 ⊢
  rw[HX.out]
  clear w hpre hown kb21
  simp only[go_sem,seval]
  (repeat'(first|refine Ctl ?_|((with_reducible refine k_ hK ?_);clear hK hE K E)|(((with_reducible refine ab fun K E hK hE=>?_))<;>(try simp(disch:=omega) only[go_sem,seval, *]))))
  have w:=L8.tuples HD.out nd .no .no CW rfl (by decide) (by decide) (nk vv T) (most:=64) (N':=4472) (by decide) (qu (nk vv T)) (by decide) (by decide)
  simp only[az,ak,dM,List.map_cons,List.map_nil,fc,fb,eZ,eY]at w
  refine ao lW w (fun a h=>?_)
  obtain⟨u9,K9,m9,ns9⟩:=a
  obtain⟨L9,hpre,hown⟩:=h
  have ne:=ne.app hpre
  have kb25:=hown b25 _ kb25
  dsimp only at L9 ne kb25 ⊢
  rw[HP.out]
  clear w hpre hown kb23
  simp only[go_sem,seval]
  (repeat'(first|refine Ctl ?_|((with_reducible refine k_ hK ?_);clear hK hE K E)|(((with_reducible refine ab fun K E hK hE=>?_))<;>(try simp(disch:=omega) only[go_sem,seval, *]))))
  have w:=L9.tuples HE.out ne .no .no CW rfl (by decide) (by decide) (nj T) (most:=64) (N':=4544) (by decide) (qu (nj T)) (by decide) (by decide)
  simp only[az,ak,dM,List.map_cons,List.map_nil,fc,fb,eZ,eY]at w
  refine ao lW w (fun a h=>?_)
  obtain⟨u10,K10,m10,ns10⟩:=a
  obtain⟨L10,hpre,hown⟩:=h
  dsimp only at L10   ⊢
  rw[HS.out]
  clear w hpre hown kb25
  have r1:=gw (w:=2) (by decide) (mI T)
  have r2:=gw (w:=2) (by decide) (nk vv T)
  have r3:=gw (w:=2) (by decide) (nj T)
  have z1:=eT (br (T.map tZX)) (br (T.map tZX)) .no w10 r1 r1 u10
  have z2:=eT (br (fq vv T)) (br (fq vv T)) .no w11 r2 r2 u10
  have z3:=eT (br (fp T)) (br (fp T)) .no w12 r3 r3 u10
  rw[decide_eq_true rfl,HX.out]at z1
  rw[decide_eq_true rfl,HP.out]at z2
  rw[decide_eq_true rfl,HS.out]at z3
  have HLL:=o_ L10
  clear L10 HA HB HC HD HE r1 r2 r3
  simp only[go_sem,seval]
  (repeat'(first|refine Ctl ?_|((with_reducible refine k_ hK ?_);clear hK hE K E)|(((with_reducible first|refine ab fun K E hK hE=>?_|refine ae oZ (z1) ?_|refine ae oZ (z2) ?_|refine ae oZ (z3) ?_|refine ae yS (gg _) ?_))<;>(try simp(disch:=omega) only[go_sem,seval, *]))))
  all_goals(refine aq Rq hQ ?_)
  all_goals exact⟨_,_,Wk.refl _,HLL.out.fg,rfl,rfl⟩
end Go.Proofs.YtohnaepcgnbaiaaGreatDoor
