/- Walks of functions, and plain facts. Conditions: those in the statements. -/
import Derived.Test.YteldpmgepfaiiaaGreatDoorQsPkj
set_option linter.unusedSimpArgs false
set_option linter.unusedVariables false
set_option maxRecDepth 100000
namespace Go.Proofs.YteldpmgepfaiiaaGreatDoor
open Go.RowKit
def kf (e:Nat):Nat->Pgm->List Sgn->PU Pgm
 |0,_,_=>.error (0,0)
 |f+1,x,L=>if L=[] then .ok (x,L)else bu (tp e x L) fun x L=>kf e f x L
def unU:PU Pgm->Except (Nat×Nat) Pgm
 |.ok (x,_)=>.ok x
 |.error q=>.error q
def nU (l:List UInt8):Except (Nat×Nat) Pgm:=
 match bG l with
 |.error x=>.error x
 |.ok L=>unU (kf l.length (L.length+1) ⟨[],[],[]⟩ L)
theorem yY {l:List UInt8}{L:List Sgn}(h:bG l=.ok L):nU l=unU (kf l.length (L.length+1) ⟨[],[],[]⟩ L):=by unfold nU;rw[h]
theorem GS.pg0 {S:St}{b2:Nat}(h:S b2=.obj 26 [.lst [] .full,.lst [] .full,.lst [] .full]):GS S (S.set b2 (.pk 26 (pgC ⟨[],[],[]⟩) rsP)):=by
 have g1:=GS.topk h
 have hd:∀t:St,t.disown .full=t:=fun _=>rfl
 have g2:=GS.pack (i:=0) (l:=[]) (o:=.full) (T':=63) (sz:=2) (rs':=[(0,63,2)]) (q_ S b2 (.pk 26 [.lst [] .full,.lst [] .full,.lst [] .full] [])) rfl rfl (by simp)
 rw[hd,St.set_set]at g2
 have g3:=GS.pack (i:=1) (l:=[]) (o:=.full) (T':=66) (sz:=2) (rs':=[(0,63,2),(1,66,2)]) (q_ S b2 (.pk 26 [.lst [] .no,.lst [] .full,.lst [] .full] [(0,63,2)])) rfl rfl (by simp)
 rw[hd,St.set_set]at g3
 have g4:=GS.pack (i:=2) (l:=[]) (o:=.full) (T':=43) (sz:=4) (rs':=rsP) (q_ S b2 (.pk 26 [.lst [] .no,.lst [] .no,.lst [] .full] [(0,63,2),(1,66,2)])) rfl rfl (by simp)
 rw[hd,St.set_set]at g4
 exact g1.trans (g2.trans (g3.trans g4))
theorem kc:∀(f:Nat) (s:List UInt8) (at_:Nat) (out:List Sgn) (a e:Nat),eH f s at_ out=.error (a,e)->e≠0
 |0,s,at_,out,a,e,h=>by cases h
 |f+1,s,at_,out,a,e,h=>by
  simp only[eH]at h
  cases hd:s.drop (bI bT s)with
  |nil=>rw[hd]at h;cases h
  |cons c r=>
   rw[hd]at h
   simp only at h
   split at h
   ·exact kc f _ _ _ _ _ h
   ·split at h
    ·injection h with h;injection h with h1 h2;subst h2;decide
    ·split at h
     ·injection h with h;injection h with h1 h2;subst h2;decide
     ·exact kc f _ _ _ _ _ h
theorem pn {s:List UInt8}{a e:Nat}(h:bG s=.error (a,e)):e≠0:=by
 unfold bG at h
 split at h
 ·injection h with h;injection h with h1 h2;subst h2;decide
 ·exact kc _ _ _ _ _ _ h
theorem iO {c d:UInt8}:((c.toNat:Int)=(d.toNat:Int))=(c=d):=by
 apply propext
 rw[Int.natCast_inj,UInt8.toNat_inj]
theorem pa (c:UInt8)(s:St):SRet Tryz.prog 98 [.int .u8 c.toNat] s (.bool (df c)) s:=by
 refine aw Tryz.func98 rfl Tryz.ntmps98 rfl fun Q hQ hQe=>?_
 (repeat'(first|refine Ctl ?_|((with_reducible refine j_ hK ?_);clear hK hE K E)|((first|(with_reducible refine ae fun K E hK hE=>?_)|((with_reducible refine dy (fun h=>?_) (fun h=>?_))))<;>(try simp(disch:=assumption) only[go_sem,seval, *]))))
 all_goals(refine ap EV hQ ?_)
 all_goals(refine⟨_,_,Wk.of_eq ?_,?_,rfl,rfl⟩)
 all_goals first|exact Fg.refl _|skip
 all_goals(simp only[VV.bool.injEq,df];grind)
theorem yc (c:UInt8)(s:St):SRet Tryz.prog 100 [.int .u8 c.toNat] s (.bool (cu c)) s:=by
 refine aw Tryz.func100 rfl Tryz.ntmps100 rfl fun Q hQ hQe=>?_
 (repeat'(first|refine Ctl ?_|((with_reducible refine j_ hK ?_);clear hK hE K E)|((first|(with_reducible first|refine ae fun K E hK hE=>?_|refine ak BQ (pa _ _) ?_)|((with_reducible refine dy (fun h=>?_) (fun h=>?_))<;>(try(exfalso;omega))))<;>(try simp(disch:=assumption) only[go_sem,seval, *]))))
 all_goals(refine ap A0 hQ ?_)
 all_goals(refine⟨_,_,Wk.of_eq ?_,?_,rfl,rfl⟩)
 all_goals first|exact Fg.refl _|skip
 all_goals(simp only[VV.bool.injEq,cu,df];grind)
def rpB (d:Bool)(c:UInt8):Bool:=cu c && (!d || df c)
theorem zy {c:UInt8}(h:df c=true):cu c=true:=by simp[cu,h]
theorem JX (c:UInt8):rpB true c=df c:=by
 unfold rpB
 cases h:df c with
 |true=>simp[zy h]
 |false=>simp
theorem JY (c:UInt8):rpB false c=cu c:=by simp[rpB]
theorem JF (l:List UInt8)(a:Nat)(d:Bool)(s:St)(ha:a<=l.length)(hl:l.length<=9223372036854775000) :
    SRet Tryz.prog 99 [.str l,.int .i64 a,.bool d] s (.int .i64 (bI (rpB d) (l.drop a))) s:=by
  refine aw Tryz.func99 rfl Tryz.ntmps99 rfl fun Q hQ hQe=>?_
  (repeat'(first|refine Ctl ?_|((with_reducible refine j_ hK ?_);clear hK hE K E)|(((with_reducible refine ae fun K E hK hE=>?_))<;>(try simp(disch:=assumption) only[go_sem,seval, *]))))
  have hle:=d7 (rpB d) (l.drop a)
  rw[D_]at hle
  refine bB (fun m env s'=>∃k:Nat,k<=bI (rpB d) (l.drop a)/\m+k=bI (rpB d) (l.drop a)/\s'=s/\env 0=.str l/\env 1=.int .i64 a/\env 2=.bool d/\env 7=.int .i64 k) (bI (rpB d) (l.drop a)) ⟨0,by omega,by omega,rfl,by(simp(disch:=assumption) only[go_sem,seval, *]),by(simp(disch:=assumption) only[go_sem,seval, *]),by(simp(disch:=assumption) only[go_sem,seval, *]),by(simp(disch:=assumption) only[go_sem,seval, *])⟩ ?_
  rintro m env s' ⟨k,hk,hm,rfl,e0,e1,e2,e7⟩
  obtain⟨r1,r2,r3⟩:=qL (rpB d) (l.drop a) k hk
  simp only[List.getElem?_drop]at r1 r2 r3
  have c1:(a:Int)+(k:Int)=((a+k:Nat):Int):=by omega
  rcases hc:l[a+k]? with _|c
  · have hlt:¬ a+k<l.length:=by have:=List.getElem?_eq_none_iff.1 hc;omega
    have:=r3 hc
    (repeat'(first|refine Ctl ?_|((with_reducible refine j_ hK ?_);clear hK hE K E)|((with_reducible refine aj (fun h=>?_) (fun h=>?_))<;>(try(exfalso;assumption)))|(((with_reducible refine ae fun K E hK hE=>?_))<;>(try simp(disch:=omega) only[go_sem,seval, *]))))
    all_goals(refine ap wJ hQ ?_)
    all_goals(refine⟨_,_,Wk.of_eq ?_,?_,rfl,rfl⟩)
    · rw[this]
    · exact Fg.refl _
  · have hlt:a+k<l.length:=(n_.1 hc).1
    have hr1:=r1 c hc
    have hr2:=r2 c hc
    clear r1 r2 r3
    (repeat'(first|refine Ctl ?_|((with_reducible refine j_ hK ?_);clear hK hE K E)|((with_reducible refine aj (fun h=>?_) (fun h=>?_))<;>(try(exfalso;assumption)))|((first|(with_reducible first|refine ae fun K E hK hE=>?_|refine ak BQ (pa _ _) ?_|refine ak Ck (yc _ _) ?_)|((with_reducible refine dy (fun h=>?_) (fun h=>?_))))<;>(try simp(disch:=omega) only[go_sem,seval, *]))))
    all_goals first
      | (have := hr1 (by simp only [rpB]; grind)
         refine⟨m - 1,by omega,k+1,by omega,by omega,rfl,ab,ab,ab,ab⟩)
      |((first|refine ap wJ hQ ?_|refine en wJ hQ ?_|refine jm hQ ?_);(refine⟨_,_,Wk.of_eq ?_,?_,rfl,rfl⟩)<;>first|exact Fg.refl _|(rw[hr2 (by simp only[rpB];grind)]))
theorem ze (c:UInt8):(0<=Lib.indexByte gN c)=(c∈gN):=by
 have:=Lib.contains_iff_indexByte gN c
 rw[<- decide_eq_true_eq (p:=0<=Lib.indexByte gN c),<- this];simp
theorem io (c:UInt8)(r:List UInt8):dS (c::r)=if ((c::r).take 2=[58,45]\/(c::r).take 2=[58,58]\/(c::r).take 2=[33,61])then 2 else if c∈gN then 1 else 0:=by
 have pre:∀p:List UInt8,p.length=2->p.isPrefixOf (c::r)=decide ((c::r).take 2=p):=fun p hp=>by
  rw[<- hp]
  by_cases h:p.length<=(c::r).length
  ·exact(mo p _ h).symm
  ·rw[mq p _ h]
   symm
   rw[decide_eq_false_iff_not]
   intro e
   have:=congrArg List.length e
   rw[A_]at this
   omega
 simp only[dS,pre [58,45] rfl,pre [58,58] rfl,pre [33,61] rfl,ze,decide_eq_true_eq]
 grind
theorem uK (l:List UInt8)(a:Nat):List.drop a (List.take (a+2) l)=(l.drop a).take 2:=by
 rw[List.drop_take];simp
theorem EE (l:List UInt8)(a:Nat)(c:UInt8)(r:List UInt8)(s:St)(hd:l.drop a=c::r)(hl:l.length<=9223372036854775000) :
  SRet Tryz.prog 101 [.str l,.int .i64 a] s (.int .i64 (dS (c::r))) s:=by
 refine aw Tryz.func101 rfl Tryz.ntmps101 rfl fun Q hQ hQe=>?_
 have hlen:a+1+r.length=l.length:=by have:=congrArg List.length hd;simp at this;omega
 have hc:l[a]?=some c:=by have:=List.getElem?_drop (xs:=l) (i:=a) (j:=0);rw[hd]at this;simpa using this.symm
 have hT:=uK l a
 rw[hd]at hT
 have c1:(a:Int)+2=((a+2:Nat):Int):=by omega
 have hs:r.length=0->r=[]:=t_
 (repeat'(first|refine Ctl ?_|((with_reducible refine j_ hK ?_);clear hK hE K E)|((with_reducible refine aj (fun h=>?_) (fun h=>?_))<;>(try(exfalso;assumption)))|((first|(with_reducible first|refine ae fun K E hK hE=>?_|refine gh ?_)|((with_reducible refine dy (fun h=>?_) (fun h=>?_))))<;>(try simp(disch:=omega) only[go_sem,seval, *]))))
 all_goals try((refine ap qQ hQ ?_);(refine⟨_,_,Wk.of_eq ?_,?_,rfl,rfl⟩)<;>first|exact Fg.refl _|(rw[io];grind))
 all_goals
  have hno:¬ ((c::r).take 2=[58,45]\/(c::r).take 2=[58,58]\/(c::r).take 2=[33,61]):=by
   first|(rw[hs (by omega)];simp;done)|(rw[hT]at *;simp_all;done)
  refine bB (fun m env s'=>∃k:Nat,k<=9/\m+k=9/\(∀j,j<k->gN[j]?≠some c)/\s'=s/\env 0=.str l/\env 1=.int .i64 a/\env 6=.int .i64 k) 9 ⟨0,by omega,by omega,by omega,rfl,ab,ab,ab⟩ ?_
  rintro m env s' ⟨k,hk,hm,hj,rfl,e0,e1,e6⟩
  rcases Nat.lt_or_ge k 9 with h9|h9
  ·obtain⟨d,hdk⟩:∃d,gN[k]?=some d:=⟨_,b_ (by simp[gN];omega)⟩
   have hmk:([40,41,123,125,44,46,59,61,33]:List UInt8)[k]?=some d:=hdk
   (repeat'(first|refine Ctl ?_|(with_reducible first|(refine j_ hK ?_;clear hK hE K E)|(refine j_ hKh ?_;clear hKh Kh)|refine aq 8 [] [0,1,2,3,4,5] hQe fun K E hK hE=>?_)|((with_reducible refine aj (fun h=>?_) (fun h=>?_))<;>(try(exfalso;omega)))|(((with_reducible first|refine ae fun K E hK hE=>?_|refine aD fun Kh hKh=>?_))<;>(try simp(disch:=omega) only[go_sem,seval, *]))))
   all_goals first
    |refine⟨m - 1,by omega,k+1,by omega,by omega,fun j hj1=>?_,rfl,ab,ab,ab⟩
     rcases Nat.lt_or_ge j k with hjk|hjk
     ·exact hj j hjk
     ·have:j=k:=by omega
      subst this
      rw[hdk]
      intro e
      injection e with e
      exact ‹¬ c.toNat=d.toNat› (by rw[e])
    |have hcd:c=d:=UInt8.toNat_inj.1 (of_eq_true ‹(c.toNat=d.toNat)=True›)
     (refine ap qQ hQ ?_)
     (refine⟨_,_,Wk.of_eq ?_,?_,rfl,rfl⟩)
     ·rw[io,if_neg hno,if_pos (hcd ▸ p_ hdk)];rfl
     ·exact Fg.refl _
  ·have:k=9:=by omega
   subst this
   have hnm:c∉gN:=fun hm=>by
    obtain⟨j,hj9,e⟩:=List.mem_iff_getElem.1 hm
    exact hj j hj9 (by rw[b_ hj9,e])
   (repeat'(first|refine Ctl ?_|((with_reducible refine j_ hK ?_);clear hK hE K E)|((with_reducible refine aj (fun h=>?_) (fun h=>?_))<;>(try(exfalso;assumption)))|(((with_reducible refine ae fun K E hK hE=>?_))<;>(try simp(disch:=assumption) only[go_sem,seval, *]))))
   all_goals(refine ap qQ hQ ?_)
   all_goals(refine⟨_,_,Wk.of_eq ?_,?_,rfl,rfl⟩)
   all_goals first|exact Fg.refl _|(rw[io,if_neg hno,if_neg hnm];rfl)
def jQ (a:Nat)(l:List UInt8):VV:=.tup [if (bF l).2=0/\(bF l).1=0 then .agg [.int .i64 0,.str [],.int .i64 0] else .agg [.int .i64 (bF l).1,.str (l.take (bF l).2),.int .i64 a],.bool (decide (0<(bF l).2))]
theorem rp_t:rpB true=df:=funext JX
theorem rp_f:rpB false=cu:=funext JY
theorem rR (l:List UInt8)(a:Nat)(c:UInt8)(r:List UInt8)(s:St)(hd:l.drop a=c::r)(hl:l.length<=9223372036854775000) :
  SRet Tryz.prog 65 [.str l,.int .i64 a] s (jQ a (c::r)) s:=by
 refine aw Tryz.func65 rfl Tryz.ntmps65 rfl fun Q hQ hQe=>?_
 have hlen:a+1+r.length=l.length:=by have:=congrArg List.length hd;simp at this;omega
 have hc:l[a]?=some c:=by have:=List.getElem?_drop (xs:=l) (i:=a) (j:=0);rw[hd]at this;simpa using this.symm
 have h1:=d7 df (c::r)
 have h2:=d7 cu (c::r)
 have h3:(bF (c::r)).2<=r.length+1:=jv c r
 simp only[List.length_cons]at h1 h2
 have h4:dS (c::r)<=2:=by unfold dS;grind
 have e48:((c.toNat:Int)=48)=(c=48):=iO (c:=c) (d:=48)
 have h5:dS (c::r)<=r.length+1:=by rw[io];cases r<;>grind
 have hT:∀k,List.drop a (List.take (a+k) l)=(c::r).take k:=fun k=>by rw[List.drop_take,hd];simp
 have c1:∀k:Nat,(a:Int)+(k:Int)=((a+k:Nat):Int):=fun k=>by omega
 (repeat'(first|refine Ctl ?_|((with_reducible refine j_ hK ?_);clear hK hE K E)|((with_reducible refine aj (fun h=>?_) (fun h=>?_))<;>(try(exfalso;assumption)))|((first|(with_reducible first|refine ae fun K E hK hE=>?_|refine ak BQ (pa _ _) ?_|refine ak Ck (yc _ _) ?_|refine ak Mx (JF _ _ _ _ (by omega) (‹_›)) ?_|refine ak JA (EE _ _ _ _ _ (‹_›) (‹_›)) ?_|refine gh ?_)|((with_reducible refine ao (fun b hb=>?_));(repeat(obtain⟨_,hb⟩:=hb)))|((with_reducible refine dy (fun h=>?_) (fun h=>?_))))<;>(try simp(disch:=first|assumption|omega) only[go_sem,seval,rp_t,rp_f, *]))))
 all_goals(refine ap EX hQ ?_)
 all_goals(refine⟨_,_,Wk.of_eq ?_,?_,rfl,rfl⟩)
 all_goals first|(exact bC)|skip
 all_goals(simp only[jQ,bF,VV.tup.injEq,List.cons.injEq,VV.bool.injEq,and_true];grind)
def zK (k:Nat)(t:List UInt8):Bool:=decide (t≠[]/\t.length<=32/\bF t=(k,t.length))
theorem MM (k:Nat)(t:List UInt8)(a:Int)(s:St):SRet Tryz.prog 139 [.agg [.int .i64 k,.str t,.int .i64 a]] s (.bool (zK k t)) s:=by
 refine aw Tryz.func139 rfl Tryz.ntmps139 rfl fun Q hQ hQe=>?_
 rcases t with _|⟨c,r⟩
 ·(repeat'(first|refine Ctl ?_|((with_reducible refine j_ hK ?_);clear hK hE K E)|((with_reducible refine aj (fun h=>?_) (fun h=>?_))<;>(try(exfalso;assumption)))|((first|(with_reducible refine ae fun K E hK hE=>?_)|((with_reducible refine ao (fun b hb=>?_))))<;>(try simp(disch:=assumption) only[go_sem,seval, *]))))
  all_goals(refine ap qN hQ ?_)
  all_goals(refine⟨_,_,Wk.of_eq ?_,?_,rfl,rfl⟩)
  all_goals first|(exact bC)|skip
  all_goals simp[zK]
 ·have h3:(bF (c::r)).2<=r.length+1:=jv c r
  have htk:((c::r).take (bF (c::r)).2=c::r)=((bF (c::r)).2=r.length+1):=by
   apply propext
   constructor
   ·intro e;have:=congrArg List.length e;rw[A_]at this;simp only[List.length_cons]at this;omega
   ·intro e;rw[e];exact B_ (by simp)
  by_cases hz:(bF (c::r)).2=0/\(bF (c::r)).1=0
  ·have hv:jQ 0 (c::r)=.tup [.agg [.int .i64 0,.str [],.int .i64 0],.bool false]:=by simp only[jQ];rw[if_pos hz];simp[hz.1]
   have hone:=fun(hl:(c::r).length<=9223372036854775000) (s:St)=>hv ▸ rR (c::r) 0 c r s rfl hl
   clear hv
   (repeat'(first|refine Ctl ?_|((with_reducible refine j_ hK ?_);clear hK hE K E)|((with_reducible refine aj (fun h=>?_) (fun h=>?_)))|((first|(with_reducible first|refine ae fun K E hK hE=>?_|refine ak qo (hone (by simp;omega) _) ?_)|((with_reducible refine ao (fun b hb=>?_));(repeat(obtain⟨_,hb⟩:=hb))))<;>(try simp(disch:=assumption) only[go_sem,seval, *]))))
   all_goals(refine ap qN hQ ?_)
   all_goals(refine⟨_,_,Wk.of_eq ?_,?_,rfl,rfl⟩)
   all_goals first|(exact bC)|skip
   all_goals(simp only[zK,VV.bool.injEq];grind)
  ·have hv:jQ 0 (c::r)=.tup [.agg [.int .i64 (bF (c::r)).1,.str ((c::r).take (bF (c::r)).2),.int .i64 0],.bool (decide (0<(bF (c::r)).2))]:=by simp only[jQ];rw[if_neg hz];rfl
   have hone:=fun(hl:(c::r).length<=9223372036854775000) (s:St)=>hv ▸ rR (c::r) 0 c r s rfl hl
   clear hv
   (repeat'(first|refine Ctl ?_|((with_reducible refine j_ hK ?_);clear hK hE K E)|((with_reducible refine aj (fun h=>?_) (fun h=>?_)))|((first|(with_reducible first|refine ae fun K E hK hE=>?_|refine ak qo (hone (by simp;omega) _) ?_)|((with_reducible refine ao (fun b hb=>?_));(repeat(obtain⟨_,hb⟩:=hb)))|((with_reducible refine dy (fun h=>?_) (fun h=>?_))))<;>(try simp(disch:=assumption) only[go_sem,seval, *]))))
   all_goals(refine ap qN hQ ?_)
   all_goals(refine⟨_,_,Wk.of_eq ?_,?_,rfl,rfl⟩)
   all_goals first|(exact bC)|skip
   all_goals(simp only[zK,VV.bool.injEq];generalize bF (c::r)=q at *;obtain⟨q1,q2⟩:=q;grind)
def Rw (s:St)(r e:Nat)(W:List Sgn)(i:Nat):St:=s.set r (.obj 91 [.lst (W.map gw) .no,.int .i64 i,.int .i64 e,.int .i64 0,.int .i64 0])
theorem lh {s:St}{r e i:Nat}{W:List Sgn}:(Rw s r e W i) r=.obj 91 [.lst (W.map gw) .no,.int .i64 i,.int .i64 e,.int .i64 0,.int .i64 0]:=q_ _ _ _
theorem lf {s:St}{r e b i:Nat}{W:List Sgn}(h:¬ b=r):(Rw s r e W i) b=s b:=k_ _ _ h
theorem lQ {s:St}{r e i j:Nat}{W:List Sgn}:(Rw s r e W i).set r (.obj 91 [.lst (W.map gw) .no,.int .i64 j,.int .i64 e,.int .i64 0,.int .i64 0])=Rw s r e W j:=St.set_set _ _ _ _
theorem lg {s:St}{r e b i:Nat}{W:List Sgn}:((Rw s r e W i) b=.free)=(¬ b=r/\¬ r=b/\s b=.free):=g9
theorem jk {s:St}{r e b i:Nat}{W:List Sgn}{c:Cell}(h:¬ b=r):(Rw s r e W i).set b c=Rw (s.set b c) r e W i:=by
 funext x
 simp only[Rw,St.set]
 by_cases h1:x=b
 ·subst h1;simp[h]
 ·simp[h1]
theorem dE {s:St}{r e i:Nat}{W:List Sgn}{o:Own}{T sz n:Nat}(h:ay o r):(Rw s r e W i).own o T sz n=Rw (s.own o T sz n) r e W i:=aZ h
theorem dF {s:St}{r e i:Nat}{W:List Sgn}{o:Own}(h:ay o r):(Rw s r e W i).disown o=Rw (s.disown o) r e W i:=aQ h
theorem eA {s:St}{r e i n:Nat}{W:List Sgn}{o:Own}:OwnOk (Rw s r e W i) o n=(ay o r/\OwnOk s o n):=bc
theorem ed {s:St}{r e i:Nat}{W:List Sgn}{o:Own}{T sz n:Nat}(h:ay o r):eB (Rw s r e W i) o T sz n=eB s o T sz n:=by
 rw[Rw,eX h]
theorem Fg.rw {s s':St}(h:Fg s s'){r e i:Nat}{W:List Sgn}:Fg (Rw s r e W i) (Rw s' r e W i):=Fg.set h _ _
section
attribute [local go_sem] lh lQ
theorem mJ {W:List Sgn}{i:Nat}{x:Sgn}(h:W[i]?=some x):(W.map gw)[i]?=some [.int .i64 x.kind,.str x.text,.int .i64 x.at_]:=by rw[c_,h];rfl
theorem ld (s:St)(r e i:Nat)(W:List Sgn)(t:List UInt8)(hi:i<=W.length):SRet Tryz.prog 33 [.ptr r 0,.str t] (Rw s r e W i) (.bool (isT W i t)) (Rw s r e W i):=by
 refine aw Tryz.func33 rfl Tryz.ntmps33 rfl fun Q hQ hQe=>?_
 by_cases hlt:i<W.length
 ·obtain⟨x,hx⟩:∃x,W[i]?=some x:=⟨_,b_ hlt⟩
  have hsx:=mJ hx
  have hres:isT W i t=decide (x.text=t):=by simp[isT,hx]
  have HR:=u_ hres
  clear hx hres
  (repeat'(first|refine Ctl ?_|(with_reducible first|(refine j_ hK ?_;clear hK hE K E)|(refine j_ hKh ?_;clear hKh Kh)|refine aq 1 [] [0,1,2,3,4,5,6,7,8,9,10,11,12,13,14,15,16,17,18,19,20,21,22,23,24,25] hQe fun K E hK hE=>?_)|(((with_reducible first|refine ae fun K E hK hE=>?_|refine aD fun Kh hKh=>?_))<;>(try simp(disch:=omega) only[go_sem,seval,a_, *]))))
  all_goals(refine ap AJ hQ ?_)
  all_goals(refine⟨_,_,Wk.of_eq ?_,?_,rfl,rfl⟩)
  ·rw[HR.out]
  ·(exact bC)
 ·have hres:isT W i t=false:=by simp[isT,C_ (by omega:W.length<=i)]
  have HR:=u_ hres
  clear hres
  (repeat'(first|refine Ctl ?_|(with_reducible first|(refine j_ hK ?_;clear hK hE K E)|(refine j_ hKh ?_;clear hKh Kh)|refine aq 1 [] [0,1,2,3,4,5,6,7,8,9,10,11,12,13,14,15,16,17,18,19,20,21,22,23,24,25] hQe fun K E hK hE=>?_)|(((with_reducible first|refine ae fun K E hK hE=>?_|refine aD fun Kh hKh=>?_))<;>(try simp(disch:=omega) only[go_sem,seval,a_, *]))))
  all_goals(refine ap AJ hQ ?_)
  all_goals(refine⟨_,_,Wk.of_eq ?_,?_,rfl,rfl⟩)
  ·rw[HR.out]
  ·(exact bC)
theorem fq (s:St)(r e i:Nat)(W:List Sgn)(t:List UInt8)(hw:W.length<=40000)(h:isT W i t=true):SRet Tryz.prog 37 [.ptr r 0,.str t] (Rw s r e W i) (.tup []) (Rw s r e W (i+1)):=by
 have hi:i<W.length:=by
  rcases Nat.lt_or_ge i W.length with h1|h1
  ·exact h1
  ·simp[isT,C_ h1]at h
 have h1:=fun s=>ld s r e i W t (by omega)
 rw[h]at h1
 clear h
 refine aw Tryz.func37 rfl Tryz.ntmps37 rfl fun Q hQ hQe=>?_
 (repeat'(first|refine Ctl ?_|((with_reducible refine j_ hK ?_);clear hK hE K E)|((with_reducible refine aj (fun h=>?_) (fun h=>?_))<;>(try(exfalso;assumption)))|(((with_reducible first|refine ae fun K E hK hE=>?_|refine ak iC (h1 _) ?_))<;>(try simp(disch:=omega) only[go_sem,seval, *]))))
 all_goals(refine en E3 hQ ?_)
 all_goals(refine⟨_,_,Wk.of_eq ?_,?_,rfl,rfl⟩)
 all_goals first|rfl|(exact bC)
theorem gp (s:St)(r e i:Nat)(W:List Sgn)(x:Sgn)(k:Nat)(hw:W.length<=40000)(hx:W[i]?=some x)(hk:x.kind=k):SRet Tryz.prog 35 [.ptr r 0,.int .i64 k] (Rw s r e W i) (.str x.text) (Rw s r e W (i+1)):=by
 have hi:i<W.length:=(n_.1 hx).1
 have hsx:=mJ hx
 have hk2:(x.kind:Int)=(k:Int):=by omega
 have hsub:((i+1:Nat):Int) - 1=(i:Int):=by omega
 clear hx hk
 refine aw Tryz.func35 rfl Tryz.ntmps35 rfl fun Q hQ hQe=>?_
 (repeat'(first|refine Ctl ?_|(with_reducible first|(refine j_ hK ?_;clear hK hE K E)|(refine j_ hKh ?_;clear hKh Kh)|refine aq 1 [] [0,1,2,3,4,5,6,7,8,9,10,11,12,13,14,15,16,17,18,19,20,21,22,23,24] hQe fun K E hK hE=>?_|refine aq 5 [] [0,1,2,3,4,5,6,7,8,9,10,11,12] hQe fun K E hK hE=>?_)|((with_reducible refine aj (fun h=>?_) (fun h=>?_))<;>(try(exfalso;assumption)))|((first|(with_reducible first|refine ae fun K E hK hE=>?_|refine aD fun Kh hKh=>?_)|((with_reducible refine dy (fun h=>?_) (fun h=>?_))<;>(try(exfalso;omega))))<;>(try simp(disch:=omega) only[go_sem,seval,a_, *]))))
 all_goals(refine ap E4 hQ ?_)
 all_goals(refine⟨_,_,Wk.of_eq ?_,?_,rfl,rfl⟩)
 all_goals first|rfl|(exact bC)
theorem mV (s:St)(r e i:Nat)(W:List Sgn)(a b:Int)(t:List UInt8)(hi:i<=W.length):SCalls Tryz.prog 39 [.ptr r 0,.int .i64 a,.int .i64 b,.str t] (Rw s r e W i) fun w u=>∃q:Bool,w=.ret (.bool q)/\u=Rw s r e W i/\True:=by
 refine aw Tryz.func39 rfl Tryz.ntmps39 rfl fun Q hQ hQe=>?_
 by_cases hlt:i<W.length
 ·obtain⟨x,hx⟩:∃x,W[i]?=some x:=⟨_,b_ hlt⟩
  have hsx:=mJ hx
  clear hx
  (repeat'(first|refine Ctl ?_|(with_reducible first|(refine j_ hK ?_;clear hK hE K E)|(refine j_ hKh ?_;clear hKh Kh)|refine aq 1 [] [0,1,2,3,4,5,6,7,8,9,10,11,12,13,14,15,16,17,18,19,20,21,22,23,24,25,26,27,28,29,30,31,32,33,34,35,36,37,38,39,40,41,42,43,44,45,46,47,48,49,50,51,52,53,54,55] hQe fun K E hK hE=>?_)|((first|(with_reducible first|refine ae fun K E hK hE=>?_|refine aD fun Kh hKh=>?_)|((with_reducible refine dy (fun h=>?_) (fun h=>?_))))<;>(try simp(disch:=omega) only[go_sem,seval,a_, *]))))
  all_goals(refine ap AI hQ ?_)
  all_goals exact⟨_,_,Wk.refl _,bC,_,rfl,rfl,trivial⟩
 ·(repeat'(first|refine Ctl ?_|(with_reducible first|(refine j_ hK ?_;clear hK hE K E)|(refine j_ hKh ?_;clear hKh Kh)|refine aq 1 [] [0,1,2,3,4,5,6,7,8,9,10,11,12,13,14,15,16,17,18,19,20,21,22,23,24,25,26,27,28,29,30,31,32,33,34,35,36,37,38,39,40,41,42,43,44,45,46,47,48,49,50,51,52,53,54,55] hQe fun K E hK hE=>?_)|(((with_reducible first|refine ae fun K E hK hE=>?_|refine aD fun Kh hKh=>?_))<;>(try simp(disch:=omega) only[go_sem,seval,a_, *]))))
  all_goals(refine ap AI hQ ?_)
  all_goals exact⟨_,_,Wk.refl _,bC,_,rfl,rfl,trivial⟩
theorem jD (s:St)(r e i:Nat)(W:List Sgn)(hv mst:Int)(b:Bool)(h:hv<mst):SRet Tryz.prog 34 [.ptr r 0,.int .i64 hv,.int .i64 mst,.bool b] (Rw s r e W i) (.tup []) (Rw s r e W i):=by
 have h2:¬ mst<=hv:=by omega
 refine aw Tryz.func34 rfl Tryz.ntmps34 rfl fun Q hQ hQe=>?_
 (repeat'(first|refine Ctl ?_|((with_reducible refine j_ hK ?_);clear hK hE K E)|((with_reducible refine aj (fun h=>?_) (fun h=>?_))<;>(try(exfalso;assumption)))|(((with_reducible refine ae fun K E hK hE=>?_))<;>(try simp(disch:=omega) only[go_sem,seval, *]))))
 all_goals(refine en E5 hQ ?_)
 all_goals(refine⟨_,_,Wk.of_eq ?_,?_,rfl,rfl⟩)
 all_goals first|rfl|(exact bC)
theorem oU (s:St)(r e i:Nat)(W:List Sgn)(hw:W.length<=40000)(hi:i<=W.length)(hc:isT W i [44]=true):SRet Tryz.prog 70 [.ptr r 0] (Rw s r e W i) (.bool true) (Rw s r e W (i+1)):=by
 have h1:=fun s=>ld s r e i W [44] hi
 rw[hc]at h1
 clear hc
 refine aw Tryz.func70 rfl Tryz.ntmps70 rfl fun Q hQ hQe=>?_
 (repeat'(first|refine Ctl ?_|((with_reducible refine j_ hK ?_);clear hK hE K E)|((with_reducible refine aj (fun h=>?_) (fun h=>?_))<;>(try(exfalso;assumption)))|(((with_reducible first|refine ae fun K E hK hE=>?_|refine ak iC (h1 _) ?_))<;>(try simp(disch:=omega) only[go_sem,seval, *]))))
 all_goals(refine ap AB hQ ?_)
 all_goals(refine⟨_,_,Wk.of_eq ?_,?_,rfl,rfl⟩)
 all_goals first|rfl|(exact bC)
theorem oV (s:St)(r e i:Nat)(W:List Sgn)(hi:i<=W.length)(hc:isT W i [44]=false):SRet Tryz.prog 70 [.ptr r 0] (Rw s r e W i) (.bool false) (Rw s r e W i):=by
 have h1:=fun s=>ld s r e i W [44] hi
 rw[hc]at h1
 clear hc
 refine aw Tryz.func70 rfl Tryz.ntmps70 rfl fun Q hQ hQe=>?_
 (repeat'(first|refine Ctl ?_|((with_reducible refine j_ hK ?_);clear hK hE K E)|((with_reducible refine aj (fun h=>?_) (fun h=>?_))<;>(try(exfalso;assumption)))|(((with_reducible first|refine ae fun K E hK hE=>?_|refine ak iC (h1 _) ?_))<;>(try simp(disch:=omega) only[go_sem,seval, *]))))
 all_goals(refine ap AB hQ ?_)
 all_goals(refine⟨_,_,Wk.of_eq ?_,?_,rfl,rfl⟩)
 all_goals first|rfl|(exact bC)
end
end Go.Proofs.YteldpmgepfaiiaaGreatDoor
namespace Go.Proofs.YteldpmgepfaiiaaGreatDoor
open Go.RowKit
attribute [local go_sem] lh lQ lg jk lf dF dE eA ed
def pos (W L:List Sgn):Nat:=W.length - L.length
def Sfx (W:List Sgn)(i:Nat)(L:List Sgn):Prop:=i<=W.length/\W.drop i=L
theorem Sfx.cons {W L:List Sgn}{i:Nat}{x:Sgn}(h:Sfx W i (x::L)):W[i]?=some x/\Sfx W (i+1) L/\i<W.length:=by
 obtain⟨h1,h2⟩:=h
 have h3:W[i]?=some x:=by
  have:=List.getElem?_drop (xs:=W) (i:=i) (j:=0)
  rw[h2]at this
  simpa using this.symm
 have h4:=(n_.1 h3).1
 refine⟨h3,⟨h4,?_⟩,h4⟩
 rw[<- List.drop_drop,h2];rfl
theorem Sfx.isT {W L:List Sgn}{i:Nat}{t:List UInt8}(h:Sfx W i L):isT W i t=isT L 0 t:=by
 obtain⟨_,rfl⟩:=h
 simp[Proofs.YteldpmgepfaiiaaGreatDoor.isT]
theorem Sfx.nil {W:List Sgn}{i:Nat}(h:Sfx W i []):i=W.length:=by
 obtain⟨h1,h2⟩:=h
 have:=List.drop_eq_nil_iff.1 h2
 omega
theorem Sfx.tail {W L:List Sgn}{i:Nat}{t:List UInt8}(h:Sfx W i L)(ht:Proofs.YteldpmgepfaiiaaGreatDoor.isT L 0 t=true):Sfx W (i+1) L.tail:=by
 cases L with
 |nil=>simp[Proofs.YteldpmgepfaiiaaGreatDoor.isT]at ht
 |cons x L=>exact h.cons.2.1
theorem dW {e k:Nat}{L L':List Sgn}{t:List UInt8}(h:kM e L k=.ok (t,L')):∃x,L=x::L'/\x.kind=k/\x.text=t:=by
 cases L with
 |nil=>cases h
 |cons x L=>
  simp only[kM]at h
  split at h
  ·rename_i hk
   injection h with h;injection h with h1 h2
   exact⟨x,by rw[h2],hk,h1⟩
  ·cases h
theorem ez {e:Nat}{L L':List Sgn}{t:List UInt8}{u:Unit}(h:dR e L t=.ok (u,L')):isT L 0 t=true/\L'=L.tail:=by
 obtain⟨h1,h2,_⟩:=zb h
 exact⟨h2,h1⟩
set_option maxHeartbeats 2000000 in
theorem xT (s:St)(r e i j:Nat)(W L L':List Sgn)(t:Trm)(hw:W.length<=40000)(hG:GoodU L)(hi:Sfx W i L)(h:gG e L=.ok (t,L'))(hj:Sfx W j L'):SRet Tryz.prog 107 [.ptr r 0] (Rw s r e W i) (.agg (aC t)) (Rw s r e W j):=by
 have hx:∃x,L=x::L'/\((x.kind=2/\t=⟨false,[],(ra x.text:Nat)⟩)\/(x.kind=1/\t=⟨true,x.text,0⟩)):=by
  unfold gG at h
  split at h
  ·cases hk:qZ e L with
   |error q=>rw[hk]at h;cases h
   |ok q=>
    obtain⟨n,L1⟩:=q
    rw[hk,bW]at h
    injection h with h;injection h with h1 h2
    subst h1;subst h2
    unfold qZ at hk
    cases hq:kM e L 2 with
    |error q=>rw[hq]at hk;cases hk
    |ok q=>
     obtain⟨tx,L2⟩:=q
     rw[hq,bW]at hk
     injection hk with hk;injection hk with h1 h2
     subst h1;subst h2
     obtain⟨x,rfl,hk,ht⟩:=dW hq
     exact⟨x,rfl,.inl ⟨hk,by rw[ht]⟩⟩
  ·cases hq:ey e L with
   |error q=>rw[hq]at h;cases h
   |ok q=>
    obtain⟨tx,L2⟩:=q
    rw[hq,bW]at h
    injection h with h;injection h with h1 h2
    subst h1;subst h2
    obtain⟨x,rfl,hk,ht⟩:=dW hq
    exact⟨x,rfl,.inr ⟨hk,by rw[ht]⟩⟩
 obtain⟨x,rfl,hx⟩:=hx
 obtain⟨h1,h2,h3⟩:=hi.cons
 have hij:j=i+1:=by
  have e1:=congrArg List.length h2.2
  have e2:=congrArg List.length hj.2
  rw[D_]at e1 e2
  have:=h2.1;have:=hj.1
  omega
 subst hij
 have hsx:=mJ h1
 have hwl:(W.map gw).length=W.length:=a_ _
 rcases hx with ⟨hk,rfl⟩|⟨hk,rfl⟩
 ·have w1:=fun s=>gp s r e i W x 2 hw h1 hk
  obtain⟨n,hn,hl⟩:=hG x (by simp) hk
  have hk2:(x.kind:Int)=2:=by omega
  have hnn:ra x.text=n:=by simp[ra,hn]
  rw[hnn]
  have w2:=fun s=>C2 x.text n hl hn s
  clear h hi hj h2 h1 hG hk hnn hn hl
  refine aw Tryz.func107 rfl Tryz.ntmps107 rfl fun Q hQ hQe=>?_
  (repeat'(first|refine Ctl ?_|(with_reducible first|(refine j_ hK ?_;clear hK hE K E)|(refine j_ hKh ?_;clear hKh Kh)|refine aq 1 [] [0,1,2,3,4,5,6,7,8,9,10,11,12,13,14,15,16,17,18,19,20,21,22,23] hQe fun K E hK hE=>?_)|((with_reducible refine aj (fun h=>?_) (fun h=>?_))<;>(try(exfalso;assumption)))|((first|(with_reducible first|refine ae fun K E hK hE=>?_|refine ak mz (w1 _) ?_|refine ak Fq (w2 _) ?_|refine aD fun Kh hKh=>?_)|((with_reducible refine ao (fun b hb=>?_));(repeat(obtain⟨_,hb⟩:=hb))))<;>(try simp(disch:=first|assumption|omega) only[go_sem,seval, *]))))
  all_goals(refine ap vb hQ ?_)
  all_goals(refine⟨_,_,Wk.of_eq ?_,?_,rfl,rfl⟩)
  all_goals first|rfl|(exact bC)
 ·have w1:=fun s=>gp s r e i W x 1 hw h1 hk
  have hk2:¬ (x.kind:Int)=2:=by omega
  clear h hi hj h2 h1 hG hk
  refine aw Tryz.func107 rfl Tryz.ntmps107 rfl fun Q hQ hQe=>?_
  (repeat'(first|refine Ctl ?_|(with_reducible first|(refine j_ hK ?_;clear hK hE K E)|(refine j_ hKh ?_;clear hKh Kh)|refine aq 1 [] [0,1,2,3,4,5,6,7,8,9,10,11,12,13,14,15,16,17,18,19,20,21,22,23] hQe fun K E hK hE=>?_)|((with_reducible refine aj (fun h=>?_) (fun h=>?_))<;>(try(exfalso;assumption)))|((first|(with_reducible first|refine ae fun K E hK hE=>?_|refine ak mz (w1 _) ?_|refine aD fun Kh hKh=>?_)|((with_reducible refine ao (fun b hb=>?_));(repeat(obtain⟨_,hb⟩:=hb))))<;>(try simp(disch:=first|assumption|omega) only[go_sem,seval, *]))))
  all_goals(refine ap vb hQ ?_)
  all_goals(refine⟨_,_,Wk.of_eq ?_,?_,rfl,rfl⟩)
  all_goals first|rfl|(exact bC)
end Go.Proofs.YteldpmgepfaiiaaGreatDoor
namespace Go.Proofs.YteldpmgepfaiiaaGreatDoor
open Go.RowKit
theorem CK (l:List UInt8)(hl:l.length<=9223372036854775000)(s:St):SRet Tryz.prog 32 [.str l] s (nx (bG l)) s:=by
 refine aw Tryz.func32 rfl Tryz.ntmps32 rfl fun Q hQ hQe=>?_
 by_cases hbig:16384<l.length
 ·(repeat'(first|refine Ctl ?_|((with_reducible refine j_ hK ?_);clear hK hE K E)|((with_reducible refine aj (fun h=>?_) (fun h=>?_))<;>(try(exfalso;omega)))|(((with_reducible refine ae fun K E hK hE=>?_))<;>(try simp(disch:=assumption) only[go_sem,seval, *]))))
  all_goals(refine ap sV hQ ?_)
  all_goals(refine⟨_,_,?_,?_,rfl,rfl⟩)
  ·rw[show bG l=.error (0,1) by unfold bG;rw[if_pos hbig]]
   exact Wk.tup3
  ·exact Fg.refl _
 ·(repeat'(first|refine Ctl ?_|((with_reducible refine j_ hK ?_);clear hK hE K E)|((with_reducible refine aj (fun h=>?_) (fun h=>?_))<;>(try(exfalso;omega)))|(((with_reducible refine ae fun K E hK hE=>?_))<;>(try simp(disch:=assumption) only[go_sem,seval, *]))))
  have hr:bG l=eY l 0 []:=by unfold bG eY;rw[if_neg (by omega)]
  generalize bG l=r at *
  refine aI (fun n env s'=>∃(at_:Nat) (out:List Sgn) (o:Own),at_<=l.length/\n+at_=l.length/\out.length<=4096/\r=eY (l.drop at_) at_ out/\s'=s.own o 131 3 out.length/\OwnOk s o out.length /\
   env 0=.str l/\env 5=.lst (out.map gw) o/\env 6=.int .i64 at_) l.length ?_ ?_
  ·exact⟨_,Fg.refl _,0,[],.full,Nat.zero_le _,by omega,Nat.zero_le _,by simpa using hr,rfl,rfl,ab,ab,ab⟩
  ·rintro n env s' ⟨at_,out,o,hat,hn,hout,hgo,rfl,hown,e0,e5,e6⟩
   rcases hd:l.drop at_ with _|⟨c,rr⟩
   ·have h1:l.length<=at_:=List.drop_eq_nil_iff.1 hd
    rw[hd,nZ]at hgo
    subst hgo
    (repeat'(first|refine Ctl ?_|((with_reducible refine j_ hK ?_);clear hK hE K E)|((with_reducible refine aj (fun h=>?_) (fun h=>?_))<;>(try(exfalso;omega)))|(((with_reducible refine ae fun K E hK hE=>?_))<;>(try simp(disch:=assumption) only[go_sem,seval, *]))))
    all_goals(refine ap sV hQ ?_)
    all_goals(refine⟨_,_,?_,?_,rfl,rfl⟩)
    ·exact Wk.tup3
    ·exact Fg.own hown
   ·have hlen:at_+1+rr.length=l.length:=by have:=congrArg List.length hd;simp at this;omega
    have hc:l[at_]?=some c:=by have:=List.getElem?_drop (xs:=l) (i:=at_) (j:=0);rw[hd]at this;simpa using this.symm
    have hd1:l.drop (at_+1)=rr:=by rw[<- List.drop_drop,hd];rfl
    by_cases hb:bT c=true
    ·rw[hd,oa hb]at hgo
     rw[gf]at hb
     have e9:((c.toNat:Int)=9)=(c=9):=iO (c:=c) (d:=9)
     have e10:((c.toNat:Int)=10)=(c=10):=iO (c:=c) (d:=10)
     have e13:((c.toNat:Int)=13)=(c=13):=iO (c:=c) (d:=13)
     have e32:((c.toNat:Int)=32)=(c=32):=iO (c:=c) (d:=32)
     have hbb:=of_decide_eq_true hb
     clear hb
     (repeat'(first|refine Ctl ?_|((with_reducible refine j_ hK ?_);clear hK hE K E)|((with_reducible refine aj (fun h=>?_) (fun h=>?_))<;>(try(exfalso;first|assumption|omega)))|((first|(with_reducible first|refine ae fun K E hK hE=>?_|refine ak qo (rR _ _ _ _ _ (‹_›) (‹_›)) ?_)|((with_reducible refine dy (fun h=>?_) (fun h=>?_))))<;>(try simp(disch:=omega) only[go_sem,seval, *]))))
     all_goals first
      |(exfalso;grind;done)
      |exact⟨_,Fg.refl _,n - 1,by omega,at_+1,out,o,by omega,by omega,hout,by rw[hd1];exact hgo,rfl,hown,ab,ab,ab⟩
    ·have hbn:¬ (c=32\/c=9\/c=10\/c=13):=by rw[gf]at hb;simpa using hb
     simp only[not_or]at hbn
     obtain⟨n32,n9,n10,n13⟩:=hbn
     have e9:((c.toNat:Int)=9)=(c=9):=iO (c:=c) (d:=9)
     have e10:((c.toNat:Int)=10)=(c=10):=iO (c:=c) (d:=10)
     have e13:((c.toNat:Int)=13)=(c=13):=iO (c:=c) (d:=13)
     have e32:((c.toNat:Int)=32)=(c=32):=iO (c:=c) (d:=32)
     have e35:((c.toNat:Int)=35)=(c=35):=iO (c:=c) (d:=35)
     by_cases hh:c=35
     ·have hc35:c.toNat=35:=by rw[hh];rfl
      rw[hd,qa hc35,<- hd]at hgo
      replace hh:=eq_true hh
      clear hc35
      (repeat'(first|refine Ctl ?_|((with_reducible refine j_ hK ?_);clear hK hE K E)|((with_reducible refine aj (fun h=>?_) (fun h=>?_))<;>(try(exfalso;first|assumption|omega)))|(((with_reducible refine ae fun K E hK hE=>?_))<;>(try simp(disch:=assumption) only[go_sem,seval, *]))))
      refine bB (fun m env s'=>∃a2:Nat,a2<=l.length/\m+a2=l.length/\(at_<a2\/a2=at_)/\r=eY ((l.drop a2).drop (bI ce (l.drop a2))) (a2+bI ce (l.drop a2)) out/\s'=s.own o 131 3 out.length/\OwnOk s o out.length /\
       env 0=.str l/\env 5=.lst (out.map gw) o/\env 6=.int .i64 a2) n ⟨at_,by omega,by omega,.inr rfl,hgo,rfl,hown,ab,ab,ab⟩ ?_
      rintro m env2 s2 ⟨a2,ha2,hm,hat2,hgo2,rfl,_,f0,f5,f6⟩
      clear e0 e5 e6 hgo
      rcases hd2:l.drop a2 with _|⟨c2,r2⟩
      ·have h1:l.length<=a2:=List.drop_eq_nil_iff.1 hd2
       have hgo3:r=eY (l.drop a2) a2 out:=by rw[hgo2,hd2];rfl
       (repeat'(first|refine Ctl ?_|((with_reducible refine j_ hK ?_);clear hK hE K E)|((with_reducible refine aj (fun h=>?_) (fun h=>?_))<;>(try(exfalso;assumption)))|((first|(with_reducible refine ae fun K E hK hE=>?_)|((with_reducible refine dy (fun h=>?_) (fun h=>?_))<;>(try(exfalso;omega))))<;>(try simp(disch:=assumption) only[go_sem,seval, *]))))
       all_goals exact⟨_,Fg.refl _,l.length - a2,by omega,a2,out,o,by omega,by omega,hout,hgo3,rfl,hown,ab,ab,ab⟩
      ·have hlen2:a2+1+r2.length=l.length:=by have:=congrArg List.length hd2;simp at this;omega
       have hc2:l[a2]?=some c2:=by have:=List.getElem?_drop (xs:=l) (i:=a2) (j:=0);rw[hd2]at this;simpa using this.symm
       have hd3:l.drop (a2+1)=r2:=by rw[<- List.drop_drop,hd2];rfl
       have f10:((c2.toNat:Int)=10)=(c2=10):=iO (c:=c2) (d:=10)
       by_cases hnl:c2=10
       ·have hne:¬ a2=at_:=fun e=>by subst e;rw[hc]at hc2;injection hc2 with e2;exact n10 (e2.trans hnl)
        have hgo3:r=eY (l.drop a2) a2 out:=by
         rw[hgo2,hd2,b0,if_neg (by simp[ce,hnl])];rfl
        replace hnl:=eq_true hnl
        (repeat'(first|refine Ctl ?_|((with_reducible refine j_ hK ?_);clear hK hE K E)|((with_reducible refine aj (fun h=>?_) (fun h=>?_))<;>(try(exfalso;assumption)))|((first|(with_reducible refine ae fun K E hK hE=>?_)|((with_reducible refine dy (fun h=>?_) (fun h=>?_))<;>(try(exfalso;omega))))<;>(try simp(disch:=assumption) only[go_sem,seval, *]))))
        all_goals exact⟨_,Fg.refl _,l.length - a2,by omega,a2,out,o,by omega,by omega,hout,hgo3,rfl,hown,ab,ab,ab⟩
       ·have hn2:ce c2=true:=by simp only[ce];rw[decide_eq_false (by rw[f10];exact hnl)];rfl
        have hgo3:=hgo2
        rw[hd2,tl hn2,<- hd3]at hgo3
        (repeat'(first|refine Ctl ?_|((with_reducible refine j_ hK ?_);clear hK hE K E)|((with_reducible refine aj (fun h=>?_) (fun h=>?_))<;>(try(exfalso;assumption)))|((first|(with_reducible refine ae fun K E hK hE=>?_)|((with_reducible refine dy (fun h=>?_) (fun h=>?_))<;>(try(exfalso;omega))))<;>(try simp(disch:=omega) only[go_sem,seval, *]))))
        all_goals exact⟨m - 1,by omega,a2+1,by omega,by omega,by omega,hgo3,rfl,hown,ab,ab,ab⟩
     ·have hc35:¬ c.toNat=35:=fun e=>hh (UInt8.toNat_inj.1 e)
      rw[hd,lH (by simpa using hb) hc35,<- hd]at hgo
      have hone:=fun s=>rR l at_ c rr s hd (by omega)
      have hle:=jv c rr
      rw[<- hd]at hle
      simp only[<- hd]at hone
      have hll:(l.drop at_).length=l.length - at_:=D_
      by_cases hz:(bF (l.drop at_)).2=0
      ·have hv2:∃a1 a2 a3,jQ at_ (l.drop at_)=.tup [.agg [.int .i64 a1,.str a2,.int .i64 a3],.bool false]:=by
        unfold jQ
        by_cases hz2:(bF (l.drop at_)).1=0
        ·rw[if_pos ⟨hz,hz2⟩,hz];exact⟨_,_,_,rfl⟩
        ·rw[if_neg (fun h=>hz2 h.2),hz];exact⟨_,_,_,rfl⟩
       obtain⟨a1,a2,a3,hA⟩:=hv2
       rw[if_pos hz]at hgo
       simp only[hA]at hone
       clear hA
       (repeat'(first|refine Ctl ?_|((with_reducible refine j_ hK ?_);clear hK hE K E)|((with_reducible refine aj (fun h=>?_) (fun h=>?_))<;>(try(exfalso;first|assumption|omega)))|((first|(with_reducible first|refine ae fun K E hK hE=>?_|refine ak qo ((hone _)) ?_)|((with_reducible refine ao (fun b hb=>?_));(repeat(obtain⟨_,hb⟩:=hb))))<;>(try simp(disch:=assumption) only[go_sem,seval, *]))))
       all_goals(refine ap sV hQ ?_)
       all_goals(refine⟨_,_,?_,?_,rfl,rfl⟩)
       ·rw[hgo];exact Wk.tup3
       ·(exact bC)
      ·have hA:jQ at_ (l.drop at_)=.tup [.agg [.int .i64 (bF (l.drop at_)).1,.str ((l.drop at_).take (bF (l.drop at_)).2),.int .i64 at_],.bool true]:=by
        unfold jQ
        rw[if_neg (fun h=>hz h.1),decide_eq_true (by omega)]
       simp only[hA]at hone
       rw[if_neg hz]at hgo
       have hdd:(l.drop at_).drop (bF (l.drop at_)).2=l.drop (at_+(bF (l.drop at_)).2):=List.drop_drop
       have htl:((l.drop at_).take (bF (l.drop at_)).2).length=(bF (l.drop at_)).2:=by rw[A_];omega
       rw[hdd]at hgo
       clear hA
       generalize (l.drop at_).take (bF (l.drop at_)).2=tx at *
       generalize (bF (l.drop at_)).1=kd at *
       generalize (bF (l.drop at_)).2=nn at *
       by_cases hfull:4096<=out.length
       ·rw[if_pos hfull]at hgo
        (repeat'(first|refine Ctl ?_|((with_reducible refine j_ hK ?_);clear hK hE K E)|((with_reducible refine aj (fun h=>?_) (fun h=>?_))<;>(try(exfalso;first|assumption|omega)))|((first|(with_reducible first|refine ae fun K E hK hE=>?_|refine ak qo ((hone _)) ?_)|((with_reducible refine ao (fun b hb=>?_));(repeat(obtain⟨_,hb⟩:=hb))))<;>(try simp(disch:=assumption) only[go_sem,seval,a_, *]))))
        all_goals(refine ap sV hQ ?_)
        all_goals(refine⟨_,_,?_,?_,rfl,rfl⟩)
        ·rw[hgo];exact Wk.tup3
        ·(exact bC)
       ·rw[if_neg hfull]at hgo
        (repeat'(first|refine Ctl ?_|((with_reducible refine j_ hK ?_);clear hK hE K E)|((with_reducible refine aj (fun h=>?_) (fun h=>?_))<;>(try(exfalso;first|assumption|omega)))|((first|(with_reducible first|refine ae fun K E hK hE=>?_|refine ak qo ((hone _)) ?_)|((with_reducible refine ao (fun b hb=>?_));(repeat(obtain⟨_,hb⟩:=hb)))|((with_reducible refine cq (fun o2 ho=>?_));(repeat(obtain⟨_,ho⟩:=ho))))<;>(try simp(disch:=first|assumption|omega) only[go_sem,seval,a_,gu, *]))))
        refine⟨_,?_,n - nn,by omega,at_+nn,out++[{ kind:=kd,text:=tx,at_:=at_ }],_,by omega,by omega,by simp;omega,hgo,rfl,by simpa using ho,ab,?_,ab⟩
        ·simp only[d_,List.length_cons,List.length_nil]
         (exact bC)
        ·(simp(disch:=assumption) only[go_sem,seval, *])
         simp[gw]
end Go.Proofs.YteldpmgepfaiiaaGreatDoor
