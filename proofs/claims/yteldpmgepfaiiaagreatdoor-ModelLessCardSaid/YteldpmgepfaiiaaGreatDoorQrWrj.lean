/- Walks of functions that the claim reaches, and plain facts of them. Conditions: those in the statements. -/
import Derived.Test.YteldpmgepfaiiaaGreatDoorQrWq
set_option linter.unusedSimpArgs false
set_option linter.unusedVariables false
set_option maxRecDepth 100000
namespace Go.Proofs.YteldpmgepfaiiaaGreatDoor
open Go.RowKit
attribute [local go_sem] dp gv aN aX cG
theorem xj {l:List Atm}{i:Nat}{a:Atm}(h:l[i]?=some a):cm (l.take (i+1))=if a.not=true then cm (l.take i)else cm (l.take i)++[a]:=by
 unfold cm
 rw[b9 h,List.filter_append]
 cases hn:a.not<;>simp[hn]
theorem ph {l:List Atm}{i:Nat}{a:Atm}(h:l[i]?=some a):cA (l.take (i+1))=if a.not=true then cA (l.take i)++[a] else cA (l.take i):=by
 unfold cA
 rw[b9 h,List.filter_append]
 cases hn:a.not<;>simp[hn]
theorem vv {s:St}{o o2:Own}{T sz n m:Nat}(h:OwnOk (s.own o2 T sz n) o m):OwnOk s o m:=by
 cases o with
 |at_ x=>simp only[OwnOk,aR]at h;exact h.2
 |_=>exact h
theorem tZ {s:St}{o1 o2:Own}{T2 z2 T1 z1 n1 n2:Nat}(h2:OwnOk s o2 n2)(h:OwnOk (s.own o2 T2 z2 n2) o1 n1):OwnOk (s.own o1 T1 z1 n1) o2 n2:=by
 cases o2 with
 |at_ y=>
  cases o1 with
  |at_ x=>
   simp only[OwnOk,aR,ax]at h h2 ⊢
   exact⟨fun e=>h.1 e.symm,h2⟩
  |_=>exact h2
 |_=>exact h2
theorem zL {s:St}{o1 o2:Own}{T2 z2 T1 z1 n1 n2:Nat}(h:OwnOk (s.own o2 T2 z2 n2) o1 n1):(s.own o2 T2 z2 n2).own o1 T1 z1 n1=(s.own o1 T1 z1 n1).own o2 T2 z2 n2:=by
 cases o2 with
 |at_ y=>
  cases o1 with
  |at_ x=>
   simp only[OwnOk,aR,ax]at h
   exact cu (fun e=>h.1 e.symm)
  |_=>rfl
 |_=>cases o1<;>rfl
theorem GS.wk1 {s:St}{b:Nat}{T:TypeId}{xs:List (List VV)}{o:Own}(hb:s b=.obj T [.lst xs o]):GS s (s.set b (.obj T [.lst xs .no])):=
 GS.wkobj hb rfl fun j y hy=>by
  match j with
  |0=>simp at hy;subst hy;exact⟨_,rfl,Wk.lst _ _,id⟩
  |j+1=>simp at hy
theorem aQ {t:St}{z b:Nat}(hz:t z≠.free)(hb:t b=.free):z≠b:=fun e=>hz (e ▸ hb)
section
variable {A : Type} {x : Pgm} {V : List (List (List UInt8))} {X : List Tab} {vars : List (List UInt8)} {tf : FuncId} {tc : List VV} {Rz : Nat -> Prop} {P : A -> St -> (Nat -> Prop) -> Prop}
 {f:A->List Int->A×Bool} {ok:A->Prop} {good:List Int->Prop}
set_option maxHeartbeats 16000000 in
theorem Do (hT:TellOk tf tc Rz P f ok good)(hsm:∀r,good r->Sml r)(r:Rul)(hbd:∀m,m∈r.body->MAtm x X vars m)(hbl:r.body.length<=100000)(hvl:vars.length<=100000)(hvn:vars.Nodup)(hXl:∀y,y∈X->y.l.length<=1000000000)
  (p bm bz:Nat) (ov:Own) (t:St) (a:A) (F:Nat->Prop) (hM:MdAt t p bm bz x V X) (hP:P a t F) (hsep:∀z,F z->¬ MdF p bm bz X z) (ho:ok a) (hg:RGood (bQ x X) vars good (cm r.body) (cJ vars)) :
  SCalls Tryz.prog 49 [.ptr p 0,.agg (az r),.lst (aw vars) ov,.fn tf tc] t fun w u=>
   ∃u':St,w=.ret (.tup [])/\u=u'/\∃F',P (cS f a (eH (bQ x X) vars r.body)).1 u' F'/\(∀z,F' z->F z\/t z=.free)/\MdAt u' p bm bz x V X/\Keep t u' F:=by
 obtain⟨hd,body⟩:=r
 simp only at hbd hbl hg ⊢
 have hvl1:(aw vars).length=vars.length:=by simp[aw]
 have hbl1:(body.map aF).length=body.length:=by simp
 have HBD:=u_ hbd
 have HT:=u_ hT
 have HG:=u_ hg
 have HM:=u_ hM
 have HPP:=u_ hP
 have HSEP:=u_ hsep
 have HO:=u_ ho
 clear hbd hT hg hM hP hsep ho
 simp only[az]
 refine bh Tryz.func49 rfl Tryz.ntmps49 rfl fun Q hQ hQe=>?_
 (repeat'(first|refine Ctl ?_|((with_reducible refine j_ hK ?_);clear hK hE K E)|((first|(with_reducible refine ae fun K E hK hE=>?_)|((with_reducible refine ao (fun b hb=>?_));(repeat(obtain⟨_,hb⟩:=hb))))<;>(try simp(disch:=omega) only[go_sem,seval,hvl1, *]))))
 rename_i b4 hb4 b5 _ _ hb5 b7 _ _ _ _ hb7 mS _ _ _ _ _ _ hbS _ _ _ _ _ _ _ _
 obtain⟨b8,hb8⟩:∃z,z=b:=⟨_,rfl⟩
 subst hb8
 generalize hS1:((((t.set b4 (.obj 71 [.ptr p 0])).set b5 (.obj 43 [.bool hd.not,.str hd.rel,.lst (hd.ts.map aA) .no,.lst (body.map aF) .no])).set b7 (.obj 111 [.fn tf tc])).set mS (.map [])).set b8 (.obj 73 [.mp mS])=S1
 have hk1:∀z,t z≠.free->S1 z=t z:=fun z hz=>by
  rw[<- hS1,k_ _ _ (aQ hz hb),k_ _ _ (aQ hz hbS),k_ _ _ (aQ hz hb7),k_ _ _ (aQ hz hb5),k_ _ _ (aQ hz hb4)]
 have q4:S1 b4=.obj 71 [.ptr p 0]:=by
  rw[<- hS1];simp only[St.set,if_true,if_false, *]
 have q5:S1 b5=.obj 43 [.bool hd.not,.str hd.rel,.lst (hd.ts.map aA) .no,.lst (body.map aF) .no]:=by
  rw[<- hS1];simp only[St.set,if_true,if_false, *]
 have q7:S1 b7=.obj 111 [.fn tf tc]:=by
  rw[<- hS1];simp only[St.set,if_true,if_false, *]
 have qS:S1 mS=.map []:=by
  rw[<- hS1];simp only[St.set,if_true,if_false, *]
 have q8:S1 b8=.obj 73 [.mp mS]:=by
  rw[<- hS1];simp only[St.set,if_true,if_false, *]
 clear hS1
 have HFR:Hid (t b4=.free/\t b5=.free/\t b7=.free/\t mS=.free/\t b8=.free):=u_ ⟨hb4,hb5,hb7,hbS,hb⟩
 have HK1:=u_ hk1
 have k8S:¬ b8=mS:=by assumption
 clear hb4 hb5 hb7 hbS hb hk1
 refine bi (fun m env s'=>∃i:Nat,i<=vars.length/\m+i=vars.length/\s'=S1.set mS (.map (mpV bG (oF (vars.take i))))/\env 2=.lst (aw vars) ov/\env 4=.ptr b4 0/\env 5=.ptr b5 0/\env 7=.ptr b7 0/\env 8=.ptr b8 0 /\
  env 20=.lst (aw vars) ov/\env 21=.int .i64 vars.length/\env 22=.int .i64 i) vars.length ?_ ?_
 ·exact⟨0,by omega,by omega,(x_ _ _ _ qS).symm,ab,ab,ab,ab,ab,ab,ab,ab⟩
 rintro m env s' ⟨i,hi,hm,rfl,e2,e4,e5,e7,e8,e20,e21,e22⟩
 by_cases hlt:i<vars.length
 ·obtain⟨v,hv⟩:=aO hlt
  have hsv:=c8 hv
  have HSP:=u_ (yD hv)
  clear hv
  (repeat'(first|refine Ctl ?_|((with_reducible refine j_ hK ?_);clear hK hE K E)|((with_reducible refine aj (fun h=>?_) (fun h=>?_))<;>(try(exfalso;assumption)))|(((with_reducible refine ae fun K E hK hE=>?_))<;>(try simp(disch:=omega) only[go_sem,seval,hvl1,hsv, *]))))
  exact⟨m - 1,by omega,i+1,by omega,by omega,by rw[HSP.out],ab,ab,ab,ab,ab,ab,ab,ab⟩
 ·obtain rfl:i=vars.length:=by omega
  rw[f_,yC hvn]
  have q4':(S1.set mS (.map (mpV bG (eA vars)))) b4=.obj 71 [.ptr p 0]:=by rw[k_ _ _ (by assumption)];exact q4
  have q5':(S1.set mS (.map (mpV bG (eA vars)))) b5=.obj 43 [.bool hd.not,.str hd.rel,.lst (hd.ts.map aA) .no,.lst (body.map aF) .no]:=by rw[k_ _ _ (by assumption)];exact q5
  have q7':(S1.set mS (.map (mpV bG (eA vars)))) b7=.obj 111 [.fn tf tc]:=by rw[k_ _ _ (by assumption)];exact q7
  have q8':(S1.set mS (.map (mpV bG (eA vars)))) b8=.obj 73 [.mp mS]:=by rw[k_ _ _ (by assumption)];exact q8
  have qS':(S1.set mS (.map (mpV bG (eA vars)))) mS=.map (mpV bG (eA vars)):=q_ _ _ _
  have HK2:Hid (∀z,t z≠.free->(S1.set mS (.map (mpV bG (eA vars)))) z=t z):=u_ fun z hz=>by rw[k_ _ _ (aQ hz HFR.out.2.2.2.1)];exact HK1.out z hz
  clear q4 q5 q7 q8 qS HK1
  generalize S1.set mS (.map (mpV bG (eA vars)))=S2 at *
  have l4:S2 b4≠.free:=by rw[q4'];simp
  have l5:S2 b5≠.free:=by rw[q5'];simp
  have l7:S2 b7≠.free:=by rw[q7'];simp
  have l8:S2 b8≠.free:=by rw[q8'];simp
  have lS:S2 mS≠.free:=by rw[qS'];simp
  (repeat'(first|refine Ctl ?_|((with_reducible refine j_ hK ?_);clear hK hE K E)|((with_reducible refine aj (fun h=>?_) (fun h=>?_))<;>(try(exfalso;assumption)))|((first|(with_reducible refine ae fun K E hK hE=>?_)|((with_reducible refine ao (fun b hb=>?_));(repeat(obtain⟨_,hb⟩:=hb));(try(obtain⟨_,_⟩:=nef hb l4;obtain⟨_,_⟩:=nef hb l5;obtain⟨_,_⟩:=nef hb l7;obtain⟨_,_⟩:=nef hb l8;obtain⟨_,_⟩:=nef hb lS))))<;>(try simp(disch:=omega) only[go_sem,seval,hbl1, *]))))
  rename_i b11 h11 _ _ _ _ _ _ _ _ _ _ _ _ _ _ _ _ _ _ _ _ _ _
  obtain⟨b12,hb12⟩:∃z,z=b:=⟨_,rfl⟩
  subst hb12
  have h12:=hb
  have k12:¬ b12=b11:=by assumption
  have k21:¬ b11=b12:=by assumption
  clear e20 e21 e22
  refine aI (fun m env s'=>∃(i:Nat) (oP oN:Own),i<=body.length/\m+i=body.length/\OwnOk S2 oP (cm (body.take i)).length/\OwnOk (S2.own oP 40 3 (cm (body.take i)).length) oN (cA (body.take i)).length/\ax oP b11/\ax oP b12/\ax oN b11/\ax oN b12 /\
   s'=(((S2.own oP 40 3 (cm (body.take i)).length).own oN 40 3 (cA (body.take i)).length).set b11 (.obj 41 [.lst ((cm (body.take i)).map fun a=>aF a) oP])).set b12 (.obj 41 [.lst ((cA (body.take i)).map fun a=>aF a) oN]) /\
   env 2=.lst (aw vars) ov/\env 4=.ptr b4 0/\env 5=.ptr b5 0/\env 7=.ptr b7 0/\env 8=.ptr b8 0/\env 11=.ptr b11 0/\env 12=.ptr b12 0/\env 32=.lst (body.map aF) .no/\env 33=.int .i64 body.length/\env 34=.int .i64 i) body.length ?_ ?_
  ·exact⟨_,Fg.refl _,0,.full,.full,by omega,by omega,cx,cx,trivial,trivial,trivial,trivial,rfl,ab,ab,ab,ab,ab,ab,ab,ab,ab,ab⟩
  clear e2 e4 e5 e7 e8 hi hm hlt env m
  rintro m env s' ⟨i,oP,oN,hi,hm,hoP,hoN,n11,n12,n21,n22,rfl,e2,e4,e5,e7,e8,e11,e12,e32,e33,e34⟩
  by_cases hlt:i<body.length
  ·obtain⟨ai,hai⟩:=aO hlt
   have hsa:=c5 hai
   have hp:=xj hai
   have hn:=ph hai
   have hpl:(cm (body.take i)).length<=i:=Nat.le_trans (List.length_filter_le _ _) (by rw[A_];omega)
   have hnl:(cA (body.take i)).length<=i:=Nat.le_trans (List.length_filter_le _ _) (by rw[A_];omega)
   have HPN:=u_ (And.intro hp hn)
   have h3p:∀y,y∈(cm (body.take i)).map (fun a=>aF a)->y.length=3:=fun y hy=>by
    obtain⟨q,_,rfl⟩:=E_.1 hy
    rfl
   have h3n:∀y,y∈(cA (body.take i)).map (fun a=>aF a)->y.length=3:=fun y hy=>by
    obtain⟨q,_,rfl⟩:=E_.1 hy
    rfl
   have hlp:((cm (body.take i)).map (fun a=>aF a)).length=(cm (body.take i)).length:=by simp
   have hln:((cA (body.take i)).map (fun a=>aF a)).length=(cA (body.take i)).length:=by simp
   clear hai hp hn
   generalize hLP:(cm (body.take i)).map (fun a=>aF a)=LP at *
   generalize hLN:(cA (body.take i)).map (fun a=>aF a)=LN at *
   generalize hNP:(cm (body.take i)).length=NP at *
   generalize hNN:(cA (body.take i)).length=NN at *
   obtain⟨an,ar,ats⟩:=ai
   simp only[aF]at hsa
   cases an with
   |true=>
    (repeat'(first|refine Ctl ?_|((with_reducible refine j_ hK ?_);clear hK hE K E)|((with_reducible refine aj (fun h=>?_) (fun h=>?_))<;>(try(exfalso;assumption)))|((first|(with_reducible refine ae fun K E hK hE=>?_)|((with_reducible refine ao (fun b hb=>?_));(repeat(obtain⟨_,hb⟩:=hb));(try(rw[aR,aR]at hb;obtain⟨_,_,hb⟩:=hb)))|((with_reducible refine cB (fun o2 ho=>?_));(try simp(disch:=assumption) only[aJ,aM,aU,bP,a_,List.length_cons,List.length_nil,Nat.zero_add,hbl1,hsa,hlp,hln,gv]at ho);(repeat(obtain⟨_,ho⟩:=ho))))<;>(try simp(disch:=first|assumption|omega) only[go_sem,seval,hbl1,hsa,hlp,hln,gv, *]))))
    have HP1:=HPN.out.1
    have HN1:=HPN.out.2
    simp only[if_true]at HP1 HN1
    exact⟨_,v_ _ (by rw[k_ _ _ (by assumption),k_ _ _ (by assumption),aR,aR];exact⟨by assumption,by assumption,hb⟩),m - 1,by omega,i+1,oP,_,by omega,by omega,by rw[HP1,hNP];exact hoP,by rw[HP1,hNP,HN1,d_,hNN];exact ho,by assumption,by assumption,by assumption,by assumption,
     by rw[HP1,hNP,HN1,d_,hNN,List.map_append,hLP,hLN];rfl,ab,ab,ab,ab,ab,ab,ab,ab,ab,ab⟩
   |false=>
    (repeat'(first|refine Ctl ?_|((with_reducible refine j_ hK ?_);clear hK hE K E)|((with_reducible refine aj (fun h=>?_) (fun h=>?_))<;>(try(exfalso;assumption)))|((first|(with_reducible refine ae fun K E hK hE=>?_)|((with_reducible refine ao (fun b hb=>?_));(repeat(obtain⟨_,hb⟩:=hb));(try(rw[aR,aR]at hb;obtain⟨_,_,hb⟩:=hb)))|((with_reducible refine cB (fun o2 ho=>?_));(try simp(disch:=assumption) only[aJ,aM,aU,bP,a_,List.length_cons,List.length_nil,Nat.zero_add,hbl1,hsa,hlp,hln,gv]at ho);(repeat(obtain⟨_,ho⟩:=ho))))<;>(try simp(disch:=first|assumption|omega) only[go_sem,seval,hbl1,hsa,hlp,hln,gv, *]))))
    have HP1:=HPN.out.1
    have HN1:=HPN.out.2
    simp only[Bool.false_eq_true,if_false]at HP1 HN1
    exact⟨_,v_ _ (by rw[k_ _ _ (by assumption),k_ _ _ (by assumption),aR,aR];exact⟨by assumption,by assumption,hb⟩),m - 1,by omega,i+1,_,oN,by omega,by omega,by rw[HP1,d_,hNP];exact vv ho,by rw[HN1,hNN,HP1,d_,hNP];exact tZ (vv hoN) ho,by assumption,by assumption,by assumption,by assumption,
     by rw[HN1,hNN,HP1,d_,hNP,List.map_append,hLP,hLN,zL ho];rfl,ab,ab,ab,ab,ab,ab,ab,ab,ab,ab⟩
  ·obtain rfl:i=body.length:=by omega
   rw[f_]at hoP hoN ⊢
   have hg1:=GS.wk1 (s:=(((S2.own oP 40 3 (cm body).length).own oN 40 3 (cA body).length).set b11 (.obj 41 [.lst ((cm body).map fun a=>aF a) oP])).set b12 (.obj 41 [.lst ((cA body).map fun a=>aF a) oN])) (b:=b12) (q_ _ _ _)
   rw[St.set_set]at hg1
   have hg2:=GS.wk1 (s:=(((S2.own oP 40 3 (cm body).length).own oN 40 3 (cA body).length).set b11 (.obj 41 [.lst ((cm body).map fun a=>aF a) oP])).set b12 (.obj 41 [.lst ((cA body).map fun a=>aF a) .no])) (b:=b11) (by rw[k_ _ _ k21];exact q_ _ _ _)
   rw[cu (x:=b12) (y:=b11) k12,St.set_set]at hg2
   have hg3:Fg ((((S2.own oP 40 3 (cm body).length).own oN 40 3 (cA body).length).set b11 (.obj 41 [.lst ((cm body).map fun a=>aF a) .no])).set b12 (.obj 41 [.lst ((cA body).map fun a=>aF a) .no])) ((S2.set b11 (.obj 41 [.lst ((cm body).map fun a=>aF a) .no])).set b12 (.obj 41 [.lst ((cA body).map fun a=>aF a) .no])):=
    Fg.set (Fg.set ((Fg.own hoN).trans (Fg.own hoP)) _ _) _ _
   refine nU (hg1.trans (hg2.trans (GS.of_fg hg3))) ?_
   clear hg1 hg2 hg3 hoP hoN
   have w4:((S2.set b11 (.obj 41 [.lst ((cm body).map fun a=>aF a) .no])).set b12 (.obj 41 [.lst ((cA body).map fun a=>aF a) .no])) b4=.obj 71 [.ptr p 0]:=by rw[k_ _ _ (by assumption),k_ _ _ (by assumption)];exact q4'
   have w7:((S2.set b11 (.obj 41 [.lst ((cm body).map fun a=>aF a) .no])).set b12 (.obj 41 [.lst ((cA body).map fun a=>aF a) .no])) b7=.obj 111 [.fn tf tc]:=by rw[k_ _ _ (by assumption),k_ _ _ (by assumption)];exact q7'
   have w8:((S2.set b11 (.obj 41 [.lst ((cm body).map fun a=>aF a) .no])).set b12 (.obj 41 [.lst ((cA body).map fun a=>aF a) .no])) b8=.obj 73 [.mp mS]:=by rw[k_ _ _ (by assumption),k_ _ _ (by assumption)];exact q8'
   have wS:((S2.set b11 (.obj 41 [.lst ((cm body).map fun a=>aF a) .no])).set b12 (.obj 41 [.lst ((cA body).map fun a=>aF a) .no])) mS=.map (mpV bG (eA vars)):=by rw[k_ _ _ (by assumption),k_ _ _ (by assumption)];exact qS'
   have w11:((S2.set b11 (.obj 41 [.lst ((cm body).map fun a=>aF a) .no])).set b12 (.obj 41 [.lst ((cA body).map fun a=>aF a) .no])) b11=.obj 41 [.lst ((cm body).map fun a=>aF a) .no]:=by rw[k_ _ _ k21];exact q_ _ _ _
   have w12:((S2.set b11 (.obj 41 [.lst ((cm body).map fun a=>aF a) .no])).set b12 (.obj 41 [.lst ((cA body).map fun a=>aF a) .no])) b12=.obj 41 [.lst ((cA body).map fun a=>aF a) .no]:=q_ _ _ _
   have HF11:Hid (t b11=.free/\t b12=.free):=u_ ⟨by
    by_cases h:t b11=.free
    ·exact h
    ·rw[<- HK2.out _ h];exact h11,by
    by_cases h:t b12=.free
    ·exact h
    ·rw[<- HK2.out _ h];exact h12⟩
   have HK3:Hid (∀z,t z≠.free->((S2.set b11 (.obj 41 [.lst ((cm body).map fun a=>aF a) .no])).set b12 (.obj 41 [.lst ((cA body).map fun a=>aF a) .no])) z=t z):=u_ fun z hz=>by
    rw[k_ _ _ (aQ hz HF11.out.2),k_ _ _ (aQ hz HF11.out.1)];exact HK2.out z hz
   clear q4' q5' q7' q8' qS' HK2 l4 l5 l7 l8 lS h11 h12 hb
   generalize (S2.set b11 (.obj 41 [.lst ((cm body).map fun a=>aF a) .no])).set b12 (.obj 41 [.lst ((cA body).map fun a=>aF a) .no])=S3 at *
   have l4:S3 b4≠.free:=by rw[w4];simp
   have l7:S3 b7≠.free:=by rw[w7];simp
   have l8:S3 b8≠.free:=by rw[w8];simp
   have lS:S3 mS≠.free:=by rw[wS];simp
   have l11:S3 b11≠.free:=by rw[w11];simp
   have l12:S3 b12≠.free:=by rw[w12];simp
   (repeat'(first|refine Ctl ?_|((with_reducible refine j_ hK ?_);clear hK hE K E)|((with_reducible refine aj (fun h=>?_) (fun h=>?_))<;>(try(exfalso;assumption)))|((first|(with_reducible first|refine ae fun K E hK hE=>?_|refine lK ?_)|((with_reducible refine ao (fun b hb=>?_));(repeat(obtain⟨_,hb⟩:=hb));(try(obtain⟨_,_⟩:=nef hb l4;obtain⟨_,_⟩:=nef hb l7;obtain⟨_,_⟩:=nef hb l8;obtain⟨_,_⟩:=nef hb lS;obtain⟨_,_⟩:=nef hb l11;obtain⟨_,_⟩:=nef hb l12))))<;>(try simp(disch:=omega) only[go_sem,seval,hbl1,hvl1, *]))))
   rename_i rb hrb _ _ _ _ _ _ _ _ _ _ _ _ b15 _ _ h15 _ _ _ _ _ _ _ _ _ _ _ _ kb _ _ _ _ hkb _ _ _ _ _ _ _ _ _ _ _ _ b16 _ _ _ _ _ _ h16 _ _ _ _ _ _ _ _ _ _ _ _ b17 _ _ _ _ _ _ _ _ h17 _ _ _ _ _ _ _ _ _ _ _ _ _ _ _ _ _ _ _ _ _ _ _ _ _ _ _ _ _ _ _ _ _ _
   obtain⟨b18,hb18⟩:∃z,z=b:=⟨_,rfl⟩
   subst hb18
   have h18:=hb
   generalize hS6:(((((S3.set rb (.obj 3 (List.replicate vars.length (VV.int .i64 0)))).set b15 (.obj 48 [.msl rb vars.length])).set kb (.obj 4 (List.replicate vars.length (VV.bool false)))).set b16 (.obj 148 [.msl kb vars.length])).set b17 (.obj 149 [.fn 79 [.ptr b15 0,.ptr b8 0]])).set b18 (.obj 54 [.fn 80 [.ptr b11 0,.ptr b12 0,.ptr b17 0,.ptr b4 0,.ptr b7 0,.ptr b15 0,.ptr b16 0,.ptr b8 0,.ptr b18 0]])=S6
   have hrp:List.replicate vars.length (VV.int .i64 0)=cQ (List.replicate vars.length 0):=by simp[cQ]
   have hrk:List.replicate vars.length (VV.bool false)=co (List.replicate vars.length false):=xN
   have z0:S6 b4=.obj 71 [.ptr p 0]:=by
    rw[<- hS6]
    simp only[St.set,if_true,if_false,hrp,hrk, *]
   have z1:S6 b7=.obj 111 [.fn tf tc]:=by
    rw[<- hS6]
    simp only[St.set,if_true,if_false,hrp,hrk, *]
   have z2:S6 b8=.obj 73 [.mp mS]:=by
    rw[<- hS6]
    simp only[St.set,if_true,if_false,hrp,hrk, *]
   have z3:S6 mS=.map (mpV bG (eA vars)):=by
    rw[<- hS6]
    simp only[St.set,if_true,if_false,hrp,hrk, *]
   have z4:S6 b11=.obj 41 [.lst ((cm body).map fun a=>aF a) .no]:=by
    rw[<- hS6]
    simp only[St.set,if_true,if_false,hrp,hrk, *]
   have z5:S6 b12=.obj 41 [.lst ((cA body).map fun a=>aF a) .no]:=by
    rw[<- hS6]
    simp only[St.set,if_true,if_false,hrp,hrk, *]
   have z6:S6 rb=.obj 3 (cQ (List.replicate vars.length 0)):=by
    rw[<- hS6]
    simp only[St.set,if_true,if_false,hrp,hrk, *]
   have z7:S6 b15=.obj 48 [.msl rb vars.length]:=by
    rw[<- hS6]
    simp only[St.set,if_true,if_false,hrp,hrk, *]
   have z8:S6 kb=.obj 4 (co (List.replicate vars.length false)):=by
    rw[<- hS6]
    simp only[St.set,if_true,if_false,hrp,hrk, *]
   have z9:S6 b16=.obj 148 [.msl kb vars.length]:=by
    rw[<- hS6]
    simp only[St.set,if_true,if_false,hrp,hrk, *]
   have z10:S6 b17=.obj 149 [.fn 79 [.ptr b15 0,.ptr b8 0]]:=by
    rw[<- hS6]
    simp only[St.set,if_true,if_false,hrp,hrk, *]
   have z11:S6 b18=.obj 54 [.fn 80 [.ptr b11 0,.ptr b12 0,.ptr b17 0,.ptr b4 0,.ptr b7 0,.ptr b15 0,.ptr b16 0,.ptr b8 0,.ptr b18 0]]:=by
    rw[<- hS6]
    simp only[St.set,if_true,if_false,hrp,hrk, *]
   have HFC:Hid (t rb=.free/\t b15=.free/\t kb=.free/\t b16=.free/\t b17=.free/\t b18=.free):=by
    have hh:∀z,S3 z=.free->t z=.free:=fun z hz=>by
     by_cases h:t z=.free
     ·exact h
     ·rw[<- HK3.out _ h];exact hz
    exact u_ ⟨hh _ hrb,hh _ h15,hh _ hkb,hh _ h16,hh _ h17,hh _ h18⟩
   have HK4:Hid (∀z,t z≠.free->S6 z=t z):=u_ fun z hz=>by
    rw[<- hS6,k_ _ _ (aQ hz HFC.out.2.2.2.2.2),k_ _ _ (aQ hz HFC.out.2.2.2.2.1),k_ _ _ (aQ hz HFC.out.2.2.2.1),k_ _ _ (aQ hz HFC.out.2.2.1),k_ _ _ (aQ hz HFC.out.2.1),k_ _ _ (aQ hz HFC.out.1)]
    exact HK3.out z hz
   clear hS6 w4 w7 w8 wS w11 w12 l4 l7 l8 lS l11 l12 HK3 hrb h15 hkb h16 h17 h18 hb
   have hW:WkS S6 ⟨b11,b12,b17,b4,b7,b15,b16,b8,b18,rb,kb,mS⟩ p bm bz x V X (cm body) (cA body) vars tf tc Rz P a F (List.replicate vars.length 0) (List.replicate vars.length false):=by
    refine⟨⟨z4,z5,z10,z0,z1,by rw[List.length_replicate];exact z7,by rw[List.length_replicate];exact z9,z2,z11,z6,z8,z3⟩,HM.out.keep fun z hz=>HK4.out z (HM.out.live hz),HT.out.keep _ _ _ _ HPP.out fun z hz=>HK4.out z (hz.elim (HT.out.live _ _ _ _ HPP.out) (HT.out.rd _ _ _ _ HPP.out)),fun z hz=>⟨?_,HSEP.out z hz⟩,fun z hz=>⟨?_,?_⟩⟩
    ·have hl:=HT.out.live _ _ _ _ HPP.out hz
     rintro(h|h|h|h|h|h|h|h|h|h|h|h)<;>subst h<;>simp only[HFR.out.1,HFR.out.2.1,HFR.out.2.2.1,HFR.out.2.2.2.1,HFR.out.2.2.2.2,HF11.out.1,HF11.out.2,HFC.out.1,HFC.out.2.1,HFC.out.2.2.1,HFC.out.2.2.2.1,HFC.out.2.2.2.2.1,HFC.out.2.2.2.2.2,ne_eq,not_true_eq_false]at hl
    ·exact aQ (HT.out.rd _ _ _ _ HPP.out hz) HFC.out.1
    ·exact aQ (HT.out.rd _ _ _ _ HPP.out hz) HFC.out.2.2.1
   have hA:AsgAt vars.length (cJ vars) (List.replicate vars.length 0) (List.replicate vars.length false):=⟨by simp[cJ],by simp,by simp[cJ],fun i v h=>by
    unfold cJ at h
    rw[List.getElem?_replicate]at h
    split at h<;>cases h⟩
   have hpos:∀m,m∈cm body->MAtm x X vars m:=fun m hm=>HBD.out m (List.mem_filter.1 hm).1
   have hneg:∀m,m∈cA body->MAtm x X vars m:=fun m hm=>HBD.out m (List.mem_filter.1 hm).1
   have hpl:(cm body).length<=100000:=Nat.le_trans (List.length_filter_le _ _) hbl
   have hnl:(cA body).length<=100000:=Nat.le_trans (List.length_filter_le _ _) hbl
   have wc:=C4 HT.out hsm hpos hneg hnl hpl hvl ⟨b11,b12,b17,b4,b7,b15,b16,b8,b18,rb,kb,mS⟩ p bm bz hXl (cm body).length 0 (by omega) S6 a F (cJ vars) _ _ hW hA HO.out (by rw[List.drop_zero];exact HG.out)
   rw[List.drop_zero,show eI (bQ x X) vars (cA body) (cm body) (cJ vars)=eH (bQ x X) vars body from rfl]at wc
   clear z0 z1 z2 z3 z4 z5 z6 z7 z8 z9 z10 z11 hW hA hpos hneg hpl hnl
   refine aT DU wc (fun u h=>?_)
   obtain⟨rv',F',g1,g2,g3,g4⟩:=h
   have HU:=u_ (And.intro g1.c (And.intro g1.m (And.intro g3 g4)))
   clear g1 g2 g3 g4 wc
   simp only[go_sem,seval]
   (repeat'(((with_reducible refine j_ hK ?_);clear hK hE K E)))
   all_goals(refine eE DF hQ ?_)
   obtain⟨g1,g2,g3,g4⟩:=HU.out
   refine⟨_,_,Wk.refl _,Fg.refl _,_,rfl,rfl,F',g1,fun z hz=>?_,g2,fun z hz hn=>?_⟩
   ·rcases g3 z hz with h|h
    ·exact .inl h
    ·by_cases h1:t z=.free
     ·exact .inr h1
     ·rw[HK4.out z h1]at h;exact absurd h h1
   ·rw[g4 z (by rw[HK4.out z hz];exact hz) (fun h=>by
     rcases h with h|h|h
     ·exact hn h
     ·exact aQ hz HFC.out.1 h
     ·exact aQ hz HFC.out.2.2.1 h)]
    exact HK4.out z hz
end
end Go.Proofs.YteldpmgepfaiiaaGreatDoor
namespace Go.Proofs.YteldpmgepfaiiaaGreatDoor
open Go.RowKit
attribute [local go_sem] aN aX cG
theorem lZ {k:List UInt8}:∀{l:List (List UInt8)} {i:Nat},(∀y,y∈l.take i->¬ y=k)->l[i]?=some k->ixT k l=some i
 |[],i,_,h=>by simp at h
 |x::l,0,_,h=>by simp at h;subst h;simp[ixT]
 |x::l,i+1,ha,h=>by
  have h1:¬ k=x:=fun e=>ha x (by simp) e.symm
  simp only[ixT]
  rw[if_neg h1,lZ (l:=l) (i:=i) (fun z hz=>ha z (by simp[hz])) (by simpa using h)]
  rfl
set_option maxHeartbeats 2000000 in
theorem Lb (l:List (List UInt8))(o:Own)(n:List UInt8)(hn:l.length<=1000000000)(s:St):SRet Tryz.prog 60 [.lst (aw l) o,.str n] s (.int .i64 (fQ n l)) s:=by
 have hsl:(aw l).length=l.length:=by simp[aw]
 refine bh Tryz.func60 rfl Tryz.ntmps60 rfl fun Q hQ hQe=>?_
 (repeat'(first|refine Ctl ?_|((with_reducible refine j_ hK ?_);clear hK hE K E)|(((with_reducible refine ae fun K E hK hE=>?_))<;>(try simp(disch:=omega) only[go_sem,seval,hsl, *]))))
 refine bi (fun m env s'=>∃(i:Nat),i<=l.length/\m+i=l.length/\(∀x,x∈l.take i->¬ x=n)/\s'=s/\env 0=.lst (aw l) o/\env 1=.str n/\env 7=.int .i64 l.length/\env 8=.int .i64 i) l.length
  ⟨0,by omega,by omega,by simp,rfl,ab,ab,ab,ab⟩ ?_
 rintro m env s' ⟨i,hi,hm,hall,rfl,e0,e1,e7,e8⟩
 by_cases hlt:i<l.length
 ·obtain⟨x,hx⟩:=aO hlt
  have hsx:=c8 hx
  have htake:=b9 hx
  by_cases hnx:x=n
  ·subst hnx
   have hres:fQ x l=i:=by unfold fQ;rw[lZ hall hx]
   clear hall htake hx
   (repeat'(first|refine Ctl ?_|((with_reducible refine j_ hK ?_);clear hK hE K E)|((with_reducible refine aj (fun h=>?_) (fun h=>?_))<;>(try(exfalso;assumption)))|(((with_reducible refine ae fun K E hK hE=>?_))<;>(try simp(disch:=omega) only[go_sem,seval,hsl,hsx, *]))))
   all_goals(refine ap yU hQ ?_)
   all_goals(refine⟨_,_,Wk.of_eq ?_,?_,rfl,rfl⟩)
   all_goals first|(exact bj)|(rw[hres];done)
  ·have hall2:∀y,y∈l.take (i+1)->¬ y=n:=fun y hy=>by
    rw[htake]at hy
    rcases l_.1 hy with hy|hy
    ·exact hall y hy
    ·rw[e_]at hy;subst hy;exact hnx
   have hnx2:¬ n=x:=fun e=>hnx e.symm
   clear hall htake hx
   (repeat'(first|refine Ctl ?_|((with_reducible refine j_ hK ?_);clear hK hE K E)|((with_reducible refine aj (fun h=>?_) (fun h=>?_))<;>(try(exfalso;assumption)))|(((with_reducible refine ae fun K E hK hE=>?_))<;>(try simp(disch:=omega) only[go_sem,seval,hsl,hsx, *]))))
   all_goals exact⟨m - 1,by omega,i+1,by omega,by omega,hall2,rfl,ab,ab,ab,ab⟩
 ·have hres:fQ n l=-1:=by
   have:l.take i=l:=B_ (by omega)
   rw[this]at hall
   unfold fQ;rw[gG.2 fun hm=>hall n hm rfl]
  clear hall
  (repeat'(first|refine Ctl ?_|((with_reducible refine j_ hK ?_);clear hK hE K E)|((with_reducible refine aj (fun h=>?_) (fun h=>?_))<;>(try(exfalso;assumption)))|(((with_reducible refine ae fun K E hK hE=>?_))<;>(try simp(disch:=omega) only[go_sem,seval,hsl, *]))))
  all_goals(refine ap yU hQ ?_)
  all_goals(refine⟨_,_,Wk.of_eq ?_,?_,rfl,rfl⟩)
  all_goals first|(exact bj)|(rw[hres];done)
structure GB where
 r:Nat
 v:Nat
 t:Nat
 f:Nat
 a:Nat
 mf:Nat
structure GvAt (u:St) (D:GB) (g:Nat) (rl:Rul) (vars:List (List UInt8)) (y:Tab) (al:List (List Int)):Prop where
 r:u D.r=.obj 43 (az rl)
 v:u D.v=.obj 64 [.lst (aw vars) .no]
 t:u D.t=.obj 78 [.ptr y.b 0]
 f:u D.f=.obj 79 [.mp D.mf]
 yo:u y.b=.obj 81 [d9 y.l y.g,.mp y.m]
 yh:u y.m=.map (mpV cO (gI y.l))
 a:u D.a=.obj 44 [d9 al g]
 mf:u D.mf=.map (mpV cO (gI al))
 g:al≠[]->u g=.row 48 1 (al.map bV)
 ne:D.mf≠y.m
def GvF (D:GB)(g:Nat)(al:List (List Int))(z:Nat):Prop:=z=D.a\/z=D.mf\/(al≠[]/\z=g)
def gvF (vars:List (List UInt8))(ts:List Trm)(l:List (List Int))(al:List (List Int))(row:List Int):List (List Int)×Bool:=
 if aS vars row ts∈l\/aS vars row ts∈al then(al,decide (l.length+al.length<=16384))else(al++[aS vars row ts],decide (l.length+(al.length+1)<=16384))
theorem kM {u:St}{mf bM z:Nat}{e:List (VV×VV)}(hM:(u.set mf (.map e)) bM=.free)(hz:u z≠.free):¬ z=bM/\¬ bM=z:=by
 have h:¬ z=bM:=by
  rintro rfl
  by_cases h:z=mf
  ·subst h;rw[q_]at hM;cases hM
  ·rw[k_ _ _ h]at hM;exact hz hM
 exact⟨h,fun e=>h e.symm⟩
theorem uL {u:St}{mf g bM z:Nat}{e:List (VV×VV)}(hM:((u.set mf (.map e)).set g .free) bM=.free)(hz:u z≠.free)(hg:¬ z=g):¬ z=bM/\¬ bM=z:=by
 have h:¬ z=bM:=by
  rintro rfl
  rw[k_ _ _ hg]at hM
  exact(kM hM hz).1 rfl
 exact⟨h,fun e=>h e.symm⟩
theorem fe {u:St}{g z:Nat}{T sz:Nat}{xs:List VV}(hg:u g=.row T sz xs){c:Cell}(hz:u z=c)(hc:∀T sz xs,c≠.row T sz xs):¬ z=g:=by
 rintro rfl
 exact hc _ _ _ (hz.symm.trans hg)
set_option maxHeartbeats 16000000 in
theorem Lc (u:St)(D:GB)(g:Nat)(hd:Atm)(body:List Atm)(vars:List (List UInt8))(y:Tab)(al:List (List Int))(row:List Int)(hA:GvAt u D g ⟨hd,body⟩ vars y al)(hal:∀x,x∈al->Sml x)(hyl:∀x,x∈y.l->Sml x)
  (hr:Sml row) (hrl:row.length=vars.length) (hvl:vars.length<=100000) (hf:ij vars vars.length hd.ts) (htl:hd.ts.length<=100000) (hnum:∀m,m∈hd.ts->m.var=false->0<=m.n/\m.n<256) (h1:y.l.length<=1000000) (h2:al.length<=1000000) :
  SCalls Tryz.prog 59 [bV row,.ptr D.r 0,.ptr D.v 0,.ptr D.t 0,.ptr D.f 0,.ptr D.a 0] u fun w s=>∃u':St,w=.ret (.bool (gvF vars hd.ts y.l al row).2)/\s=u' /\
   ∃g',GvAt u' D g' ⟨hd,body⟩ vars y (gvF vars hd.ts y.l al row).1/\Keep u u' (GvF D g al)/\(∀z,GvF D g' (gvF vars hd.ts y.l al row).1 z->GvF D g al z\/u z=.free):=by
 obtain⟨nt,rl,ts⟩:=hd
 simp only at hf htl hnum ⊢
 have hsml:=fw hr (by rw[hrl];exact hf) htl hnum
 have wt:=fun s=>mh (aS vars row ts) (by have:=hsml.1;omega) s
 have wi:=fun n s=>Lb vars .no n (by omega) s
 have hl1:(ts.map aA).length=ts.length:=by simp
 have hrl2:(ay row).length=vars.length:=by rw[bH];exact hrl
 have hk1:=gE hsml hyl
 have hk2:=gE hsml hal
 have hp2:=mV hsml hal
 have q1:=hA.r
 have q2:=hA.v
 have q3:=hA.t
 have q4:=hA.f
 have q5:=hA.yo
 have q6:=hA.yh
 have q7:=hA.a
 have q8:=hA.mf
 have q9:=hA.g
 have l1:u D.r≠.free:=by rw[q1];simp
 have l2:u D.v≠.free:=by rw[q2];simp
 have l3:u D.t≠.free:=by rw[q3];simp
 have l4:u D.f≠.free:=by rw[q4];simp
 have l5:u y.b≠.free:=by rw[q5];simp
 have l6:u y.m≠.free:=by rw[q6];simp
 have l7:u D.a≠.free:=by rw[q7];simp
 have l8:u D.mf≠.free:=by rw[q8];simp
 simp only[az]at q1
 have HA:=u_ hA
 have HAL:=u_ hal
 have HR:=u_ hr
 clear hA hal hr hyl
 generalize hGE:gvF vars ts y.l al row=GE
 have HGE:=u_ hGE
 clear hGE
 unfold bV at wt ⊢
 refine bh Tryz.func59 rfl Tryz.ntmps59 rfl fun Q hQ hQe=>?_
 (repeat'(first|refine Ctl ?_|((with_reducible refine j_ hK ?_);clear hK hE K E)|(((with_reducible refine ae fun K E hK hE=>?_))<;>(try simp(disch:=omega) only[go_sem,seval,hl1, *]))))
 refine aI (fun m env s'=>∃(j:Nat) (o:Own),j<=ts.length/\m+j=ts.length/\OwnOk u o j/\s'=u.own o 3 1 j/\env 0=.lst (ay row) .no/\env 1=.ptr D.r 0/\env 2=.ptr D.v 0/\env 3=.ptr D.t 0/\env 4=.ptr D.f 0/\env 5=.ptr D.a 0 /\
  env 8=.lst (ay (aS vars row (ts.take j))) o/\env 15=.lst (ts.map aA) .no/\env 16=.int .i64 ts.length/\env 17=.int .i64 j) ts.length ?_ ?_
 ·exact⟨_,Fg.refl _,0,.full,by omega,by omega,cx,rfl,ab,ab,ab,ab,ab,ab,ab,ab,ab,ab⟩
 rintro m env s' ⟨j,o,hj,hm,hoo,rfl,e0,e1,e2,e3,e4,e5,e8,e15,e16,e17⟩
 by_cases hltj:j<ts.length
 ·obtain⟨z,hz⟩:=aO hltj
  have hsz:=c7 hz
  have HS:=u_ (jM (vars:=vars) (row:=row) hz)
  have hfz:=hf z (p_ hz)
  have hLl:(ay (aS vars row (ts.take j))).length=j:=by rw[bH,aS,a_,A_];omega
  have h1y:∀y,y∈ay (aS vars row (ts.take j))->y.length=1:=fun y hy=>by
   obtain⟨q,_,rfl⟩:=E_.1 hy
   rfl
  have o2':=hoo.not l2
  obtain⟨xv,xn,xz⟩:=z
  simp only[aA]at hsz
  clear hz
  generalize ay (aS vars row (ts.take j))=L at *
  cases xv with
  |true=>
   obtain⟨k,hk3,hk4⟩:=hfz rfl
   have hk3':ixT xn vars=some k:=hk3
   obtain⟨z,hz⟩:∃z,row[k]?=some z:=aO (by omega)
   have hsr:=cq hz
   have w2:=wi xn
   rw[show fQ xn vars=(k:Int) by simp[fQ,hk3']]at w2
   rw[show eq vars row ⟨true,xn,xz⟩=z by simp[eq,hk3',hz]]at HS
   clear hfz hk3 hk3' hz wi
   (repeat'(first|refine Ctl ?_|((with_reducible refine j_ hK ?_);clear hK hE K E)|((with_reducible refine aj (fun h=>?_) (fun h=>?_))<;>(try(exfalso;assumption)))|((first|(with_reducible first|refine ae fun K E hK hE=>?_|refine ak KU (w2 _) ?_)|((with_reducible refine ao (fun b hb=>?_));(repeat(obtain⟨_,hb⟩:=hb));(try(obtain⟨_,_⟩:=nef hb l2)))|((with_reducible refine cB (fun o2 ho=>?_));(try simp(disch:=assumption) only[aJ,aM,aU,bP,a_,List.length_cons,List.length_nil,Nat.zero_add,hl1,hsz,hLl,hrl2,hsr]at ho);(repeat(obtain⟨_,ho⟩:=ho))))<;>(try simp(disch:=first|assumption|omega) only[go_sem,seval,hl1,hsz,hLl,hrl2,hsr, *]))))
   exact⟨_,v_ _ (by rw[aR];exact⟨by assumption,hb⟩),m - 1,by omega,j+1,o2,by omega,by omega,ho,rfl,ab,ab,ab,ab,ab,ab,by rw[HS.out];((try simp(disch:=assumption) only[go_sem,seval, *])<;>rfl),ab,ab,ab⟩
  |false=>
   rw[show eq vars row ⟨false,xn,xz⟩=xz from rfl]at HS
   clear hfz wi
   (repeat'(first|refine Ctl ?_|((with_reducible refine j_ hK ?_);clear hK hE K E)|((with_reducible refine aj (fun h=>?_) (fun h=>?_))<;>(try(exfalso;assumption)))|((first|(with_reducible refine ae fun K E hK hE=>?_)|((with_reducible refine ao (fun b hb=>?_));(repeat(obtain⟨_,hb⟩:=hb)))|((with_reducible refine cB (fun o2 ho=>?_));(try simp(disch:=assumption) only[aJ,aM,aU,bP,a_,List.length_cons,List.length_nil,Nat.zero_add,hl1,hsz,hLl]at ho);(repeat(obtain⟨_,ho⟩:=ho))))<;>(try simp(disch:=first|assumption|omega) only[go_sem,seval,hl1,hsz,hLl, *]))))
   exact⟨_,v_ _ (by rw[aR];exact⟨by assumption,hb⟩),m - 1,by omega,j+1,o2,by omega,by omega,ho,rfl,ab,ab,ab,ab,ab,ab,by rw[HS.out];((try simp(disch:=assumption) only[go_sem,seval, *])<;>rfl),ab,ab,ab⟩
 ·obtain rfl:j=ts.length:=by omega
  rw[f_]at e8
  refine nT 8 (y:=.lst (ay (aS vars row ts)) .no) e8 (Wk.lst _ _) ?_
  refine eR (Fg.own hoo) ?_
  clear hoo hf hl1 hrl2 wi
  generalize hhh:aS vars row ts=hh at *
  have k1:¬ D.mf=y.m:=HA.out.ne
  have k2:¬ y.m=D.mf:=fun e=>k1 e.symm
  by_cases hm1:hh∈y.l
  ·have HG:Hid (GE=(al,decide (y.l.length+al.length<=16384))):=u_ (by rw[<- HGE.out];unfold gvF;rw[hhh,if_pos (.inl hm1)])
   rw[if_pos hm1]at hk1
   clear hm1 hp2 hk2
   (repeat'(first|refine Ctl ?_|(with_reducible first|(refine j_ hK ?_;clear hK hE K E)|(refine j_ hKh ?_;clear hKh Kh)|refine au 14 [] [0,1,2,3,4,5,6,7,8,9] hQe fun K E hK hE=>?_)|((with_reducible refine aj (fun h=>?_) (fun h=>?_))<;>(try(exfalso;assumption)))|(((with_reducible first|refine ae fun K E hK hE=>?_|refine ak kr (wt _) ?_|refine aC fun Kh hKh=>?_))<;>(try simp(disch:=omega) only[go_sem,seval,hk1,Option.getD_some,dE, *]))))
   all_goals(refine ap rB hQ ?_)
   all_goals rw[HG.out]
   all_goals exact⟨_,_,Wk.refl _,Fg.refl _,_,congrArg (fun b=>SEnd.ret (.bool b)) (decide_eq_decide.2 (by omega)),rfl,g,HA.out,Keep.refl _ _,fun z h=>.inl h⟩
  ·rw[if_neg hm1]at hk1
   by_cases hm2:hh∈al
   ·have HG:Hid (GE=(al,decide (y.l.length+al.length<=16384))):=u_ (by rw[<- HGE.out];unfold gvF;rw[hhh,if_pos (.inr hm2)])
    rw[if_pos hm2]at hk2
    clear hm1 hm2 hp2
    (repeat'(first|refine Ctl ?_|(with_reducible first|(refine j_ hK ?_;clear hK hE K E)|(refine j_ hKh ?_;clear hKh Kh)|refine au 14 [] [0,1,2,3,4,5,6,7,8,9] hQe fun K E hK hE=>?_)|((with_reducible refine aj (fun h=>?_) (fun h=>?_))<;>(try(exfalso;assumption)))|(((with_reducible first|refine ae fun K E hK hE=>?_|refine ak kr (wt _) ?_|refine aC fun Kh hKh=>?_))<;>(try simp(disch:=omega) only[go_sem,seval,hk1,hk2,Option.getD_some,Option.getD_none,dE, *]))))
    all_goals(refine ap rB hQ ?_)
    all_goals rw[HG.out]
    all_goals exact⟨_,_,Wk.refl _,Fg.refl _,_,congrArg (fun b=>SEnd.ret (.bool b)) (decide_eq_decide.2 (by omega)),rfl,g,HA.out,Keep.refl _ _,fun z h=>.inl h⟩
   ·have HG:Hid (GE=(al++[hh],decide (y.l.length+(al.length+1)<=16384))):=u_ (by rw[<- HGE.out];unfold gvF;rw[hhh,if_neg (by simp[hm1,hm2])])
    rw[if_neg hm2]at hk2
    replace hp2:=hp2 hm2
    clear hm1 hm2
    have HHL:=u_ (show gI (al++[hh])=gI (al++[hh]) from rfl)
    generalize hL2:gI (al++[hh])=L2 at *
    generalize hLA:gI al=LA at *
    have kma:=show ¬ D.mf=D.a from fun e=>by rw[e,q7]at q8;cases q8
    have kam:=show ¬ D.a=D.mf from fun e=>kma e.symm
    have p1:¬ D.t=D.a:=bT q3 q7 (by decide)
    have p2:¬ D.t=D.mf:=cZ q3 q8
    have p3:¬ y.b=D.a:=bT q5 q7 (by decide)
    have p4:¬ y.b=D.mf:=cZ q5 q8
    cases al with
    |nil=>
     simp only[d9]at q7
     (repeat'(first|refine Ctl ?_|(with_reducible first|(refine j_ hK ?_;clear hK hE K E)|(refine j_ hKh ?_;clear hKh Kh)|refine au 14 [] [0,1,2,3,4,5,6,7,8,9] hQe fun K E hK hE=>?_)|((with_reducible refine aj (fun h=>?_) (fun h=>?_))<;>(try(exfalso;assumption)))|((first|(with_reducible first|refine ae fun K E hK hE=>?_|refine ak kr (wt _) ?_|refine aC fun Kh hKh=>?_)|((with_reducible refine nN (fun bM hM=>?_));(try(obtain⟨_,_⟩:=kM hM l7;obtain⟨_,_⟩:=kM hM l3;obtain⟨_,_⟩:=kM hM l5))))<;>(try simp(disch:=omega) only[go_sem,seval,hk1,hk2,hp2,Option.getD_none,dE, *]))))
     have hU:∀z,u z≠.free->¬ z=D.a->¬ z=D.mf->(((u.set D.mf (.map (mpV cO L2))).set bM (.row 48 1 [[VV.lst (ay hh) .no]].flatten)).set D.a (.obj 44 [.mrw bM 1])) z=u z:=fun z hz h1 h2=>by
      rw[k_ _ _ h1,k_ _ _ (kM hM hz).1,k_ _ _ h2]
     have hUa:(((u.set D.mf (.map (mpV cO L2))).set bM (.row 48 1 [[VV.lst (ay hh) .no]].flatten)).set D.a (.obj 44 [.mrw bM 1])) D.a=.obj 44 [.mrw bM 1]:=q_ _ _ _
     have hUm:(((u.set D.mf (.map (mpV cO L2))).set bM (.row 48 1 [[VV.lst (ay hh) .no]].flatten)).set D.a (.obj 44 [.mrw bM 1])) D.mf=.map (mpV cO L2):=by
      rw[k_ _ _ kma,k_ _ _ (kM hM l8).1,q_]
     have hUg:(((u.set D.mf (.map (mpV cO L2))).set bM (.row 48 1 [[VV.lst (ay hh) .no]].flatten)).set D.a (.obj 44 [.mrw bM 1])) bM=.row 48 1 ([[VV.lst (ay hh) .no]].flatten):=by
      rw[k_ _ _ (by assumption),q_]
     have hbf:u bM=.free:=by
      by_cases e2:bM=D.mf
      ·rw[e2,q_]at hM;cases hM
      ·rw[k_ _ _ e2]at hM;exact hM
     generalize (((u.set D.mf (.map (mpV cO L2))).set bM (.row 48 1 [[VV.lst (ay hh) .no]].flatten)).set D.a (.obj 44 [.mrw bM 1]))=U at *
     all_goals(refine ap rB hQ ?_)
     rw[HG.out]
     refine⟨_,_,Wk.refl _,Fg.refl _,_,congrArg (fun b=>SEnd.ret (.bool b)) (decide_eq_decide.2 (by simp only[List.length_nil]at *;omega)),rfl,bM,⟨?_,?_,?_,?_,?_,?_,?_,?_,?_,k1⟩,fun z hz hn=>?_,fun z hz=>?_⟩
     ·exact(hU _ l1 (bT q1 q7 (by decide)) (cZ q1 q8)).trans q1
     ·exact(hU _ l2 (bT q2 q7 (by decide)) (cZ q2 q8)).trans q2
     ·exact(hU _ l3 (bT q3 q7 (by decide)) (cZ q3 q8)).trans q3
     ·exact(hU _ l4 (bT q4 q7 (by decide)) (cZ q4 q8)).trans q4
     ·exact(hU _ l5 (bT q5 q7 (by decide)) (cZ q5 q8)).trans q5
     ·exact(hU _ l6 (fun e=>by rw[e,q7]at q6;cases q6) k2).trans q6
     ·rw[hUa];rfl
     ·rw[hUm,hL2]
     ·intro _
      rw[hUg]
      rfl
     ·exact hU z hz (fun e=>hn (.inl e)) (fun e=>hn (.inr (.inl e)))
     ·rcases hz with h|h|⟨_,h⟩
      ·exact .inl (.inl h)
      ·exact .inl (.inr (.inl h))
      ·subst h
       exact .inr hbf
    |cons a al=>
     simp only[d9]at q7
     replace q9:=q9 (by simp)
     have HLN:=u_ (show ((a::al).map bV).length=(a::al).length by simp)
     have hlm:((a::al).map bV).length=(a::al).length:=by simp
     generalize hMM:(a::al).map bV=M at *
     generalize hn:(a::al).length=n at *
     have n7:=fe q9 q7 (by intros;simp)
     have n3:=fe q9 q3 (by intros;simp)
     have n5:=fe q9 q5 (by intros;simp)
     have n8:=fe q9 q8 (by intros;simp)
     have n8':¬ g=D.mf:=fun e=>n8 e.symm
     have n7':¬ g=D.a:=fun e=>n7 e.symm
     (repeat'(first|refine Ctl ?_|(with_reducible first|(refine j_ hK ?_;clear hK hE K E)|(refine j_ hKh ?_;clear hKh Kh)|refine au 14 [] [0,1,2,3,4,5,6,7,8,9] hQe fun K E hK hE=>?_)|((with_reducible refine aj (fun h=>?_) (fun h=>?_))<;>(try(exfalso;assumption)))|((first|(with_reducible first|refine ae fun K E hK hE=>?_|refine ak kr (wt _) ?_|refine aC fun Kh hKh=>?_)|((with_reducible refine uH (fun bM hM=>?_));(try(obtain⟨_,_⟩:=uL hM l7 n7;obtain⟨_,_⟩:=uL hM l3 n3;obtain⟨_,_⟩:=uL hM l5 n5))))<;>(try simp(disch:=omega) only[go_sem,seval,hk1,hk2,hp2,hlm,Option.getD_none,dE, *]))))
     have hU:∀z,u z≠.free->¬ z=D.a->¬ z=D.mf->¬ z=g->((((u.set D.mf (.map (mpV cO L2))).set g .free).set bM (.row 48 1 (M++[[VV.lst (ay hh) .no]].flatten))).set D.a (.obj 44 [.mrw bM (n+1)])) z=u z:=fun z hz h1 h2 h3=>by
      rw[k_ _ _ h1,k_ _ _ (uL hM hz h3).1,k_ _ _ h3,k_ _ _ h2]
     have hUa:((((u.set D.mf (.map (mpV cO L2))).set g .free).set bM (.row 48 1 (M++[[VV.lst (ay hh) .no]].flatten))).set D.a (.obj 44 [.mrw bM (n+1)])) D.a=.obj 44 [.mrw bM (n+1)]:=q_ _ _ _
     have hUm:((((u.set D.mf (.map (mpV cO L2))).set g .free).set bM (.row 48 1 (M++[[VV.lst (ay hh) .no]].flatten))).set D.a (.obj 44 [.mrw bM (n+1)])) D.mf=.map (mpV cO L2):=by
      rw[k_ _ _ kma,k_ _ _ (uL hM l8 n8).1,k_ _ _ n8,q_]
     have hUg:((((u.set D.mf (.map (mpV cO L2))).set g .free).set bM (.row 48 1 (M++[[VV.lst (ay hh) .no]].flatten))).set D.a (.obj 44 [.mrw bM (n+1)])) bM=.row 48 1 (M++[[VV.lst (ay hh) .no]].flatten):=by
      rw[k_ _ _ (by assumption),q_]
     have hbf:bM=g\/u bM=.free:=by
      by_cases e:bM=g
      ·exact .inl e
      ·rw[k_ _ _ e]at hM
       by_cases e2:bM=D.mf
       ·rw[e2,q_]at hM;cases hM
       ·rw[k_ _ _ e2]at hM;exact .inr hM
     generalize ((((u.set D.mf (.map (mpV cO L2))).set g .free).set bM (.row 48 1 (M++[[VV.lst (ay hh) .no]].flatten))).set D.a (.obj 44 [.mrw bM (n+1)]))=U at *
     all_goals(refine ap rB hQ ?_)
     rw[HG.out]
     refine⟨_,_,Wk.refl _,Fg.refl _,_,congrArg (fun b=>SEnd.ret (.bool b)) (decide_eq_decide.2 (by simp only[List.length_nil]at *;omega)),rfl,bM,⟨?_,?_,?_,?_,?_,?_,?_,?_,?_,k1⟩,fun z hz hn2=>?_,fun z hz=>?_⟩
     ·exact(hU _ l1 (bT q1 q7 (by decide)) (cZ q1 q8) (fe q9 q1 (by intros;simp))).trans q1
     ·exact(hU _ l2 (bT q2 q7 (by decide)) (cZ q2 q8) (fe q9 q2 (by intros;simp))).trans q2
     ·exact(hU _ l3 (bT q3 q7 (by decide)) (cZ q3 q8) (fe q9 q3 (by intros;simp))).trans q3
     ·exact(hU _ l4 (bT q4 q7 (by decide)) (cZ q4 q8) (fe q9 q4 (by intros;simp))).trans q4
     ·exact(hU _ l5 (bT q5 q7 (by decide)) (cZ q5 q8) (fe q9 q5 (by intros;simp))).trans q5
     ·exact(hU _ l6 (fun e=>by rw[e,q7]at q6;cases q6) k2 (fe q9 q6 (by intros;simp))).trans q6
     ·rw[hUa];simp only[List.cons_append,d9];simp only[List.length_cons,d_,List.length_nil]at hn ⊢;rw[<- hn]
     ·rw[hUm,hL2]
     ·intro _
      rw[hUg]
      rw[<- hMM];simp[bV]
     ·exact hU z hz (fun e=>hn2 (.inl e)) (fun e=>hn2 (.inr (.inl e))) (fun e=>hn2 (.inr (.inr ⟨by simp,e⟩)))
     ·rcases hz with h|h|⟨_,h⟩
      ·exact .inl (.inl h)
      ·exact .inl (.inr (.inl h))
      ·subst h
       exact hbf.elim (fun e=>.inl (.inr (.inr ⟨by simp,e⟩))) .inr
end Go.Proofs.YteldpmgepfaiiaaGreatDoor
namespace Go.Proofs.YteldpmgepfaiiaaGreatDoor
open Go.RowKit
attribute [local go_sem] aN aX cG
structure GvRun (vars:List (List UInt8)) (ts:List Trm) (l:List (List Int)) (al0:List (List Int)) (rows:List (List Int)) (R:List (List Int)×Bool):Prop where
 nd:R.1.Nodup
 dj:∀h,h∈R.1->h∉l
 src:∀h,h∈R.1->h∈al0\/∃row,row∈rows/\aS vars row ts=h
 mono:∀h,h∈al0->h∈R.1
 full:R.2=true->∀row,row∈rows->aS vars row ts∈l\/aS vars row ts∈R.1
 stop:R.2=false->16384<l.length+R.1.length
 le:l.length+al0.length<=16384->l.length+R.1.length<=16385
 ok:l.length+al0.length<=16384->R.2=true->l.length+R.1.length<=16384
theorem uk {vars:List (List UInt8)}{ts:List Trm}{l:List (List Int)}:∀{rows:List (List Int)} {al0:List (List Int)},al0.Nodup->(∀h,h∈al0->h∉l)->GvRun vars ts l al0 rows (cS (gvF vars ts l) al0 rows)
 |[],al0,h1,h2=>⟨h1,h2,fun h hh=>.inl hh,fun h hh=>hh,fun _ row hr=>(by cases hr),fun h=>by simp[cS]at h,fun h=>by simp only[cS];omega,fun h _=>h⟩
 |r::rows,al0,h1,h2=>by
  simp only[cS]
  by_cases hm:aS vars r ts∈l\/aS vars r ts∈al0
  ·have hG:gvF vars ts l al0 r=(al0,decide (l.length+al0.length<=16384)):=by unfold gvF;rw[if_pos hm]
   rw[hG]
   simp only[decide_eq_true_eq]
   by_cases hle:l.length+al0.length<=16384
   ·rw[if_pos hle]
    have ih:=uk (vars:=vars) (ts:=ts) (l:=l) (rows:=rows) h1 h2
    refine⟨ih.nd,ih.dj,fun h hh=>?_,ih.mono,fun hf row hr=>?_,ih.stop,ih.le,ih.ok⟩
    ·rcases ih.src h hh with e|⟨row,hr,e⟩
     ·exact .inl e
     ·exact .inr ⟨row,by simp[hr],e⟩
    ·rcases F_.1 hr with rfl|hr
     ·exact hm.imp id (ih.mono _)
     ·exact ih.full hf row hr
   ·rw[if_neg hle]
    exact⟨h1,h2,fun h hh=>.inl hh,fun h hh=>hh,fun h=>(by cases h),fun _=>by simp only;omega,fun h=>absurd h hle,fun h=>absurd h hle⟩
  ·have hG:gvF vars ts l al0 r=(al0++[aS vars r ts],decide (l.length+(al0.length+1)<=16384)):=by unfold gvF;rw[if_neg hm]
   rw[hG]
   simp only[decide_eq_true_eq]
   have g1:(al0++[aS vars r ts]).Nodup:=by
    rw[List.nodup_append]
    refine⟨h1,by simp,fun a ha b hb=>?_⟩
    rw[e_]at hb
    subst hb
    rintro rfl
    exact hm (.inr ha)
   have g2:∀h,h∈al0++[aS vars r ts]->h∉l:=fun h hh=>by
    rcases l_.1 hh with hh|hh
    ·exact h2 h hh
    ·rw[e_]at hh;subst hh;exact fun e=>hm (.inl e)
   by_cases hle:l.length+(al0.length+1)<=16384
   ·rw[if_pos hle]
    have ih:=uk (vars:=vars) (ts:=ts) (l:=l) (rows:=rows) g1 g2
    refine⟨ih.nd,ih.dj,fun h hh=>?_,fun h hh=>ih.mono h (by simp[hh]),fun hf row hr=>?_,ih.stop,fun _=>ih.le (by simp;omega),fun _=>ih.ok (by simp;omega)⟩
    ·rcases ih.src h hh with e|⟨row,hr,e⟩
     ·rcases l_.1 e with e|e
      ·exact .inl e
      ·rw[e_]at e;subst e;exact .inr ⟨r,by simp,rfl⟩
     ·exact .inr ⟨row,by simp[hr],e⟩
    ·rcases F_.1 hr with rfl|hr
     ·exact .inr (ih.mono _ (by simp))
     ·exact ih.full hf row hr
   ·rw[if_neg hle]
    refine⟨g1,g2,fun h hh=>?_,fun h hh=>by simp[hh],fun h=>(by cases h),fun _=>by simp only[d_,List.length_singleton];omega,fun h=>by simp only[d_,List.length_singleton];omega,fun _ h=>by cases h⟩
    rcases l_.1 hh with e|e
    ·exact .inl e
    ·rw[e_]at e;subst e;exact .inr ⟨r,by simp,rfl⟩
def GvR (D:GB)(y:Tab)(z:Nat):Prop:=z=D.r\/z=D.v\/z=D.t\/z=D.f\/z=y.b\/z=y.m
def GvP (D:GB)(rl:Rul)(vars:List (List UInt8))(y:Tab)(al:List (List Int))(u:St)(F:Nat->Prop):Prop:=∃g,GvAt u D g rl vars y al/\F=GvF D g al
def GvOk (al:List (List Int)):Prop:=(∀x,x∈al->Sml x)/\al.length<=20000
def jR (vars:List (List UInt8))(row:List Int):Prop:=Sml row/\row.length=vars.length
theorem CD (D:GB)(hd:Atm)(body:List Atm)(vars:List (List UInt8))(y:Tab)(hyl:∀x,x∈y.l->Sml x)(hvl:vars.length<=100000)(hf:ij vars vars.length hd.ts)(htl:hd.ts.length<=100000)(hnum:∀m,m∈hd.ts->m.var=false->0<=m.n/\m.n<256)(h1:y.l.length<=16384) :
  TellOk 59 [.ptr D.r 0,.ptr D.v 0,.ptr D.t 0,.ptr D.f 0,.ptr D.a 0] (GvR D y) (GvP D ⟨hd,body⟩ vars y) (gvF vars hd.ts y.l) GvOk (jR vars):=by
 refine⟨KV,?_,?_,?_,?_,?_⟩
 ·rintro a t F z ⟨g,h,rfl⟩ (rfl|rfl|⟨hn,rfl⟩)
  ·rw[h.a];simp
  ·rw[h.mf];simp
  ·rw[h.g hn];simp
 ·rintro a t F z ⟨g,h,rfl⟩ (rfl|rfl|rfl|rfl|rfl|rfl)
  ·rw[h.r];simp
  ·rw[h.v];simp
  ·rw[h.t];simp
  ·rw[h.f];simp
  ·rw[h.yo];simp
  ·rw[h.yh];simp
 ·rintro a t u F ⟨g,h,rfl⟩ hk
  refine⟨g,⟨?_,?_,?_,?_,?_,?_,?_,?_,fun hn=>?_,h.ne⟩,rfl⟩
  ·rw[hk _ (.inr (.inl rfl))];exact h.r
  ·rw[hk _ (.inr (.inr (.inl rfl)))];exact h.v
  ·rw[hk _ (.inr (.inr (.inr (.inl rfl))))];exact h.t
  ·rw[hk _ (.inr (.inr (.inr (.inr (.inl rfl)))))];exact h.f
  ·rw[hk _ (.inr (.inr (.inr (.inr (.inr (.inl rfl))))))];exact h.yo
  ·rw[hk _ (.inr (.inr (.inr (.inr (.inr (.inr rfl))))))];exact h.yh
  ·rw[hk _ (.inl (.inl rfl))];exact h.a
  ·rw[hk _ (.inl (.inr (.inl rfl)))];exact h.mf
  ·rw[hk _ (.inl (.inr (.inr ⟨hn,rfl⟩)))];exact h.g hn
 ·rintro a r ⟨ho1,ho2⟩ ⟨hg1,hg2⟩ h2
  unfold gvF at h2 ⊢
  split
  ·exact⟨ho1,ho2⟩
  ·rename_i hm
   rw[if_neg hm]at h2
   simp only[decide_eq_true_eq]at h2
   refine⟨fun x hx=>?_,by simp only[d_,List.length_singleton];omega⟩
   rcases l_.1 hx with hx|hx
   ·exact ho1 x hx
   ·rw[e_]at hx
    subst hx
    exact fw hg1 (by rw[hg2];exact hf) htl hnum
 ·rintro a t F r ⟨g,h,rfl⟩ ⟨ho1,ho2⟩ ⟨hg1,hg2⟩
  refine SCalls.mono (Lc t D g hd body vars y a r h ho1 hyl hg1 hg2 hvl hf htl hnum (by omega) (by omega)) ?_
  rintro w s ⟨u',rfl,rfl,g',q1,q2,q3⟩
  exact⟨_,rfl,rfl,GvF D g' _,⟨g',q1,rfl⟩,q3,q2⟩
end Go.Proofs.YteldpmgepfaiiaaGreatDoor
