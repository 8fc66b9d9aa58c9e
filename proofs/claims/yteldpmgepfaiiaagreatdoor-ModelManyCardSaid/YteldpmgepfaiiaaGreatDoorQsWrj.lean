/- Walks of functions, and plain facts. Conditions: those in the statements. -/
import Derived.Test.YteldpmgepfaiiaaGreatDoorQsWq
set_option linter.unusedSimpArgs false
set_option linter.unusedVariables false
set_option maxRecDepth 100000
namespace Go.Proofs.YteldpmgepfaiiaaGreatDoor
open Go.RowKit
attribute [local go_sem] dA bD aH aV cH
theorem yW {l:List Atm}{i:Nat}{a:Atm}(h:l[i]?=some a):cE (l.take (i+1))=if a.not=true then cE (l.take i)else cE (l.take i)++[a]:=by
 unfold cE
 rw[bY h,List.filter_append]
 cases hn:a.not<;>simp[hn]
theorem p6 {l:List Atm}{i:Nat}{a:Atm}(h:l[i]?=some a):cK (l.take (i+1))=if a.not=true then cK (l.take i)++[a] else cK (l.take i):=by
 unfold cK
 rw[bY h,List.filter_append]
 cases hn:a.not<;>simp[hn]
theorem w9 {s:St}{o o2:Own}{T sz n m:Nat}(h:OwnOk (s.own o2 T sz n) o m):OwnOk s o m:=by
 cases o with
 |at_ x=>simp only[OwnOk,aR]at h;exact h.2
 |_=>exact h
theorem vo {s:St}{o1 o2:Own}{T2 z2 T1 z1 n1 n2:Nat}(h2:OwnOk s o2 n2)(h:OwnOk (s.own o2 T2 z2 n2) o1 n1):OwnOk (s.own o1 T1 z1 n1) o2 n2:=by
 cases o2 with
 |at_ y=>
  cases o1 with
  |at_ x=>
   simp only[OwnOk,aR,ay]at h h2 ⊢
   exact⟨fun e=>h.1 e.symm,h2⟩
  |_=>exact h2
 |_=>exact h2
theorem Bh {s:St}{o1 o2:Own}{T2 z2 T1 z1 n1 n2:Nat}(h:OwnOk (s.own o2 T2 z2 n2) o1 n1):(s.own o2 T2 z2 n2).own o1 T1 z1 n1=(s.own o1 T1 z1 n1).own o2 T2 z2 n2:=by
 cases o2 with
 |at_ y=>
  cases o1 with
  |at_ x=>
   simp only[OwnOk,aR,ay]at h
   exact cJ (fun e=>h.1 e.symm)
  |_=>rfl
 |_=>cases o1<;>rfl
theorem GS.wk1 {s:St}{b:Nat}{T:TypeId}{xs:List (List VV)}{o:Own}(hb:s b=.obj T [.lst xs o]):GS s (s.set b (.obj T [.lst xs .no])):=
 GS.wkobj hb rfl fun j y hy=>by
  match j with
  |0=>simp at hy;subst hy;exact⟨_,rfl,Wk.lst _ _,id⟩
  |j+1=>simp at hy
theorem aT {t:St}{z b:Nat}(hz:t z≠.free)(hb:t b=.free):z≠b:=fun e=>hz (e ▸ hb)
section
variable {A : Type} {x : Pgm} {V : List (List (List UInt8))} {X : List Tab} {vars : List (List UInt8)} {tf : FuncId} {tc : List VV} {Rz : Nat -> Prop} {P : A -> St -> (Nat -> Prop) -> Prop}
 {f:A->List Int->A×Bool} {ok:A->Prop} {good:List Int->Prop}
set_option maxHeartbeats 16000000 in
theorem EK (hT:TellOk tf tc Rz P f ok good)(hsm:∀r,good r->Sml r)(r:Rul)(hbd:∀m,m∈r.body->MAtm x X vars m)(hbl:r.body.length<=100000)(hvl:vars.length<=100000)(hvn:vars.Nodup)(hXl:∀y,y∈X->y.l.length<=1000000000)
  (p bm bz:Nat) (ov:Own) (t:St) (a:A) (F:Nat->Prop) (hM:MdAt t p bm bz x V X) (hP:P a t F) (hsep:∀z,F z->¬ MdF p bm bz X z) (ho:ok a) (hg:RGood (bV x X) vars good (cE r.body) (cU vars)) :
  SCalls Tryz.prog 49 [.ptr p 0,.agg (ax r),.lst (aA vars) ov,.fn tf tc] t fun w u=>
   ∃u':St,w=.ret (.tup [])/\u=u'/\∃F',P (c6 f a (eT (bV x X) vars r.body)).1 u' F'/\(∀z,F' z->F z\/t z=.free)/\MdAt u' p bm bz x V X/\Keep t u' F:=by
 obtain⟨hd,body⟩:=r
 simp only at hbd hbl hg ⊢
 have hvl1:(aA vars).length=vars.length:=by simp[aA]
 have hbl1:(body.map aG).length=body.length:=by simp
 have HBD:=u_ hbd
 have HT:=u_ hT
 have HG:=u_ hg
 have HM:=u_ hM
 have HPP:=u_ hP
 have HSEP:=u_ hsep
 have HO:=u_ ho
 clear hbd hT hg hM hP hsep ho
 simp only[ax]
 refine aw Tryz.func49 rfl Tryz.ntmps49 rfl fun Q hQ hQe=>?_
 (repeat'(first|refine Ctl ?_|((with_reducible refine j_ hK ?_);clear hK hE K E)|((first|(with_reducible refine ae fun K E hK hE=>?_)|((with_reducible refine ao (fun b hb=>?_));(repeat(obtain⟨_,hb⟩:=hb))))<;>(try simp(disch:=omega) only[go_sem,seval,hvl1, *]))))
 rename_i b4 hb4 b5 _ _ hb5 b7 _ _ _ _ hb7 mS _ _ _ _ _ _ hbS _ _ _ _ _ _ _ _
 obtain⟨b8,hb8⟩:∃z,z=b:=⟨_,rfl⟩
 subst hb8
 generalize hS1:((((t.set b4 (.obj 71 [.ptr p 0])).set b5 (.obj 43 [.bool hd.not,.str hd.rel,.lst (hd.ts.map aC) .no,.lst (body.map aG) .no])).set b7 (.obj 111 [.fn tf tc])).set mS (.map [])).set b8 (.obj 73 [.mp mS])=S1
 have hk1:∀z,t z≠.free->S1 z=t z:=fun z hz=>by
  rw[<- hS1,k_ _ _ (aT hz hb),k_ _ _ (aT hz hbS),k_ _ _ (aT hz hb7),k_ _ _ (aT hz hb5),k_ _ _ (aT hz hb4)]
 have q4:S1 b4=.obj 71 [.ptr p 0]:=by
  rw[<- hS1];simp only[St.set,if_true,if_false, *]
 have q5:S1 b5=.obj 43 [.bool hd.not,.str hd.rel,.lst (hd.ts.map aC) .no,.lst (body.map aG) .no]:=by
  rw[<- hS1];simp only[St.set,if_true,if_false, *]
 have q7:S1 b7=.obj 111 [.fn tf tc]:=by
  rw[<- hS1];simp only[St.set,if_true,if_false, *]
 have qS:S1 mS=.map []:=by
  rw[<- hS1];simp only[St.set,if_true,if_false, *]
 have q8:S1 b8=.obj 73 [.mp mS]:=by
  rw[<- hS1];simp only[St.set,if_true,if_false, *]
 clear hS1
 have HFR:Hid (t b4=.free/\t b5=.free/\t b7=.free/\t mS=.free/\t b8=.free):=u_ ⟨hb4,hb5,hb7,hbS,hb⟩
 have HK1:=u_ hk1
 have k8S:¬ b8=mS:=by assumption
 clear hb4 hb5 hb7 hbS hb hk1
 refine bB (fun m env s'=>∃i:Nat,i<=vars.length/\m+i=vars.length/\s'=S1.set mS (.map (mpV bL (pD (vars.take i))))/\env 2=.lst (aA vars) ov/\env 4=.ptr b4 0/\env 5=.ptr b5 0/\env 7=.ptr b7 0/\env 8=.ptr b8 0 /\
  env 20=.lst (aA vars) ov/\env 21=.int .i64 vars.length/\env 22=.int .i64 i) vars.length ?_ ?_
 ·exact⟨0,by omega,by omega,(x_ _ _ _ qS).symm,ab,ab,ab,ab,ab,ab,ab,ab⟩
 rintro m env s' ⟨i,hi,hm,rfl,e2,e4,e5,e7,e8,e20,e21,e22⟩
 by_cases hlt:i<vars.length
 ·obtain⟨v,hv⟩:=aN hlt
  have hsv:=dm hv
  have HSP:=u_ (Ai hv)
  clear hv
  (repeat'(first|refine Ctl ?_|((with_reducible refine j_ hK ?_);clear hK hE K E)|((with_reducible refine aj (fun h=>?_) (fun h=>?_))<;>(try(exfalso;assumption)))|(((with_reducible refine ae fun K E hK hE=>?_))<;>(try simp(disch:=omega) only[go_sem,seval,hvl1,hsv, *]))))
  exact⟨m - 1,by omega,i+1,by omega,by omega,by rw[HSP.out],ab,ab,ab,ab,ab,ab,ab,ab⟩
 ·obtain rfl:i=vars.length:=by omega
  rw[f_,Ah hvn]
  have q4':(S1.set mS (.map (mpV bL (eL vars)))) b4=.obj 71 [.ptr p 0]:=by rw[k_ _ _ (‹_›)];exact q4
  have q5':(S1.set mS (.map (mpV bL (eL vars)))) b5=.obj 43 [.bool hd.not,.str hd.rel,.lst (hd.ts.map aC) .no,.lst (body.map aG) .no]:=by rw[k_ _ _ (‹_›)];exact q5
  have q7':(S1.set mS (.map (mpV bL (eL vars)))) b7=.obj 111 [.fn tf tc]:=by rw[k_ _ _ (‹_›)];exact q7
  have q8':(S1.set mS (.map (mpV bL (eL vars)))) b8=.obj 73 [.mp mS]:=by rw[k_ _ _ (‹_›)];exact q8
  have qS':(S1.set mS (.map (mpV bL (eL vars)))) mS=.map (mpV bL (eL vars)):=q_ _ _ _
  have HK2:Hid (∀z,t z≠.free->(S1.set mS (.map (mpV bL (eL vars)))) z=t z):=u_ fun z hz=>by rw[k_ _ _ (aT hz HFR.out.2.2.2.1)];exact HK1.out z hz
  clear q4 q5 q7 q8 qS HK1
  generalize S1.set mS (.map (mpV bL (eL vars)))=S2 at *
  have l4:S2 b4≠.free:=by rw[q4'];simp
  have l5:S2 b5≠.free:=by rw[q5'];simp
  have l7:S2 b7≠.free:=by rw[q7'];simp
  have l8:S2 b8≠.free:=by rw[q8'];simp
  have lS:S2 mS≠.free:=by rw[qS'];simp
  (repeat'(first|refine Ctl ?_|((with_reducible refine j_ hK ?_);clear hK hE K E)|((with_reducible refine aj (fun h=>?_) (fun h=>?_))<;>(try(exfalso;assumption)))|((first|(with_reducible refine ae fun K E hK hE=>?_)|((with_reducible refine ao (fun b hb=>?_));(repeat(obtain⟨_,hb⟩:=hb));(try(obtain⟨_,_⟩:=nef hb l4;obtain⟨_,_⟩:=nef hb l5;obtain⟨_,_⟩:=nef hb l7;obtain⟨_,_⟩:=nef hb l8;obtain⟨_,_⟩:=nef hb lS))))<;>(try simp(disch:=omega) only[go_sem,seval,hbl1, *]))))
  rename_i b11 h11 _ _ _ _ _ _ _ _ _ _ _ _ _ _ _ _ _ _ _ _ _ _
  obtain⟨b12,hb12⟩:∃z,z=b:=⟨_,rfl⟩
  subst hb12
  have h12:=hb
  have k12:¬ b12=b11:=by assumption
  have k21:¬ b11=b12:=by assumption
  clear e20 e21 e22
  refine aI (fun m env s'=>∃(i:Nat) (oP oN:Own),i<=body.length/\m+i=body.length/\OwnOk S2 oP (cE (body.take i)).length/\OwnOk (S2.own oP 40 3 (cE (body.take i)).length) oN (cK (body.take i)).length/\ay oP b11/\ay oP b12/\ay oN b11/\ay oN b12 /\
   s'=(((S2.own oP 40 3 (cE (body.take i)).length).own oN 40 3 (cK (body.take i)).length).set b11 (.obj 41 [.lst ((cE (body.take i)).map fun a=>aG a) oP])).set b12 (.obj 41 [.lst ((cK (body.take i)).map fun a=>aG a) oN]) /\
   env 2=.lst (aA vars) ov/\env 4=.ptr b4 0/\env 5=.ptr b5 0/\env 7=.ptr b7 0/\env 8=.ptr b8 0/\env 11=.ptr b11 0/\env 12=.ptr b12 0/\env 32=.lst (body.map aG) .no/\env 33=.int .i64 body.length/\env 34=.int .i64 i) body.length ?_ ?_
  ·exact⟨_,Fg.refl _,0,.full,.full,by omega,by omega,b9,b9,trivial,trivial,trivial,trivial,rfl,ab,ab,ab,ab,ab,ab,ab,ab,ab,ab⟩
  clear e2 e4 e5 e7 e8 hi hm hlt env m
  rintro m env s' ⟨i,oP,oN,hi,hm,hoP,hoN,n11,n12,n21,n22,rfl,e2,e4,e5,e7,e8,e11,e12,e32,e33,e34⟩
  by_cases hlt:i<body.length
  ·obtain⟨ai,hai⟩:=aN hlt
   have hsa:=cX hai
   have hp:=yW hai
   have hn:=p6 hai
   have hpl:(cE (body.take i)).length<=i:=Nat.le_trans (List.length_filter_le _ _) (by rw[A_];omega)
   have hnl:(cK (body.take i)).length<=i:=Nat.le_trans (List.length_filter_le _ _) (by rw[A_];omega)
   have HPN:=u_ (And.intro hp hn)
   have h3p:∀y,y∈(cE (body.take i)).map (fun a=>aG a)->y.length=3:=fun y hy=>by
    obtain⟨q,_,rfl⟩:=E_.1 hy
    rfl
   have h3n:∀y,y∈(cK (body.take i)).map (fun a=>aG a)->y.length=3:=fun y hy=>by
    obtain⟨q,_,rfl⟩:=E_.1 hy
    rfl
   have hlp:((cE (body.take i)).map (fun a=>aG a)).length=(cE (body.take i)).length:=by simp
   have hln:((cK (body.take i)).map (fun a=>aG a)).length=(cK (body.take i)).length:=by simp
   clear hai hp hn
   generalize hLP:(cE (body.take i)).map (fun a=>aG a)=LP at *
   generalize hLN:(cK (body.take i)).map (fun a=>aG a)=LN at *
   generalize hNP:(cE (body.take i)).length=NP at *
   generalize hNN:(cK (body.take i)).length=NN at *
   obtain⟨an,ar,ats⟩:=ai
   simp only[aG]at hsa
   cases an with
   |true=>
    (repeat'(first|refine Ctl ?_|((with_reducible refine j_ hK ?_);clear hK hE K E)|((with_reducible refine aj (fun h=>?_) (fun h=>?_))<;>(try(exfalso;assumption)))|((first|(with_reducible refine ae fun K E hK hE=>?_)|((with_reducible refine ao (fun b hb=>?_));(repeat(obtain⟨_,hb⟩:=hb));(try(rw[aR,aR]at hb;obtain⟨_,_,hb⟩:=hb)))|((with_reducible refine cq (fun o2 ho=>?_));(try simp(disch:=assumption) only[aQ,aS,bc,cB,a_,List.length_cons,List.length_nil,Nat.zero_add,hbl1,hsa,hlp,hln,bD]at ho);(repeat(obtain⟨_,ho⟩:=ho))))<;>(try simp(disch:=first|assumption|omega) only[go_sem,seval,hbl1,hsa,hlp,hln,bD, *]))))
    have HP1:=HPN.out.1
    have HN1:=HPN.out.2
    simp only[if_true]at HP1 HN1
    exact⟨_,v_ _ (by rw[k_ _ _ (‹_›),k_ _ _ (‹_›),aR,aR];exact⟨‹_›,‹_›,hb⟩),m - 1,by omega,i+1,oP,_,by omega,by omega,by rw[HP1,hNP];exact hoP,by rw[HP1,hNP,HN1,d_,hNN];exact ho,‹_›,‹_›,‹_›,‹_›,
     by rw[HP1,hNP,HN1,d_,hNN,List.map_append,hLP,hLN];rfl,ab,ab,ab,ab,ab,ab,ab,ab,ab,ab⟩
   |false=>
    (repeat'(first|refine Ctl ?_|((with_reducible refine j_ hK ?_);clear hK hE K E)|((with_reducible refine aj (fun h=>?_) (fun h=>?_))<;>(try(exfalso;assumption)))|((first|(with_reducible refine ae fun K E hK hE=>?_)|((with_reducible refine ao (fun b hb=>?_));(repeat(obtain⟨_,hb⟩:=hb));(try(rw[aR,aR]at hb;obtain⟨_,_,hb⟩:=hb)))|((with_reducible refine cq (fun o2 ho=>?_));(try simp(disch:=assumption) only[aQ,aS,bc,cB,a_,List.length_cons,List.length_nil,Nat.zero_add,hbl1,hsa,hlp,hln,bD]at ho);(repeat(obtain⟨_,ho⟩:=ho))))<;>(try simp(disch:=first|assumption|omega) only[go_sem,seval,hbl1,hsa,hlp,hln,bD, *]))))
    have HP1:=HPN.out.1
    have HN1:=HPN.out.2
    simp only[Bool.false_eq_true,if_false]at HP1 HN1
    exact⟨_,v_ _ (by rw[k_ _ _ (‹_›),k_ _ _ (‹_›),aR,aR];exact⟨‹_›,‹_›,hb⟩),m - 1,by omega,i+1,_,oN,by omega,by omega,by rw[HP1,d_,hNP];exact w9 ho,by rw[HN1,hNN,HP1,d_,hNP];exact vo (w9 hoN) ho,‹_›,‹_›,‹_›,‹_›,
     by rw[HN1,hNN,HP1,d_,hNP,List.map_append,hLP,hLN,Bh ho];rfl,ab,ab,ab,ab,ab,ab,ab,ab,ab,ab⟩
  ·obtain rfl:i=body.length:=by omega
   rw[f_]at hoP hoN ⊢
   have hg1:=GS.wk1 (s:=(((S2.own oP 40 3 (cE body).length).own oN 40 3 (cK body).length).set b11 (.obj 41 [.lst ((cE body).map fun a=>aG a) oP])).set b12 (.obj 41 [.lst ((cK body).map fun a=>aG a) oN])) (b:=b12) (q_ _ _ _)
   rw[St.set_set]at hg1
   have hg2:=GS.wk1 (s:=(((S2.own oP 40 3 (cE body).length).own oN 40 3 (cK body).length).set b11 (.obj 41 [.lst ((cE body).map fun a=>aG a) oP])).set b12 (.obj 41 [.lst ((cK body).map fun a=>aG a) .no])) (b:=b11) (by rw[k_ _ _ k21];exact q_ _ _ _)
   rw[cJ (x:=b12) (y:=b11) k12,St.set_set]at hg2
   have hg3:Fg ((((S2.own oP 40 3 (cE body).length).own oN 40 3 (cK body).length).set b11 (.obj 41 [.lst ((cE body).map fun a=>aG a) .no])).set b12 (.obj 41 [.lst ((cK body).map fun a=>aG a) .no])) ((S2.set b11 (.obj 41 [.lst ((cE body).map fun a=>aG a) .no])).set b12 (.obj 41 [.lst ((cK body).map fun a=>aG a) .no])):=
    Fg.set (Fg.set ((Fg.own hoN).trans (Fg.own hoP)) _ _) _ _
   refine pc (hg1.trans (hg2.trans (GS.of_fg hg3))) ?_
   clear hg1 hg2 hg3 hoP hoN
   have w4:((S2.set b11 (.obj 41 [.lst ((cE body).map fun a=>aG a) .no])).set b12 (.obj 41 [.lst ((cK body).map fun a=>aG a) .no])) b4=.obj 71 [.ptr p 0]:=by rw[k_ _ _ (‹_›),k_ _ _ (‹_›)];exact q4'
   have w7:((S2.set b11 (.obj 41 [.lst ((cE body).map fun a=>aG a) .no])).set b12 (.obj 41 [.lst ((cK body).map fun a=>aG a) .no])) b7=.obj 111 [.fn tf tc]:=by rw[k_ _ _ (‹_›),k_ _ _ (‹_›)];exact q7'
   have w8:((S2.set b11 (.obj 41 [.lst ((cE body).map fun a=>aG a) .no])).set b12 (.obj 41 [.lst ((cK body).map fun a=>aG a) .no])) b8=.obj 73 [.mp mS]:=by rw[k_ _ _ (‹_›),k_ _ _ (‹_›)];exact q8'
   have wS:((S2.set b11 (.obj 41 [.lst ((cE body).map fun a=>aG a) .no])).set b12 (.obj 41 [.lst ((cK body).map fun a=>aG a) .no])) mS=.map (mpV bL (eL vars)):=by rw[k_ _ _ (‹_›),k_ _ _ (‹_›)];exact qS'
   have w11:((S2.set b11 (.obj 41 [.lst ((cE body).map fun a=>aG a) .no])).set b12 (.obj 41 [.lst ((cK body).map fun a=>aG a) .no])) b11=.obj 41 [.lst ((cE body).map fun a=>aG a) .no]:=by rw[k_ _ _ k21];exact q_ _ _ _
   have w12:((S2.set b11 (.obj 41 [.lst ((cE body).map fun a=>aG a) .no])).set b12 (.obj 41 [.lst ((cK body).map fun a=>aG a) .no])) b12=.obj 41 [.lst ((cK body).map fun a=>aG a) .no]:=q_ _ _ _
   have HF11:Hid (t b11=.free/\t b12=.free):=u_ ⟨by
    by_cases h:t b11=.free
    ·exact h
    ·rw[<- HK2.out _ h];exact h11,by
    by_cases h:t b12=.free
    ·exact h
    ·rw[<- HK2.out _ h];exact h12⟩
   have HK3:Hid (∀z,t z≠.free->((S2.set b11 (.obj 41 [.lst ((cE body).map fun a=>aG a) .no])).set b12 (.obj 41 [.lst ((cK body).map fun a=>aG a) .no])) z=t z):=u_ fun z hz=>by
    rw[k_ _ _ (aT hz HF11.out.2),k_ _ _ (aT hz HF11.out.1)];exact HK2.out z hz
   clear q4' q5' q7' q8' qS' HK2 l4 l5 l7 l8 lS h11 h12 hb
   generalize (S2.set b11 (.obj 41 [.lst ((cE body).map fun a=>aG a) .no])).set b12 (.obj 41 [.lst ((cK body).map fun a=>aG a) .no])=S3 at *
   have l4:S3 b4≠.free:=by rw[w4];simp
   have l7:S3 b7≠.free:=by rw[w7];simp
   have l8:S3 b8≠.free:=by rw[w8];simp
   have lS:S3 mS≠.free:=by rw[wS];simp
   have l11:S3 b11≠.free:=by rw[w11];simp
   have l12:S3 b12≠.free:=by rw[w12];simp
   (repeat'(first|refine Ctl ?_|((with_reducible refine j_ hK ?_);clear hK hE K E)|((with_reducible refine aj (fun h=>?_) (fun h=>?_))<;>(try(exfalso;assumption)))|((first|(with_reducible first|refine ae fun K E hK hE=>?_|refine mB ?_)|((with_reducible refine ao (fun b hb=>?_));(repeat(obtain⟨_,hb⟩:=hb));(try(obtain⟨_,_⟩:=nef hb l4;obtain⟨_,_⟩:=nef hb l7;obtain⟨_,_⟩:=nef hb l8;obtain⟨_,_⟩:=nef hb lS;obtain⟨_,_⟩:=nef hb l11;obtain⟨_,_⟩:=nef hb l12))))<;>(try simp(disch:=omega) only[go_sem,seval,hbl1,hvl1, *]))))
   rename_i rb hrb _ _ _ _ _ _ _ _ _ _ _ _ b15 _ _ h15 _ _ _ _ _ _ _ _ _ _ _ _ kb _ _ _ _ hkb _ _ _ _ _ _ _ _ _ _ _ _ b16 _ _ _ _ _ _ h16 _ _ _ _ _ _ _ _ _ _ _ _ b17 _ _ _ _ _ _ _ _ h17 _ _ _ _ _ _ _ _ _ _ _ _ _ _ _ _ _ _ _ _ _ _ _ _ _ _ _ _ _ _ _ _ _ _
   obtain⟨b18,hb18⟩:∃z,z=b:=⟨_,rfl⟩
   subst hb18
   have h18:=hb
   generalize hS6:(((((S3.set rb (.obj 3 (List.replicate vars.length (VV.int .i64 0)))).set b15 (.obj 48 [.msl rb vars.length])).set kb (.obj 4 (List.replicate vars.length (VV.bool false)))).set b16 (.obj 148 [.msl kb vars.length])).set b17 (.obj 149 [.fn 79 [.ptr b15 0,.ptr b8 0]])).set b18 (.obj 54 [.fn 80 [.ptr b11 0,.ptr b12 0,.ptr b17 0,.ptr b4 0,.ptr b7 0,.ptr b15 0,.ptr b16 0,.ptr b8 0,.ptr b18 0]])=S6
   have hrp:List.replicate vars.length (VV.int .i64 0)=cY (List.replicate vars.length 0):=by simp[cY]
   have hrk:List.replicate vars.length (VV.bool false)=cF (List.replicate vars.length false):=zB
   have z0:S6 b4=.obj 71 [.ptr p 0]:=by
    rw[<- hS6]
    simp only[St.set,if_true,if_false,hrp,hrk, *]
   have z1:S6 b7=.obj 111 [.fn tf tc]:=by
    rw[<- hS6]
    simp only[St.set,if_true,if_false,hrp,hrk, *]
   have z2:S6 b8=.obj 73 [.mp mS]:=by
    rw[<- hS6]
    simp only[St.set,if_true,if_false,hrp,hrk, *]
   have z3:S6 mS=.map (mpV bL (eL vars)):=by
    rw[<- hS6]
    simp only[St.set,if_true,if_false,hrp,hrk, *]
   have z4:S6 b11=.obj 41 [.lst ((cE body).map fun a=>aG a) .no]:=by
    rw[<- hS6]
    simp only[St.set,if_true,if_false,hrp,hrk, *]
   have z5:S6 b12=.obj 41 [.lst ((cK body).map fun a=>aG a) .no]:=by
    rw[<- hS6]
    simp only[St.set,if_true,if_false,hrp,hrk, *]
   have z6:S6 rb=.obj 3 (cY (List.replicate vars.length 0)):=by
    rw[<- hS6]
    simp only[St.set,if_true,if_false,hrp,hrk, *]
   have z7:S6 b15=.obj 48 [.msl rb vars.length]:=by
    rw[<- hS6]
    simp only[St.set,if_true,if_false,hrp,hrk, *]
   have z8:S6 kb=.obj 4 (cF (List.replicate vars.length false)):=by
    rw[<- hS6]
    simp only[St.set,if_true,if_false,hrp,hrk, *]
   have z9:S6 b16=.obj 148 [.msl kb vars.length]:=by
    rw[<- hS6]
    simp only[St.set,if_true,if_false,hrp,hrk, *]
   have z10:S6 b17=.obj 149 [.fn 79 [.ptr b15 0,.ptr b8 0]]:=by
    rw[<- hS6]
    simp only[St.set,if_true,if_false,hrp,hrk, *]
   have z11:S6 b18=.obj 54 [.fn 80 [.ptr b11 0,.ptr b12 0,.ptr b17 0,.ptr b4 0,.ptr b7 0,.ptr b15 0,.ptr b16 0,.ptr b8 0,.ptr b18 0]]:=by
    rw[<- hS6]
    simp only[St.set,if_true,if_false,hrp,hrk, *]
   have HFC:Hid (t rb=.free/\t b15=.free/\t kb=.free/\t b16=.free/\t b17=.free/\t b18=.free):=by
    have hh:∀z,S3 z=.free->t z=.free:=fun z hz=>by
     by_cases h:t z=.free
     ·exact h
     ·rw[<- HK3.out _ h];exact hz
    exact u_ ⟨hh _ hrb,hh _ h15,hh _ hkb,hh _ h16,hh _ h17,hh _ h18⟩
   have HK4:Hid (∀z,t z≠.free->S6 z=t z):=u_ fun z hz=>by
    rw[<- hS6,k_ _ _ (aT hz HFC.out.2.2.2.2.2),k_ _ _ (aT hz HFC.out.2.2.2.2.1),k_ _ _ (aT hz HFC.out.2.2.2.1),k_ _ _ (aT hz HFC.out.2.2.1),k_ _ _ (aT hz HFC.out.2.1),k_ _ _ (aT hz HFC.out.1)]
    exact HK3.out z hz
   clear hS6 w4 w7 w8 wS w11 w12 l4 l7 l8 lS l11 l12 HK3 hrb h15 hkb h16 h17 h18 hb
   have hW:WkS S6 ⟨b11,b12,b17,b4,b7,b15,b16,b8,b18,rb,kb,mS⟩ p bm bz x V X (cE body) (cK body) vars tf tc Rz P a F (List.replicate vars.length 0) (List.replicate vars.length false):=by
    refine⟨⟨z4,z5,z10,z0,z1,by rw[List.length_replicate];exact z7,by rw[List.length_replicate];exact z9,z2,z11,z6,z8,z3⟩,HM.out.keep fun z hz=>HK4.out z (HM.out.live hz),HT.out.keep _ _ _ _ HPP.out fun z hz=>HK4.out z (hz.elim (HT.out.live _ _ _ _ HPP.out) (HT.out.rd _ _ _ _ HPP.out)),fun z hz=>⟨?_,HSEP.out z hz⟩,fun z hz=>⟨?_,?_⟩⟩
    ·have hl:=HT.out.live _ _ _ _ HPP.out hz
     rintro(h|h|h|h|h|h|h|h|h|h|h|h)<;>subst h<;>simp only[HFR.out.1,HFR.out.2.1,HFR.out.2.2.1,HFR.out.2.2.2.1,HFR.out.2.2.2.2,HF11.out.1,HF11.out.2,HFC.out.1,HFC.out.2.1,HFC.out.2.2.1,HFC.out.2.2.2.1,HFC.out.2.2.2.2.1,HFC.out.2.2.2.2.2,ne_eq,not_true_eq_false]at hl
    ·exact aT (HT.out.rd _ _ _ _ HPP.out hz) HFC.out.1
    ·exact aT (HT.out.rd _ _ _ _ HPP.out hz) HFC.out.2.2.1
   have hA:AsgAt vars.length (cU vars) (List.replicate vars.length 0) (List.replicate vars.length false):=⟨by simp[cU],by simp,by simp[cU],fun i v h=>by
    unfold cU at h
    rw[List.getElem?_replicate]at h
    split at h<;>cases h⟩
   have hpos:∀m,m∈cE body->MAtm x X vars m:=fun m hm=>HBD.out m (List.mem_filter.1 hm).1
   have hneg:∀m,m∈cK body->MAtm x X vars m:=fun m hm=>HBD.out m (List.mem_filter.1 hm).1
   have hpl:(cE body).length<=100000:=Nat.le_trans (List.length_filter_le _ _) hbl
   have hnl:(cK body).length<=100000:=Nat.le_trans (List.length_filter_le _ _) hbl
   have wc:=Eu HT.out hsm hpos hneg hnl hpl hvl ⟨b11,b12,b17,b4,b7,b15,b16,b8,b18,rb,kb,mS⟩ p bm bz hXl (cE body).length 0 (by omega) S6 a F (cU vars) _ _ hW hA HO.out (by rw[List.drop_zero];exact HG.out)
   rw[List.drop_zero,show eU (bV x X) vars (cK body) (cE body) (cU vars)=eT (bV x X) vars body from rfl]at wc
   clear z0 z1 z2 z3 z4 z5 z6 z7 z8 z9 z10 z11 hW hA hpos hneg hpl hnl
   refine aO Fj wc (fun u h=>?_)
   obtain⟨rv',F',g1,g2,g3,g4⟩:=h
   have HU:=u_ (And.intro g1.c (And.intro g1.m (And.intro g3 g4)))
   clear g1 g2 g3 g4 wc
   simp only[go_sem,seval]
   (repeat'(((with_reducible refine j_ hK ?_);clear hK hE K E)))
   all_goals(refine en E1 hQ ?_)
   obtain⟨g1,g2,g3,g4⟩:=HU.out
   refine⟨_,_,Wk.refl _,Fg.refl _,_,rfl,rfl,F',g1,fun z hz=>?_,g2,fun z hz hn=>?_⟩
   ·rcases g3 z hz with h|h
    ·exact .inl h
    ·by_cases h1:t z=.free
     ·exact .inr h1
     ·rw[HK4.out z h1]at h;exact absurd h h1
   ·rw[g4 z (by rw[HK4.out z hz];exact hz) (fun h=>by
     rcases h with h|h|h
     ·exact hn h
     ·exact aT hz HFC.out.1 h
     ·exact aT hz HFC.out.2.2.1 h)]
    exact HK4.out z hz
end
end Go.Proofs.YteldpmgepfaiiaaGreatDoor
namespace Go.Proofs.YteldpmgepfaiiaaGreatDoor
open Go.RowKit
attribute [local go_sem] aH aV cH
theorem mP {k:List UInt8}:∀{l:List (List UInt8)} {i:Nat},(∀y,y∈l.take i->¬ y=k)->l[i]?=some k->ixT k l=some i
 |[],i,_,h=>by simp at h
 |x::l,0,_,h=>by simp at h;subst h;simp[ixT]
 |x::l,i+1,ha,h=>by
  have h1:¬ k=x:=fun e=>ha x (by simp) e.symm
  simp only[ixT]
  rw[if_neg h1,mP (l:=l) (i:=i) (fun z hz=>ha z (by simp[hz])) (by simpa using h)]
  rfl
set_option maxHeartbeats 2000000 in
theorem MN (l:List (List UInt8))(o:Own)(n:List UInt8)(hn:l.length<=1000000000)(s:St):SRet Tryz.prog 60 [.lst (aA l) o,.str n] s (.int .i64 (gc n l)) s:=by
 have hsl:(aA l).length=l.length:=by simp[aA]
 refine aw Tryz.func60 rfl Tryz.ntmps60 rfl fun Q hQ hQe=>?_
 (repeat'(first|refine Ctl ?_|((with_reducible refine j_ hK ?_);clear hK hE K E)|(((with_reducible refine ae fun K E hK hE=>?_))<;>(try simp(disch:=omega) only[go_sem,seval,hsl, *]))))
 refine bB (fun m env s'=>∃(i:Nat),i<=l.length/\m+i=l.length/\(∀x,x∈l.take i->¬ x=n)/\s'=s/\env 0=.lst (aA l) o/\env 1=.str n/\env 7=.int .i64 l.length/\env 8=.int .i64 i) l.length
  ⟨0,by omega,by omega,by simp,rfl,ab,ab,ab,ab⟩ ?_
 rintro m env s' ⟨i,hi,hm,hall,rfl,e0,e1,e7,e8⟩
 by_cases hlt:i<l.length
 ·obtain⟨x,hx⟩:=aN hlt
  have hsx:=dm hx
  have htake:=bY hx
  by_cases hnx:x=n
  ·subst hnx
   have hres:gc x l=i:=by unfold gc;rw[mP hall hx]
   clear hall htake hx
   (repeat'(first|refine Ctl ?_|((with_reducible refine j_ hK ?_);clear hK hE K E)|((with_reducible refine aj (fun h=>?_) (fun h=>?_))<;>(try(exfalso;assumption)))|(((with_reducible refine ae fun K E hK hE=>?_))<;>(try simp(disch:=omega) only[go_sem,seval,hsl,hsx, *]))))
   all_goals(refine ap AC hQ ?_)
   all_goals(refine⟨_,_,Wk.of_eq ?_,?_,rfl,rfl⟩)
   all_goals first|(exact bC)|(rw[hres];done)
  ·have hall2:∀y,y∈l.take (i+1)->¬ y=n:=fun y hy=>by
    rw[htake]at hy
    rcases l_.1 hy with hy|hy
    ·exact hall y hy
    ·rw[e_]at hy;subst hy;exact hnx
   have hnx2:¬ n=x:=fun e=>hnx e.symm
   clear hall htake hx
   (repeat'(first|refine Ctl ?_|((with_reducible refine j_ hK ?_);clear hK hE K E)|((with_reducible refine aj (fun h=>?_) (fun h=>?_))<;>(try(exfalso;assumption)))|(((with_reducible refine ae fun K E hK hE=>?_))<;>(try simp(disch:=omega) only[go_sem,seval,hsl,hsx, *]))))
   all_goals exact⟨m - 1,by omega,i+1,by omega,by omega,hall2,rfl,ab,ab,ab,ab⟩
 ·have hres:gc n l=-1:=by
   have:l.take i=l:=B_ (by omega)
   rw[this]at hall
   unfold gc;rw[eN.2 fun hm=>hall n hm rfl]
  clear hall
  (repeat'(first|refine Ctl ?_|((with_reducible refine j_ hK ?_);clear hK hE K E)|((with_reducible refine aj (fun h=>?_) (fun h=>?_))<;>(try(exfalso;assumption)))|(((with_reducible refine ae fun K E hK hE=>?_))<;>(try simp(disch:=omega) only[go_sem,seval,hsl, *]))))
  all_goals(refine ap AC hQ ?_)
  all_goals(refine⟨_,_,Wk.of_eq ?_,?_,rfl,rfl⟩)
  all_goals first|(exact bC)|(rw[hres];done)
structure GB where
 r:Nat
 v:Nat
 t:Nat
 f:Nat
 a:Nat
 mf:Nat
structure GvAt (u:St) (D:GB) (g:Nat) (rl:Rul) (vars:List (List UInt8)) (y:Tab) (al:List (List Int)):Prop where
 r:u D.r=.obj 43 (ax rl)
 v:u D.v=.obj 64 [.lst (aA vars) .no]
 t:u D.t=.obj 78 [.ptr y.b 0]
 f:u D.f=.obj 79 [.mp D.mf]
 yo:u y.b=.obj 81 [eu y.l y.g,.mp y.m]
 yh:u y.m=.map (mpV cW (gR y.l))
 a:u D.a=.obj 44 [eu al g]
 mf:u D.mf=.map (mpV cW (gR al))
 g:al≠[]->u g=.row 48 1 (al.map ca)
 ne:D.mf≠y.m
def GvF (D:GB)(g:Nat)(al:List (List Int))(z:Nat):Prop:=z=D.a\/z=D.mf\/(al≠[]/\z=g)
def gvF (vars:List (List UInt8))(ts:List Trm)(l:List (List Int))(al:List (List Int))(row:List Int):List (List Int)×Bool:=
 if aU vars row ts∈l\/aU vars row ts∈al then(al,decide (l.length+al.length<=16384))else(al++[aU vars row ts],decide (l.length+(al.length+1)<=16384))
theorem lv {u:St}{mf bM z:Nat}{e:List (VV×VV)}(hM:(u.set mf (.map e)) bM=.free)(hz:u z≠.free):¬ z=bM/\¬ bM=z:=by
 have h:¬ z=bM:=by
  rintro rfl
  by_cases h:z=mf
  ·subst h;rw[q_]at hM;cases hM
  ·rw[k_ _ _ h]at hM;exact hz hM
 exact⟨h,fun e=>h e.symm⟩
theorem sL {u:St}{mf g bM z:Nat}{e:List (VV×VV)}(hM:((u.set mf (.map e)).set g .free) bM=.free)(hz:u z≠.free)(hg:¬ z=g):¬ z=bM/\¬ bM=z:=by
 have h:¬ z=bM:=by
  rintro rfl
  rw[k_ _ _ hg]at hM
  exact(lv hM hz).1 rfl
 exact⟨h,fun e=>h e.symm⟩
theorem ft {u:St}{g z:Nat}{T sz:Nat}{xs:List VV}(hg:u g=.row T sz xs){c:Cell}(hz:u z=c)(hc:∀T sz xs,c≠.row T sz xs):¬ z=g:=by
 rintro rfl
 exact hc _ _ _ (hz.symm.trans hg)
set_option maxHeartbeats 16000000 in
theorem MO (u:St)(D:GB)(g:Nat)(hd:Atm)(body:List Atm)(vars:List (List UInt8))(y:Tab)(al:List (List Int))(row:List Int)(hA:GvAt u D g ⟨hd,body⟩ vars y al)(hal:∀x,x∈al->Sml x)(hyl:∀x,x∈y.l->Sml x)
  (hr:Sml row) (hrl:row.length=vars.length) (hvl:vars.length<=100000) (hf:ix vars vars.length hd.ts) (htl:hd.ts.length<=100000) (hnum:∀m,m∈hd.ts->m.var=false->0<=m.n/\m.n<256) (h1:y.l.length<=1000000) (h2:al.length<=1000000) :
  SCalls Tryz.prog 59 [ca row,.ptr D.r 0,.ptr D.v 0,.ptr D.t 0,.ptr D.f 0,.ptr D.a 0] u fun w s=>∃u':St,w=.ret (.bool (gvF vars hd.ts y.l al row).2)/\s=u' /\
   ∃g',GvAt u' D g' ⟨hd,body⟩ vars y (gvF vars hd.ts y.l al row).1/\Keep u u' (GvF D g al)/\(∀z,GvF D g' (gvF vars hd.ts y.l al row).1 z->GvF D g al z\/u z=.free):=by
 obtain⟨nt,rl,ts⟩:=hd
 simp only at hf htl hnum ⊢
 have hsml:=fH hr (by rw[hrl];exact hf) htl hnum
 have wt:=fun s=>mW (aU vars row ts) (by have:=hsml.1;omega) s
 have wi:=fun n s=>MN vars .no n (by omega) s
 have hl1:(ts.map aC).length=ts.length:=by simp
 have hrl2:(aB row).length=vars.length:=by rw[bH];exact hrl
 have hk1:=gO hsml hyl
 have hk2:=gO hsml hal
 have hp2:=nP hsml hal
 have q1:=hA.r
 have q2:=hA.v
 have q3:=hA.t
 have q4:=hA.f
 have q5:=hA.yo
 have q6:=hA.yh
 have q7:=hA.a
 have q8:=hA.mf
 have q9:=hA.g
 have l1:u D.r≠.free:=by rw[q1];simp
 have l2:u D.v≠.free:=by rw[q2];simp
 have l3:u D.t≠.free:=by rw[q3];simp
 have l4:u D.f≠.free:=by rw[q4];simp
 have l5:u y.b≠.free:=by rw[q5];simp
 have l6:u y.m≠.free:=by rw[q6];simp
 have l7:u D.a≠.free:=by rw[q7];simp
 have l8:u D.mf≠.free:=by rw[q8];simp
 simp only[ax]at q1
 have HA:=u_ hA
 have HAL:=u_ hal
 have HR:=u_ hr
 clear hA hal hr hyl
 generalize hGE:gvF vars ts y.l al row=GE
 have HGE:=u_ hGE
 clear hGE
 unfold ca at wt ⊢
 refine aw Tryz.func59 rfl Tryz.ntmps59 rfl fun Q hQ hQe=>?_
 (repeat'(first|refine Ctl ?_|((with_reducible refine j_ hK ?_);clear hK hE K E)|(((with_reducible refine ae fun K E hK hE=>?_))<;>(try simp(disch:=omega) only[go_sem,seval,hl1, *]))))
 refine aI (fun m env s'=>∃(j:Nat) (o:Own),j<=ts.length/\m+j=ts.length/\OwnOk u o j/\s'=u.own o 3 1 j/\env 0=.lst (aB row) .no/\env 1=.ptr D.r 0/\env 2=.ptr D.v 0/\env 3=.ptr D.t 0/\env 4=.ptr D.f 0/\env 5=.ptr D.a 0 /\
  env 8=.lst (aB (aU vars row (ts.take j))) o/\env 15=.lst (ts.map aC) .no/\env 16=.int .i64 ts.length/\env 17=.int .i64 j) ts.length ?_ ?_
 ·exact⟨_,Fg.refl _,0,.full,by omega,by omega,b9,rfl,ab,ab,ab,ab,ab,ab,ab,ab,ab,ab⟩
 rintro m env s' ⟨j,o,hj,hm,hoo,rfl,e0,e1,e2,e3,e4,e5,e8,e15,e16,e17⟩
 by_cases hltj:j<ts.length
 ·obtain⟨z,hz⟩:=aN hltj
  have hsz:=dl hz
  have HS:=u_ (kg (vars:=vars) (row:=row) hz)
  have hfz:=hf z (p_ hz)
  have hLl:(aB (aU vars row (ts.take j))).length=j:=by rw[bH,aU,a_,A_];omega
  have h1y:∀y,y∈aB (aU vars row (ts.take j))->y.length=1:=fun y hy=>by
   obtain⟨q,_,rfl⟩:=E_.1 hy
   rfl
  have o2':=hoo.not l2
  obtain⟨xv,xn,xz⟩:=z
  simp only[aC]at hsz
  clear hz
  generalize aB (aU vars row (ts.take j))=L at *
  cases xv with
  |true=>
   obtain⟨k,hk3,hk4⟩:=hfz rfl
   have hk3':ixT xn vars=some k:=hk3
   obtain⟨z,hz⟩:∃z,row[k]?=some z:=aN (by omega)
   have hsr:=cD hz
   have w2:=wi xn
   rw[show gc xn vars=(k:Int) by simp[gc,hk3']]at w2
   rw[show eF vars row ⟨true,xn,xz⟩=z by simp[eF,hk3',hz]]at HS
   clear hfz hk3 hk3' hz wi
   (repeat'(first|refine Ctl ?_|((with_reducible refine j_ hK ?_);clear hK hE K E)|((with_reducible refine aj (fun h=>?_) (fun h=>?_))<;>(try(exfalso;assumption)))|((first|(with_reducible first|refine ae fun K E hK hE=>?_|refine ak My (w2 _) ?_)|((with_reducible refine ao (fun b hb=>?_));(repeat(obtain⟨_,hb⟩:=hb));(try(obtain⟨_,_⟩:=nef hb l2)))|((with_reducible refine cq (fun o2 ho=>?_));(try simp(disch:=assumption) only[aQ,aS,bc,cB,a_,List.length_cons,List.length_nil,Nat.zero_add,hl1,hsz,hLl,hrl2,hsr]at ho);(repeat(obtain⟨_,ho⟩:=ho))))<;>(try simp(disch:=first|assumption|omega) only[go_sem,seval,hl1,hsz,hLl,hrl2,hsr, *]))))
   exact⟨_,v_ _ (by rw[aR];exact⟨‹_›,hb⟩),m - 1,by omega,j+1,o2,by omega,by omega,ho,rfl,ab,ab,ab,ab,ab,ab,by rw[HS.out];((try simp(disch:=assumption) only[go_sem,seval, *])<;>rfl),ab,ab,ab⟩
  |false=>
   rw[show eF vars row ⟨false,xn,xz⟩=xz from rfl]at HS
   clear hfz wi
   (repeat'(first|refine Ctl ?_|((with_reducible refine j_ hK ?_);clear hK hE K E)|((with_reducible refine aj (fun h=>?_) (fun h=>?_))<;>(try(exfalso;assumption)))|((first|(with_reducible refine ae fun K E hK hE=>?_)|((with_reducible refine ao (fun b hb=>?_));(repeat(obtain⟨_,hb⟩:=hb)))|((with_reducible refine cq (fun o2 ho=>?_));(try simp(disch:=assumption) only[aQ,aS,bc,cB,a_,List.length_cons,List.length_nil,Nat.zero_add,hl1,hsz,hLl]at ho);(repeat(obtain⟨_,ho⟩:=ho))))<;>(try simp(disch:=first|assumption|omega) only[go_sem,seval,hl1,hsz,hLl, *]))))
   exact⟨_,v_ _ (by rw[aR];exact⟨‹_›,hb⟩),m - 1,by omega,j+1,o2,by omega,by omega,ho,rfl,ab,ab,ab,ab,ab,ab,by rw[HS.out];((try simp(disch:=assumption) only[go_sem,seval, *])<;>rfl),ab,ab,ab⟩
 ·obtain rfl:j=ts.length:=by omega
  rw[f_]at e8
  refine lT 8 (y:=.lst (aB (aU vars row ts)) .no) e8 (Wk.lst _ _) ?_
  refine ee (Fg.own hoo) ?_
  clear hoo hf hl1 hrl2 wi
  generalize hhh:aU vars row ts=hh at *
  have k1:¬ D.mf=y.m:=HA.out.ne
  have k2:¬ y.m=D.mf:=fun e=>k1 e.symm
  by_cases hm1:hh∈y.l
  ·have HG:Hid (GE=(al,decide (y.l.length+al.length<=16384))):=u_ (by rw[<- HGE.out];unfold gvF;rw[hhh,if_pos (.inl hm1)])
   rw[if_pos hm1]at hk1
   clear hm1 hp2 hk2
   (repeat'(first|refine Ctl ?_|(with_reducible first|(refine j_ hK ?_;clear hK hE K E)|(refine j_ hKh ?_;clear hKh Kh)|refine aq 14 [] [0,1,2,3,4,5,6,7,8,9] hQe fun K E hK hE=>?_)|((with_reducible refine aj (fun h=>?_) (fun h=>?_))<;>(try(exfalso;assumption)))|(((with_reducible first|refine ae fun K E hK hE=>?_|refine ak k9 (wt _) ?_|refine aD fun Kh hKh=>?_))<;>(try simp(disch:=omega) only[go_sem,seval,hk1,Option.getD_some,dM, *]))))
   all_goals(refine ap sS hQ ?_)
   all_goals rw[HG.out]
   all_goals exact⟨_,_,Wk.refl _,Fg.refl _,_,congrArg (fun b=>SEnd.ret (.bool b)) (decide_eq_decide.2 (by omega)),rfl,g,HA.out,Keep.refl _ _,fun z h=>.inl h⟩
  ·rw[if_neg hm1]at hk1
   by_cases hm2:hh∈al
   ·have HG:Hid (GE=(al,decide (y.l.length+al.length<=16384))):=u_ (by rw[<- HGE.out];unfold gvF;rw[hhh,if_pos (.inr hm2)])
    rw[if_pos hm2]at hk2
    clear hm1 hm2 hp2
    (repeat'(first|refine Ctl ?_|(with_reducible first|(refine j_ hK ?_;clear hK hE K E)|(refine j_ hKh ?_;clear hKh Kh)|refine aq 14 [] [0,1,2,3,4,5,6,7,8,9] hQe fun K E hK hE=>?_)|((with_reducible refine aj (fun h=>?_) (fun h=>?_))<;>(try(exfalso;assumption)))|(((with_reducible first|refine ae fun K E hK hE=>?_|refine ak k9 (wt _) ?_|refine aD fun Kh hKh=>?_))<;>(try simp(disch:=omega) only[go_sem,seval,hk1,hk2,Option.getD_some,Option.getD_none,dM, *]))))
    all_goals(refine ap sS hQ ?_)
    all_goals rw[HG.out]
    all_goals exact⟨_,_,Wk.refl _,Fg.refl _,_,congrArg (fun b=>SEnd.ret (.bool b)) (decide_eq_decide.2 (by omega)),rfl,g,HA.out,Keep.refl _ _,fun z h=>.inl h⟩
   ·have HG:Hid (GE=(al++[hh],decide (y.l.length+(al.length+1)<=16384))):=u_ (by rw[<- HGE.out];unfold gvF;rw[hhh,if_neg (by simp[hm1,hm2])])
    rw[if_neg hm2]at hk2
    replace hp2:=hp2 hm2
    clear hm1 hm2
    have HHL:=u_ (show gR (al++[hh])=gR (al++[hh]) from rfl)
    generalize hL2:gR (al++[hh])=L2 at *
    generalize hLA:gR al=LA at *
    have kma:=show ¬ D.mf=D.a from fun e=>by rw[e,q7]at q8;cases q8
    have kam:=show ¬ D.a=D.mf from fun e=>kma e.symm
    have p1:¬ D.t=D.a:=bZ q3 q7 (by decide)
    have p2:¬ D.t=D.mf:=dg q3 q8
    have p3:¬ y.b=D.a:=bZ q5 q7 (by decide)
    have p4:¬ y.b=D.mf:=dg q5 q8
    cases al with
    |nil=>
     simp only[eu]at q7
     (repeat'(first|refine Ctl ?_|(with_reducible first|(refine j_ hK ?_;clear hK hE K E)|(refine j_ hKh ?_;clear hKh Kh)|refine aq 14 [] [0,1,2,3,4,5,6,7,8,9] hQe fun K E hK hE=>?_)|((with_reducible refine aj (fun h=>?_) (fun h=>?_))<;>(try(exfalso;assumption)))|((first|(with_reducible first|refine ae fun K E hK hE=>?_|refine ak k9 (wt _) ?_|refine aD fun Kh hKh=>?_)|((with_reducible refine oX (fun bM hM=>?_));(try(obtain⟨_,_⟩:=lv hM l7;obtain⟨_,_⟩:=lv hM l3;obtain⟨_,_⟩:=lv hM l5))))<;>(try simp(disch:=omega) only[go_sem,seval,hk1,hk2,hp2,Option.getD_none,dM, *]))))
     have hU:∀z,u z≠.free->¬ z=D.a->¬ z=D.mf->(((u.set D.mf (.map (mpV cW L2))).set bM (.row 48 1 [[VV.lst (aB hh) .no]].flatten)).set D.a (.obj 44 [.mrw bM 1])) z=u z:=fun z hz h1 h2=>by
      rw[k_ _ _ h1,k_ _ _ (lv hM hz).1,k_ _ _ h2]
     have hUa:(((u.set D.mf (.map (mpV cW L2))).set bM (.row 48 1 [[VV.lst (aB hh) .no]].flatten)).set D.a (.obj 44 [.mrw bM 1])) D.a=.obj 44 [.mrw bM 1]:=q_ _ _ _
     have hUm:(((u.set D.mf (.map (mpV cW L2))).set bM (.row 48 1 [[VV.lst (aB hh) .no]].flatten)).set D.a (.obj 44 [.mrw bM 1])) D.mf=.map (mpV cW L2):=by
      rw[k_ _ _ kma,k_ _ _ (lv hM l8).1,q_]
     have hUg:(((u.set D.mf (.map (mpV cW L2))).set bM (.row 48 1 [[VV.lst (aB hh) .no]].flatten)).set D.a (.obj 44 [.mrw bM 1])) bM=.row 48 1 ([[VV.lst (aB hh) .no]].flatten):=by
      rw[k_ _ _ (‹_›),q_]
     have hbf:u bM=.free:=by
      by_cases e2:bM=D.mf
      ·rw[e2,q_]at hM;cases hM
      ·rw[k_ _ _ e2]at hM;exact hM
     generalize (((u.set D.mf (.map (mpV cW L2))).set bM (.row 48 1 [[VV.lst (aB hh) .no]].flatten)).set D.a (.obj 44 [.mrw bM 1]))=U at *
     all_goals(refine ap sS hQ ?_)
     rw[HG.out]
     refine⟨_,_,Wk.refl _,Fg.refl _,_,congrArg (fun b=>SEnd.ret (.bool b)) (decide_eq_decide.2 (by simp only[List.length_nil]at *;omega)),rfl,bM,⟨?_,?_,?_,?_,?_,?_,?_,?_,?_,k1⟩,fun z hz hn=>?_,fun z hz=>?_⟩
     ·exact(hU _ l1 (bZ q1 q7 (by decide)) (dg q1 q8)).trans q1
     ·exact(hU _ l2 (bZ q2 q7 (by decide)) (dg q2 q8)).trans q2
     ·exact(hU _ l3 (bZ q3 q7 (by decide)) (dg q3 q8)).trans q3
     ·exact(hU _ l4 (bZ q4 q7 (by decide)) (dg q4 q8)).trans q4
     ·exact(hU _ l5 (bZ q5 q7 (by decide)) (dg q5 q8)).trans q5
     ·exact(hU _ l6 (fun e=>by rw[e,q7]at q6;cases q6) k2).trans q6
     ·rw[hUa];rfl
     ·rw[hUm,hL2]
     ·intro _
      rw[hUg]
      rfl
     ·exact hU z hz (fun e=>hn (.inl e)) (fun e=>hn (.inr (.inl e)))
     ·rcases hz with h|h|⟨_,h⟩
      ·exact .inl (.inl h)
      ·exact .inl (.inr (.inl h))
      ·subst h
       exact .inr hbf
    |cons a al=>
     simp only[eu]at q7
     replace q9:=q9 (by simp)
     have HLN:=u_ (show ((a::al).map ca).length=(a::al).length by simp)
     have hlm:((a::al).map ca).length=(a::al).length:=by simp
     generalize hMM:(a::al).map ca=M at *
     generalize hn:(a::al).length=n at *
     have n7:=ft q9 q7 (by intros;simp)
     have n3:=ft q9 q3 (by intros;simp)
     have n5:=ft q9 q5 (by intros;simp)
     have n8:=ft q9 q8 (by intros;simp)
     have n8':¬ g=D.mf:=fun e=>n8 e.symm
     have n7':¬ g=D.a:=fun e=>n7 e.symm
     (repeat'(first|refine Ctl ?_|(with_reducible first|(refine j_ hK ?_;clear hK hE K E)|(refine j_ hKh ?_;clear hKh Kh)|refine aq 14 [] [0,1,2,3,4,5,6,7,8,9] hQe fun K E hK hE=>?_)|((with_reducible refine aj (fun h=>?_) (fun h=>?_))<;>(try(exfalso;assumption)))|((first|(with_reducible first|refine ae fun K E hK hE=>?_|refine ak k9 (wt _) ?_|refine aD fun Kh hKh=>?_)|((with_reducible refine vX (fun bM hM=>?_));(try(obtain⟨_,_⟩:=sL hM l7 n7;obtain⟨_,_⟩:=sL hM l3 n3;obtain⟨_,_⟩:=sL hM l5 n5))))<;>(try simp(disch:=omega) only[go_sem,seval,hk1,hk2,hp2,hlm,Option.getD_none,dM, *]))))
     have hU:∀z,u z≠.free->¬ z=D.a->¬ z=D.mf->¬ z=g->((((u.set D.mf (.map (mpV cW L2))).set g .free).set bM (.row 48 1 (M++[[VV.lst (aB hh) .no]].flatten))).set D.a (.obj 44 [.mrw bM (n+1)])) z=u z:=fun z hz h1 h2 h3=>by
      rw[k_ _ _ h1,k_ _ _ (sL hM hz h3).1,k_ _ _ h3,k_ _ _ h2]
     have hUa:((((u.set D.mf (.map (mpV cW L2))).set g .free).set bM (.row 48 1 (M++[[VV.lst (aB hh) .no]].flatten))).set D.a (.obj 44 [.mrw bM (n+1)])) D.a=.obj 44 [.mrw bM (n+1)]:=q_ _ _ _
     have hUm:((((u.set D.mf (.map (mpV cW L2))).set g .free).set bM (.row 48 1 (M++[[VV.lst (aB hh) .no]].flatten))).set D.a (.obj 44 [.mrw bM (n+1)])) D.mf=.map (mpV cW L2):=by
      rw[k_ _ _ kma,k_ _ _ (sL hM l8 n8).1,k_ _ _ n8,q_]
     have hUg:((((u.set D.mf (.map (mpV cW L2))).set g .free).set bM (.row 48 1 (M++[[VV.lst (aB hh) .no]].flatten))).set D.a (.obj 44 [.mrw bM (n+1)])) bM=.row 48 1 (M++[[VV.lst (aB hh) .no]].flatten):=by
      rw[k_ _ _ (‹_›),q_]
     have hbf:bM=g\/u bM=.free:=by
      by_cases e:bM=g
      ·exact .inl e
      ·rw[k_ _ _ e]at hM
       by_cases e2:bM=D.mf
       ·rw[e2,q_]at hM;cases hM
       ·rw[k_ _ _ e2]at hM;exact .inr hM
     generalize ((((u.set D.mf (.map (mpV cW L2))).set g .free).set bM (.row 48 1 (M++[[VV.lst (aB hh) .no]].flatten))).set D.a (.obj 44 [.mrw bM (n+1)]))=U at *
     all_goals(refine ap sS hQ ?_)
     rw[HG.out]
     refine⟨_,_,Wk.refl _,Fg.refl _,_,congrArg (fun b=>SEnd.ret (.bool b)) (decide_eq_decide.2 (by simp only[List.length_nil]at *;omega)),rfl,bM,⟨?_,?_,?_,?_,?_,?_,?_,?_,?_,k1⟩,fun z hz hn2=>?_,fun z hz=>?_⟩
     ·exact(hU _ l1 (bZ q1 q7 (by decide)) (dg q1 q8) (ft q9 q1 (by intros;simp))).trans q1
     ·exact(hU _ l2 (bZ q2 q7 (by decide)) (dg q2 q8) (ft q9 q2 (by intros;simp))).trans q2
     ·exact(hU _ l3 (bZ q3 q7 (by decide)) (dg q3 q8) (ft q9 q3 (by intros;simp))).trans q3
     ·exact(hU _ l4 (bZ q4 q7 (by decide)) (dg q4 q8) (ft q9 q4 (by intros;simp))).trans q4
     ·exact(hU _ l5 (bZ q5 q7 (by decide)) (dg q5 q8) (ft q9 q5 (by intros;simp))).trans q5
     ·exact(hU _ l6 (fun e=>by rw[e,q7]at q6;cases q6) k2 (ft q9 q6 (by intros;simp))).trans q6
     ·rw[hUa];simp only[List.cons_append,eu];simp only[List.length_cons,d_,List.length_nil]at hn ⊢;rw[<- hn]
     ·rw[hUm,hL2]
     ·intro _
      rw[hUg]
      rw[<- hMM];simp[ca]
     ·exact hU z hz (fun e=>hn2 (.inl e)) (fun e=>hn2 (.inr (.inl e))) (fun e=>hn2 (.inr (.inr ⟨by simp,e⟩)))
     ·rcases hz with h|h|⟨_,h⟩
      ·exact .inl (.inl h)
      ·exact .inl (.inr (.inl h))
      ·subst h
       exact hbf.elim (fun e=>.inl (.inr (.inr ⟨by simp,e⟩))) .inr
end Go.Proofs.YteldpmgepfaiiaaGreatDoor
namespace Go.Proofs.YteldpmgepfaiiaaGreatDoor
open Go.RowKit
attribute [local go_sem] aH aV cH
structure GvRun (vars:List (List UInt8)) (ts:List Trm) (l:List (List Int)) (al0:List (List Int)) (rows:List (List Int)) (R:List (List Int)×Bool):Prop where
 nd:R.1.Nodup
 dj:∀h,h∈R.1->h∉l
 src:∀h,h∈R.1->h∈al0\/∃row,row∈rows/\aU vars row ts=h
 mono:∀h,h∈al0->h∈R.1
 full:R.2=true->∀row,row∈rows->aU vars row ts∈l\/aU vars row ts∈R.1
 stop:R.2=false->16384<l.length+R.1.length
 le:l.length+al0.length<=16384->l.length+R.1.length<=16385
 ok:l.length+al0.length<=16384->R.2=true->l.length+R.1.length<=16384
theorem vF {vars:List (List UInt8)}{ts:List Trm}{l:List (List Int)}:∀{rows:List (List Int)} {al0:List (List Int)},al0.Nodup->(∀h,h∈al0->h∉l)->GvRun vars ts l al0 rows (c6 (gvF vars ts l) al0 rows)
 |[],al0,h1,h2=>⟨h1,h2,fun h hh=>.inl hh,fun h hh=>hh,fun _ row hr=>(by cases hr),fun h=>by simp[c6]at h,fun h=>by simp only[c6];omega,fun h _=>h⟩
 |r::rows,al0,h1,h2=>by
  simp only[c6]
  by_cases hm:aU vars r ts∈l\/aU vars r ts∈al0
  ·have hG:gvF vars ts l al0 r=(al0,decide (l.length+al0.length<=16384)):=by unfold gvF;rw[if_pos hm]
   rw[hG]
   simp only[decide_eq_true_eq]
   by_cases hle:l.length+al0.length<=16384
   ·rw[if_pos hle]
    have ih:=vF (vars:=vars) (ts:=ts) (l:=l) (rows:=rows) h1 h2
    refine⟨ih.nd,ih.dj,fun h hh=>?_,ih.mono,fun hf row hr=>?_,ih.stop,ih.le,ih.ok⟩
    ·rcases ih.src h hh with e|⟨row,hr,e⟩
     ·exact .inl e
     ·exact .inr ⟨row,by simp[hr],e⟩
    ·rcases F_.1 hr with rfl|hr
     ·exact hm.imp id (ih.mono _)
     ·exact ih.full hf row hr
   ·rw[if_neg hle]
    exact⟨h1,h2,fun h hh=>.inl hh,fun h hh=>hh,fun h=>(by cases h),fun _=>by simp only;omega,fun h=>absurd h hle,fun h=>absurd h hle⟩
  ·have hG:gvF vars ts l al0 r=(al0++[aU vars r ts],decide (l.length+(al0.length+1)<=16384)):=by unfold gvF;rw[if_neg hm]
   rw[hG]
   simp only[decide_eq_true_eq]
   have g1:(al0++[aU vars r ts]).Nodup:=by
    rw[List.nodup_append]
    refine⟨h1,by simp,fun a ha b hb=>?_⟩
    rw[e_]at hb
    subst hb
    rintro rfl
    exact hm (.inr ha)
   have g2:∀h,h∈al0++[aU vars r ts]->h∉l:=fun h hh=>by
    rcases l_.1 hh with hh|hh
    ·exact h2 h hh
    ·rw[e_]at hh;subst hh;exact fun e=>hm (.inl e)
   by_cases hle:l.length+(al0.length+1)<=16384
   ·rw[if_pos hle]
    have ih:=vF (vars:=vars) (ts:=ts) (l:=l) (rows:=rows) g1 g2
    refine⟨ih.nd,ih.dj,fun h hh=>?_,fun h hh=>ih.mono h (by simp[hh]),fun hf row hr=>?_,ih.stop,fun _=>ih.le (by simp;omega),fun _=>ih.ok (by simp;omega)⟩
    ·rcases ih.src h hh with e|⟨row,hr,e⟩
     ·rcases l_.1 e with e|e
      ·exact .inl e
      ·rw[e_]at e;subst e;exact .inr ⟨r,by simp,rfl⟩
     ·exact .inr ⟨row,by simp[hr],e⟩
    ·rcases F_.1 hr with rfl|hr
     ·exact .inr (ih.mono _ (by simp))
     ·exact ih.full hf row hr
   ·rw[if_neg hle]
    refine⟨g1,g2,fun h hh=>?_,fun h hh=>by simp[hh],fun h=>(by cases h),fun _=>by simp only[d_,List.length_singleton];omega,fun h=>by simp only[d_,List.length_singleton];omega,fun _ h=>by cases h⟩
    rcases l_.1 hh with e|e
    ·exact .inl e
    ·rw[e_]at e;subst e;exact .inr ⟨r,by simp,rfl⟩
def GvR (D:GB)(y:Tab)(z:Nat):Prop:=z=D.r\/z=D.v\/z=D.t\/z=D.f\/z=y.b\/z=y.m
def GvP (D:GB)(rl:Rul)(vars:List (List UInt8))(y:Tab)(al:List (List Int))(u:St)(F:Nat->Prop):Prop:=∃g,GvAt u D g rl vars y al/\F=GvF D g al
def GvOk (al:List (List Int)):Prop:=(∀x,x∈al->Sml x)/\al.length<=20000
def ku (vars:List (List UInt8))(row:List Int):Prop:=Sml row/\row.length=vars.length
theorem D3 (D:GB)(hd:Atm)(body:List Atm)(vars:List (List UInt8))(y:Tab)(hyl:∀x,x∈y.l->Sml x)(hvl:vars.length<=100000)(hf:ix vars vars.length hd.ts)(htl:hd.ts.length<=100000)(hnum:∀m,m∈hd.ts->m.var=false->0<=m.n/\m.n<256)(h1:y.l.length<=16384) :
  TellOk 59 [.ptr D.r 0,.ptr D.v 0,.ptr D.t 0,.ptr D.f 0,.ptr D.a 0] (GvR D y) (GvP D ⟨hd,body⟩ vars y) (gvF vars hd.ts y.l) GvOk (ku vars):=by
 refine⟨Mz,?_,?_,?_,?_,?_⟩
 ·rintro a t F z ⟨g,h,rfl⟩ (rfl|rfl|⟨hn,rfl⟩)
  ·rw[h.a];simp
  ·rw[h.mf];simp
  ·rw[h.g hn];simp
 ·rintro a t F z ⟨g,h,rfl⟩ (rfl|rfl|rfl|rfl|rfl|rfl)
  ·rw[h.r];simp
  ·rw[h.v];simp
  ·rw[h.t];simp
  ·rw[h.f];simp
  ·rw[h.yo];simp
  ·rw[h.yh];simp
 ·rintro a t u F ⟨g,h,rfl⟩ hk
  refine⟨g,⟨?_,?_,?_,?_,?_,?_,?_,?_,fun hn=>?_,h.ne⟩,rfl⟩
  ·rw[hk _ (.inr (.inl rfl))];exact h.r
  ·rw[hk _ (.inr (.inr (.inl rfl)))];exact h.v
  ·rw[hk _ (.inr (.inr (.inr (.inl rfl))))];exact h.t
  ·rw[hk _ (.inr (.inr (.inr (.inr (.inl rfl)))))];exact h.f
  ·rw[hk _ (.inr (.inr (.inr (.inr (.inr (.inl rfl))))))];exact h.yo
  ·rw[hk _ (.inr (.inr (.inr (.inr (.inr (.inr rfl))))))];exact h.yh
  ·rw[hk _ (.inl (.inl rfl))];exact h.a
  ·rw[hk _ (.inl (.inr (.inl rfl)))];exact h.mf
  ·rw[hk _ (.inl (.inr (.inr ⟨hn,rfl⟩)))];exact h.g hn
 ·rintro a r ⟨ho1,ho2⟩ ⟨hg1,hg2⟩ h2
  unfold gvF at h2 ⊢
  split
  ·exact⟨ho1,ho2⟩
  ·rename_i hm
   rw[if_neg hm]at h2
   simp only[decide_eq_true_eq]at h2
   refine⟨fun x hx=>?_,by simp only[d_,List.length_singleton];omega⟩
   rcases l_.1 hx with hx|hx
   ·exact ho1 x hx
   ·rw[e_]at hx
    subst hx
    exact fH hg1 (by rw[hg2];exact hf) htl hnum
 ·rintro a t F r ⟨g,h,rfl⟩ ⟨ho1,ho2⟩ ⟨hg1,hg2⟩
  refine SCalls.mono (MO t D g hd body vars y a r h ho1 hyl hg1 hg2 hvl hf htl hnum (by omega) (by omega)) ?_
  rintro w s ⟨u',rfl,rfl,g',q1,q2,q3⟩
  exact⟨_,rfl,rfl,GvF D g' _,⟨g',q1,rfl⟩,q3,q2⟩
end Go.Proofs.YteldpmgepfaiiaaGreatDoor
