/- Walks of functions that the claim reaches, and plain facts of them. Conditions: those in the statements. -/
import Derived.Test.YtohnaepcgnbaiaaGreatDoorJkEnj
import Derived.Test.YtohnaepcgnbaiaaGreatDoorJkSdj
import Derived.Test.YtohnaepcgnbaiaaGreatDoorJkEdj
set_option linter.unusedSimpArgs false
set_option linter.unusedVariables false
set_option maxRecDepth 100000
namespace Go.Proofs.YtohnaepcgnbaiaaGreatDoor
open Go.RowKit
attribute [-go_sem] bJ cX bH bG aT cU cT
section
variable {s u : St} {K K' : OB} {x m m' q c n B N N2 b : Nat} {ns ns' : List Tr} {ds : List (List UInt8 × Nat)} {o : List (List Nat)} {f g : (Nat -> Bool) -> Bool} {xs : List VV} {y : Cell}
theorem RMem.rel (h:RMem u K x m q c n B ns ds o)(hb:u b=.obj 30 xs):¬ kF K x m b/\b≠q/\b≠c:=by
 refine⟨?_,(fun e=>by have:=h.C.qo;rw[<- e,hb]at this;cases this),(fun e=>by have:=h.C.co;rw[<- e,hb]at this;cases this)⟩
 rintro(e|e|e)
 ·exact h.C.om.types hb (by decide) (by decide) (by decide) e
 ·obtain⟨y,hy⟩:=h.xf
  rw[e,hy]at hb;cases hb
 ·rcases h.sp with ⟨e1,hy⟩|⟨me,_,hy,_⟩
  ·rw[e,e1,hy]at hb;cases hb
  ·rw[e,hy]at hb;cases hb
theorem RMem.set (h:RMem u K x m q c n B ns ds o)(hb:u b=.obj 30 xs):RMem (u.set b y) K x m q c n B ns ds o:=by
 obtain⟨h1,h2,h3⟩:=h.rel hb
 have k:∀z,kF K x m z->(u.set b y) z=u z:=fun z hz=>j_ _ _ fun e=>h1 (e ▸ hz)
 refine⟨⟨h.C.om.keep fun z hz=>k z (.inl hz),(j_ _ _ fun e=>h2 e.symm).trans h.C.qo,(j_ _ _ fun e=>h3 e.symm).trans h.C.co⟩,?_⟩
 rcases h.sp with ⟨e,e1⟩|⟨me,e1,e2,e3⟩
 ·exact .inl ⟨e,(k x (.inr (.inl rfl))).trans e1⟩
 ·exact .inr ⟨me,(k x (.inr (.inl rfl))).trans e1,(k m (.inr (.inr rfl))).trans e2,e3⟩
theorem RelR.set (h:RelR s K x m q c n B ns ds o N f (u,K',m',ns'))(hb:u b=.obj 30 xs)(hs:s b=.free):RelR s K x m q c n B ns ds o N f (u.set b y,K',m',ns'):=
 ⟨h.M.set hb,h.pre,h.mem,h.cnt,⟨h.k.p,h.k.q,h.k.o,h.k.nw,fun z hz hn=>(j_ _ _ fun e=>hz (by rw[e];exact hs)).trans (h.k.out z hz hn)⟩⟩
end
set_option maxHeartbeats 8000000 in
theorem Fm {s:St}{KK:OB}{x m q c n B N:Nat}{ns:List Tr}{ds:List (List UInt8×Nat)}{o:List (List Nat)}(hn64:n<=64)(hM:RMem s KK x m q c n B ns ds o)(hD:DOk n ds o)(A:List (List UInt8))(o1:Own)(D:List Nat)(o2:Own)(hR:Rel4 ds o A D)(T:List (List Nat))(TC:List (List VV))(o3:Own)
  (hT:∀t,t∈T->t.length=D.length/\∀v,v∈t->v<4) (hTC:∀(i:Nat) (t:List Nat),T[i]?=some t->∃oi,TC[i]?=some [.lst (ak t) oi]) (hTl:TC.length=T.length) (hT8:T.length<=1000000)
  (hc:CntN ns N) (hB:N+T.length * (2 * D.length+2 ^ (2 * D.length))<=B) :
  SCalls Tryz.prog 19 [.ptr x 0,.lst (az A) o1,.lst (ak D) o2,.lst TC o3] s fun w u=>∃a:gI,w=.ret (.tup [.agg [.lst (az A) .no,.lst (ak D) .no,.int .i64 (ixF n a.2.2.2 (orK o D T):Nat)],.int .i64 0])/\u=a.1/\RelR s KK x m q c n B ns ds o (N+T.length * (2 * D.length+2 ^ (2 * D.length))) (orK o D T) a:=by
 obtain⟨R,hRe⟩:∃R,R=2 * D.length+2 ^ (2 * D.length):=⟨_,rfl⟩
 rw[<- hRe]at hB ⊢
 have hl8:=hR.l8
 have hvl:=hR.d4.vl
 have hlt:=hR.d4.lt
 have hvn:=aJ hD hlt
 have hor0:orK o D []=fun _=>false:=by funext y;simp[orK]
 have hdep:∀i,DepF (aj o D) (orK o D (T.take i)):=fun i=>(qj fun t ht=>(hT t (List.take_subset _ _ ht)).1).dep
 have c0:=hM.C.om.c0.1
 have wcs:=fun u=>iA u A o1 (by have:=hR.ln;omega)
 have wcn:=fun u=>pt u D o2 (by omega)
 have wm:=fun(u:St) (hu:∀z,s z≠.free->u z=s z)=>po hn64 (hM.more hu) hD [[.lst (az A) .no,.lst (ak D) .no,.int .i64 0]] .full (fun z hz=>by
  rw[a_]at hz
  refine⟨⟨A,D,treeT n fun _=>false⟩,.no,.no,?_,hR.ok hD (fun _ _ _=>rfl) c0.1⟩
  have e0:((ixN ns (treeT n fun _=>false):Nat):Int)=0:=by
   have:=c0.2
   unfold ixF at this
   rw[this];rfl
  rw[hz,relC]
  dsimp only
  rw[e0]) (by simp)
 have wtu:=fun(u:St) (K':OB) (ns':List Tr) (N':Nat) (t:List Nat) (oi:Own) (ht:t∈T) (hC:CMem u K' q c n B ns' ds o) (hc':CntN ns' N') (hB':N'+2 * D.length<=B)=>show OpFC 52 [.ptr c 0,.lst (ak D) o2,.lst (ak t) oi] u K' n B ns' (N'+2 * D.length) (gZ o D t) from by
  have w:=tY hC hD D t o2 oi hlt (by omega) hR.nd (hT t ht).1 (fun i k v y h1 h2 h3=>by
   obtain⟨nm,e⟩:=(hR.d4 k (y_ h1)).1
   rw[e]at h3
   injection h3 with h3
   rw[<- h3]
   exact(hT t ht).2 v (y_ h2)) hc' (by rw[hvl];exact hB')
  rw[hvl]at w
  exact w
 have wor:=fun(u:St) (K':OB) (ns':List Tr) (N' i:Nat) (t:List Nat) (ht:T[i]?=some t) (hO:OMem u K' n B ns') (m1:treeT n (orK o D (T.take i))∈ns') (m2:treeT n (gZ o D t)∈ns') (hc':CntN ns' N') (hB':N'+2 ^ (2 * D.length)<=B)=>
  show OpFC 49 [.ptr K'.o 0,.int .i64 (ixF n ns' (orK o D (T.take i)):Nat),.int .i64 (ixF n ns' (gZ o D t):Nat)] u K' n B ns' (N'+2 ^ (2 * D.length)) (orK o D (T.take (i+1))) from by
  have e:(fun y=>orK o D (T.take i) y || gZ o D t y)=orK o D (T.take (i+1)):=by rw[Ex,List.take_add_one,ht];rfl
  have w:=Ca hO ((hdep i).hang hvn) ((zB o).hang hvn) m1 m2 hc' (by rw[e];exact(di hvn (hdep (i+1)) (by rw[hvl];exact Nat.le_refl _)).mono (Nat.sub_le _ _)) hB'
  rw[e]at w
  exact w
 have hI0:∀(u:St) (m':Nat),RMem u KK x m' q c n B ns ds o->RKeep s u KK KK x m m'->RelR s KK x m q c n B ns ds o (N+0 * R) (orK o D (T.take 0)) (u,KK,m',ns):=fun u m' h1 h2=>by
  rw[List.take_zero,hor0]
  exact .win h1 h2 c0.1 (by simpa using hc)
 have hk0:ixF n ns (orK o D (T.take 0))=0:=by rw[List.take_zero,hor0];exact c0.2
 have WM:=o_ wm
 have WTU:=o_ wtu
 have WOR:=o_ wor
 have HI0:=o_ hI0
 have HTC:=o_ hTC
 have HM:=o_ hM
 have HC:=o_ hc
 have HRE:=o_ hRe
 have WCS:=o_ wcs
 have WCN:=o_ wcn
 clear wm wtu wor hI0 hTC hM hdep hor0 c0 hR hT hvl hvn hlt hc wcs wcn
 generalize az A=SA at *
 generalize hSV:ak D=V at *
 have HSV:=o_ hSV
 clear hSV
 refine am Tryz.func19 rfl Tryz.ntmps19 rfl fun Q hQ hQe=>?_
 (repeat'(first|refine Ctl ?_|((with_reducible refine k_ hK ?_);clear hK hE K E)|((first|(with_reducible first|refine ab fun K E hK hE=>?_|refine ae lV (WCS.out _) ?_|refine ae ft (WCN.out _) ?_)|((with_reducible refine au (fun b hb=>?_));(repeat(obtain⟨_,hb⟩:=hb))))<;>(try simp(disch:=omega) only[go_sem,seval, *]))))
 rename_i b8 hb8 nba nab
 obtain⟨b0,hb0e⟩:∃z,z=b:=⟨_,rfl⟩
 subst hb0e
 have hb0:s b0=.free:=hb
 obtain⟨u0,hu0⟩:∃u,u=(s.set b8 (.obj 30 [.lst [] .full,.lst [] .full,.int .i64 0])).set b0 (.obj 30 [.lst SA .no,.lst V .no,.int .i64 0]):=⟨_,rfl⟩
 rw[<- hu0]
 have g0:∀z,s z≠.free->u0 z=s z:=fun z hz=>by rw[hu0,j_ _ _ (nef hb0 hz).1,j_ _ _ (nef hb8 hz).1]
 have k0:u0 b0=.obj 30 [.lst SA .no,.lst V .no,.int .i64 0]:=by rw[hu0,q_]
 have k8:u0 b8=.obj 30 [.lst [] .full,.lst [] .full,.int .i64 0]:=by rw[hu0,j_ _ _ (by assumption),q_]
 have wm:=WM.out u0 g0
 have G0:=o_ g0
 have HB0:=o_ (And.intro hb0 hb8)
 clear hu0 hb g0 WM hb0 hb8 WCS WCN
 refine ao oY wm (fun a h=>?_)
 obtain⟨u1,m1⟩:=a
 obtain⟨M1,K1⟩:=h
 dsimp only at M1 K1 ⊢
 have R1:=HI0.out u1 m1 M1 ((RKeep.new G0.out).trans K1)
 have R1':=RelR.win (n:=n) (N:=N) (f:=fun _=>false) M1 K1 (HM.out.C.om.c0.1.1) HC.out
 have j0:=R1'.own (HM.out.more G0.out) k0 (by decide) (by decide) (by decide) (by decide)
 have j8:=R1'.own (HM.out.more G0.out) k8 (by decide) (by decide) (by decide) (by decide)
 dsimp only at j0 j8
 have HR1:=o_ R1
 clear wm M1 K1 R1 R1' k0 k8 HI0 G0
 simp only[go_sem,seval]
 (repeat'(first|refine Ctl ?_|((with_reducible refine k_ hK ?_);clear hK hE K E)|((with_reducible refine ah (fun h=>?_) (fun h=>?_))<;>(try(exfalso;assumption)))|(((with_reducible refine ab fun K E hK hE=>?_))<;>(try simp(disch:=omega) only[go_sem,seval,hTl, *]))))
 refine aY (fun fu env s'=>∃(i:Nat) (K':OB) (m':Nat) (ns':List Tr),i<=T.length/\fu+i=T.length/\Hid (RelR s KK x m q c n B ns ds o (N+i * R) (orK o D (T.take i)) (s',K',m',ns'))/\s' b0=.obj 30 [.lst SA .no,.lst V .no,.int .i64 ((ixF n ns' (orK o D (T.take i)):Nat):Int)]/\s' b8=.obj 30 [.lst [] .full,.lst [] .full,.int .i64 0]/\env 0=.ptr x 0/\env 2=.lst V o2/\env 8=.ptr b8 0/\env 10=.ptr b0 0/\env 26=.lst TC o3/\env 27=.int .i64 T.length/\env 28=.int .i64 i) T.length
  ⟨0,KK,m1,ns,by omega,by omega,HR1,by rw[hk0];exact j0,j8,ac,ac,ac,ac,ac,ac,ac⟩ ?_
 clear HR1 j0 j8 hk0
 rintro fu env s' ⟨i,K',m',ns',hi,hmi,HI,k0,k8,e0,e2,e8,e10,e26,e27,e28⟩
 by_cases h2:i<T.length
 ·obtain⟨t,ht⟩:∃t,T[i]?=some t:=⟨_,m_ h2⟩
  obtain⟨oi,hv⟩:=HTC.out _ _ ht
  have hN:N+i * R+R<=B:=by
   have:=Nat.mul_le_mul_right R (show i+1<=T.length by omega)
   rw[Nat.add_mul,Nat.one_mul]at this
   omega
  have hI:=HI.out
  have hRR:2 * D.length+2 ^ (2 * D.length)=R:=HRE.out.symm
  have hR2:2 * D.length<=R:=by rw[HRE.out];exact Nat.le_add_right _ _
  obtain⟨a1,hx⟩:=hI.M.xf
  unfold spC at hx
  have wt:=WTU.out s' K' ns' _ t oi (y_ ht) hI.M.C hI.cnt (by omega)
  have HN:=o_ hN
  have HTT:=o_ ht
  have HRR:=o_ hRR
  unfold OpFC at wt
  dsimp only at hx
  clear hN hI hRR ht
  generalize szC ds=SZ at *
  (repeat'(first|refine Ctl ?_|((with_reducible refine k_ hK ?_);clear hK hE K E)|((with_reducible refine ah (fun h=>?_) (fun h=>?_))<;>(try(exfalso;assumption)))|(((with_reducible refine ab fun K E hK hE=>?_))<;>(try simp(disch:=omega) only[go_sem,seval,hv, *]))))
  refine ao Qc wt (fun a h=>?_)
  obtain⟨u1,K1,ns1⟩:=a
  have hR1:=HI.out.then (RelR.op HI.out.M h)
  have hsub:=bn h.pre HI.out.mem
  have j0:=(h.k.out b0 (by rw[k0];simp) (HI.out.M.C.om.types k0 (by decide) (by decide) (by decide))).trans k0
  have j8:=(h.k.out b8 (by rw[k8];simp) (HI.out.M.C.om.types k8 (by decide) (by decide) (by decide))).trans k8
  have wo:=WOR.out u1 K1 ns1 _ i t HTT.out hR1.M.C.om hsub.1 h.mem hR1.cnt (by have:=HN.out;have:=HRR.out;omega)
  have e1:ixF n ns1 (orK o D (T.take i))=ixF n ns' (orK o D (T.take i)):=hsub.2
  rw[e1]at wo
  have wq:=dD u1 q K1.o K1.s.p hR1.M.C.qo
  obtain⟨a2,hx1⟩:=hR1.M.xf
  unfold spC at hx1
  have HR1:=o_ hR1
  unfold OpFC at wo
  dsimp only at hx1 j0 j8 ⊢
  clear h hR1 hsub wt e1 k0 k8 hx
  generalize szC ds=SZ at *
  generalize ixF n ns' (orK o D (T.take i))=ki at *
  generalize ixF n ns1 (gZ o D t)=kt at *
  simp only[go_sem,seval]
  (repeat'(first|refine Ctl ?_|(with_reducible first|(refine k_ hK ?_;clear hK hE K E)|(refine k_ hKh ?_;clear hKh Kh)|(refine k_ hKb (aC ?_);clear hKb Kb)|refine ax 9 [([0,1,2,3,5,6,7],4,[[5,6,7]]),([],8,[[],[]]),([9,10,11,12],13,[[11],[],[]])] [14] hQe fun K E hK hE=>?_)|((with_reducible refine ah (fun h=>?_) (fun h=>?_))<;>(try(exfalso;assumption)))|(((with_reducible first|refine ab fun K E hK hE=>?_|refine ae dK (wq) ?_|refine ay fun Kh hKh=>?_|refine aB fun Kb hKb=>?_))<;>(try simp(disch:=omega) only[go_sem,seval, *]))))
  refine ao xH wo (fun a h=>?_)
  obtain⟨u2,K2,ns2⟩:=a
  have hR3:=HR1.out.then (RelR.op HR1.out.M h)
  have l0:=(h.k.out b0 (by rw[j0];simp) (HR1.out.M.C.om.types j0 (by decide) (by decide) (by decide))).trans j0
  have l8:=(h.k.out b8 (by rw[j8];simp) (HR1.out.M.C.om.types j8 (by decide) (by decide) (by decide))).trans j8
  dsimp only at l0 l8 ⊢
  have HF:=o_ fun y=>((hR3.set (y:=y) l0 HB0.out.1).mono (N2:=N+(i+1) * R) (by have:=HRR.out;rw[Nat.add_mul,Nat.one_mul];omega))
  have n80:b8≠b0:=by assumption
  clear h hR3 wo wq j0 j8 hx1
  generalize hkn:ixF n ns2 (orK o D (T.take (i+1)))=kn at *
  have HKN:=o_ hkn
  clear hkn
  simp only[go_sem,seval,l0]
  (repeat'(first|refine Ctl ?_|(with_reducible first|(refine k_ hK ?_;clear hK hE K E)|(refine k_ hKh ?_;clear hKh Kh)|(refine k_ hKb (aC ?_);clear hKb Kb))|((with_reducible refine ah (fun h=>?_) (fun h=>?_))<;>(try(exfalso;assumption)))|(((with_reducible first|refine ab fun K E hK hE=>?_|refine ay fun Kh hKh=>?_|refine aG fun Kh hKh=>?_|refine aB fun Kb hKb=>?_))<;>(try simp(disch:=omega) only[go_sem,seval, *]))))
  all_goals exact⟨fu - 1,by omega,i+1,K2,m',ns2,by omega,by omega,o_ (HF.out _),by rw[HKN.out];exact q_ _ _ _,(j_ _ _ n80).trans l8,ac,ac,ac,ac,ac,ac,ac⟩
 ·have hin:i=T.length:=by omega
  have h1:=HI.out
  rw[hin,b_]at h1 k0
  have HF:=o_ fun y=>h1.set (y:=y) k8 HB0.out.2
  clear h1
  generalize hkn:ixF n ns' (orK o D T)=kn at *
  have HKN:=o_ hkn
  clear hkn
  (repeat'(first|refine Ctl ?_|((with_reducible refine k_ hK ?_);clear hK hE K E)|((with_reducible refine ah (fun h=>?_) (fun h=>?_))<;>(try(exfalso;omega)))|(((with_reducible refine ab fun K E hK hE=>?_))<;>(try simp(disch:=omega) only[go_sem,seval, *]))))
  all_goals(refine aq Gs hQ ?_)
  all_goals exact⟨_,_,Wk.refl _,Fg.refl _,(_,K',m',ns'),congrArg (fun z:Nat=>SEnd.ret (.tup [.agg [.lst SA .no,.lst V .no,.int .i64 (z:Int)],.int .i64 0])) HKN.out.symm,rfl,HF.out _⟩
end Go.Proofs.YtohnaepcgnbaiaaGreatDoor
namespace Go.Proofs.YtohnaepcgnbaiaaGreatDoor
open Go.RowKit
attribute [-go_sem] bJ cX bH bG aT cU cT
abbrev mvL (D:List Nat)(k d:Nat):List VV:=List.take (k * 1) (D.map fun(k:Nat)=>VV.int .i64 (k:Int))++[VV.int .i64 (d:Int)]++List.drop (k * 1+1) (D.map fun(k:Nat)=>VV.int .i64 (k:Int))
theorem mG {D:List Nat}{k d:Nat}(h:k<D.length):(mvL D k d).length=D.length:=by
 simp;omega
theorem rp {D:List Nat}{k d:Nat}(h:k<D.length):(mvL D k d).map (fun y=>[y])=ak (D.set k d):=by
 rw[List.set_eq_take_append_cons_drop,if_pos h,ak]
 simp[List.map_take,List.map_drop,Function.comp_def]
theorem RelR.fin {s u2:St}{K K':OB}{x m m' q c n B N:Nat}{ns ns':List Tr}{ds:List (List UInt8×Nat)}{o:List (List Nat)}{f:(Nat->Bool)->Bool}{b:Nat}{xs:List VV}(h:RelR s K x m q c n B ns ds o N f (u2,K',m',ns'))(hb:u2 b=.obj 30 xs)(hs:s b=.free){u':St}(hu:∀z,u2 z≠.free->¬ z=b->u' z=u2 z):RelR s K x m q c n B ns ds o N f (u',K',m',ns'):=by
 refine(h.set (y:=u' b) hb hs).new fun z hz=>?_
 by_cases e:z=b
 ·subst e;exact(q_ _ _ _).symm
 ·dsimp only at hz ⊢
  rw[j_ _ _ e]at hz ⊢
  exact hu z hz e
set_option maxHeartbeats 8000000 in
theorem Fl {s:St}{KK:OB}{x m q c n B N:Nat}{ns:List Tr}{ds:List (List UInt8×Nat)}{o:List (List Nat)}(hn64:n<=64)(hM:RMem s KK x m q c n B ns ds o)(hD:DOk n ds o){f:(Nat->Bool)->Bool}(A:List (List UInt8))(o1:Own)(D:List Nat)(o2:Own)(hR:Rel4 ds o A D)(hf:DepF (aj o D) f)(mf:treeT n f∈ns)
  (attr:List UInt8) (k d0 d1:Nat) (hix:ixA attr A=(k:Int)) (hk:D[k]?=some d0) (h1:Dom4 ds o [d1]) (hne:d0≠d1->d1∉D) (hc:CntN ns N) (hB:N+((aj o D).length+2) * 2 ^ (aj o D).length<=B) :
  SCalls Tryz.prog 10 [.ptr x 0,.agg [.lst (az A) o1,.lst (ak D) o2,.int .i64 (ixF n ns f:Nat)],.str attr,.int .i64 (d1:Int)] s fun w u=>∃a:gI,w=.ret (.tup [.agg [.lst (az A) .no,.lst (ak (D.set k d1)) .no,.int .i64 (ixF n a.2.2.2 (rnF (aX (aj o [d0]) (aj o [d1])) f):Nat)],.int .i64 0])/\u=a.1/\RelR s KK x m q c n B ns ds o (N+((aj o D).length+2) * 2 ^ (aj o D).length) (rnF (aX (aj o [d0]) (aj o [d1])) f) a:=by
 have hl8:=hR.l8
 have hlt:=hR.d4.lt
 have hd0:=y_ hk
 have h1l:=h1.lt d1 (by simp)
 have wm:=fun(u:St) (hu:∀z,s z≠.free->u z=s z)=>po hn64 (hM.more hu) hD [[.lst (az A) o1,.lst (ak D) o2,.int .i64 ((ixF n ns f:Nat):Int)]] .full (fun z hz=>by
  rw[a_]at hz
  exact⟨⟨A,D,treeT n f⟩,o1,o2,hz,hR.ok hD hf mf⟩) (by simp)
 have wix:=fun u=>xW A o1 attr (by have:=hR.nm.2.2;omega) u
 rw[hix]at wix
 have wct:=fun u=>rR D o2 d1 (by omega) u
 have wtu:=fun(u:St) (m':Nat) (h:RMem u KK x m' q c n B ns ds o)=>vP h hD [d0] [d1] .full .full hf (aJ hD hlt) mf (fun k hk=>by rw[a_]at hk;rw[hk];exact hlt _ hd0) (h1.lt) (by simp) (by simp) (by simp) (by simp) (by
  have a1:Dom4 ds o [d0]:=fun k hk=>by rw[a_]at hk;rw[hk];exact hR.d4 _ hd0
  rw[h1.vl,a1.vl];rfl) hc hB
 have wcs:=fun u=>iA u A o1 (by have:=hR.nm.2.2;omega)
 have wcm:=fun u=>lF u D o2 (fun e=>by rw[e]at hd0;cases hd0) (by omega)
 have hs0:(szC ds)[d0]?=some [.int .i64 4]:=by obtain⟨nm,e⟩:=(hR.d4 _ hd0).1;exact kT e
 have hs1:(szC ds)[d1]?=some [.int .i64 4]:=by obtain⟨nm,e⟩:=(h1 d1 (by simp)).1;exact kT e
 have hszl:(szC ds).length=ds.length:=by simp[szC]
 have hkk:=aH hk
 have c1:¬ (d1:Int)<0:=by omega
 have c2:¬ (d1:Int)>=(ds.length:Int):=by omega
 have c3:¬ (k:Int)<0:=by omega
 have WM:=o_ wm
 have WIX:=o_ wix
 have WCT:=o_ wct
 have WTU:=o_ wtu
 have WCS:=o_ wcs
 have WCM:=o_ wcm
 have HM:=o_ hM
 have HMF:=o_ mf
 have HC:=o_ hc
 have hdec:d0≠d1->decide (d1∈D)=false:=fun h=>decide_eq_false (hne h)
 have HDEC:=o_ hdec
 have HKK:=o_ hk
 clear wm wix wct wtu wcs wcm hR hf mf hc hl8 hM h1 hlt hd0 h1l hne hdec hk hB hix
 generalize hkf:ixF n ns f=kf at *
 have HKF:=o_ hkf
 clear hkf
 generalize az A=SA at *
 generalize ak D=V at *
 generalize hSZ:szC ds=SZ at *
 have HSZ:=o_ hSZ
 clear hSZ
 refine SCalls.frz2 ?_
 refine am Tryz.func10 rfl Tryz.ntmps10 rfl fun Q hQ hQe=>?_
 (repeat'(first|refine Ctl ?_|((with_reducible refine k_ hK ?_);clear hK hE K E)|((first|(with_reducible refine ab fun K E hK hE=>?_)|((with_reducible refine au (fun b hb=>?_));(repeat(obtain⟨_,hb⟩:=hb))))<;>(try simp(disch:=omega) only[go_sem,seval, *]))))
 rename_i b5 hb5 nba nab
 obtain⟨b8,hb8e⟩:∃z,z=b:=⟨_,rfl⟩
 subst hb8e
 have hb8:s b8=.free:=hb
 obtain⟨u0,hu0⟩:∃u,u=(s.set b5 (.obj 30 [.lst SA o1,.lst V o2,.int .i64 (kf:Int)])).set b8 (.obj 30 [.lst [] .full,.lst [] .full,.int .i64 0]):=⟨_,rfl⟩
 rw[<- hu0]
 have g0:∀z,s z≠.free->u0 z=s z:=fun z hz=>by rw[hu0,j_ _ _ (nef hb8 hz).1,j_ _ _ (nef hb5 hz).1]
 have k5:u0 b5=.obj 30 [.lst SA o1,.lst V o2,.int .i64 (kf:Int)]:=by rw[hu0,j_ _ _ (by assumption),q_]
 have k8:u0 b8=.obj 30 [.lst [] .full,.lst [] .full,.int .i64 0]:=by rw[hu0,q_]
 have wm:=WM.out u0 g0
 have G0:=o_ g0
 have HB8:=o_ hb8
 clear hu0 hb g0 WM hb5 hb8
 refine ao oY wm (fun a h=>?_)
 obtain⟨u1,m1⟩:=a
 obtain⟨M1,K1⟩:=h
 dsimp only at M1 K1 ⊢
 have R1:=RelR.win M1 K1 HMF.out HC.out
 have j5:=R1.own (HM.out.more G0.out) k5 (by decide) (by decide) (by decide) (by decide)
 have j8:=R1.own (HM.out.more G0.out) k8 (by decide) (by decide) (by decide) (by decide)
 have R2:RelR s KK x m q c n B ns ds o N f (u1,KK,m1,ns):=(RelR.win (HM.out.more G0.out) (.new G0.out) HMF.out HC.out).then R1
 dsimp only at j5 j8
 obtain⟨a1,hx⟩:=M1.xf
 unfold spC at hx
 rw[HSZ.out]at hx
 have wix:=WIX.out u1
 have wct:=WCT.out u1
 have wt:=WTU.out u1 m1 M1
 have HR2:=o_ R2
 have HM1:=o_ M1
 clear wm M1 K1 R1 R2 k5 k8 WIX WCT WTU
 rw[show ak [d0]=[[.int .i64 (d0:Int)]] from rfl,show ak [d1]=[[.int .i64 (d1:Int)]] from rfl]at wt
 unfold OpFC at wt
 by_cases e:d0=d1
 ·subst e
  clear wct hs1
  simp only[go_sem,seval]
  (repeat'(first|refine Ctl ?_|(with_reducible first|(refine k_ hK ?_;clear hK hE K E)|(refine k_ hKh ?_;clear hKh Kh)|(refine k_ hKb (aC ?_);clear hKb Kb)|refine ax 4 [([0,1,2,3,4,5,6,7,8,9,10,11,12,13],14,[[]])] [15,16,17,18,19,20,21,22,23,24,25,26,27,28,29,30,31,32,33,34,35,36,37] hQe fun K E hK hE=>?_|refine ax 6 [([0,1,2,3,4,5,6,7,8,9,10],11,[[]])] [12,13,14,15,16] hQe fun K E hK hE=>?_)|((with_reducible refine ah (fun h=>?_) (fun h=>?_))<;>(try(exfalso;assumption)))|((first|(with_reducible first|refine ab fun K E hK hE=>?_|refine ae kB (wix) ?_|refine ay fun Kh hKh=>?_|refine aG fun Kh hKh=>?_|refine aB fun Kb hKb=>?_)|((with_reducible refine pH (fun h=>?_) (fun h=>?_))<;>(try(exfalso;omega))))<;>(try simp(disch:=omega) only[go_sem,seval,hszl,hkk,hs0,c1,c2,c3, *]))))
  clear wix
  refine ao xJ wt (fun a h=>?_)
  obtain⟨u2,K2,ns2⟩:=a
  have R3:=HR2.out.then (RelR.op HM1.out h)
  have l5:=(h.k.out b5 (by rw[j5];simp) (HM1.out.C.om.types j5 (by decide) (by decide) (by decide))).trans j5
  have l8:=(h.k.out b8 (by rw[j8];simp) (HM1.out.C.om.types j8 (by decide) (by decide) (by decide))).trans j8
  have HR3:=o_ R3
  have HL8:=o_ l8
  dsimp only at l5 l8 HR3 HL8 ⊢
  have hl5:u2 b5≠.free:=by rw[l5];simp
  have hl8:u2 b8≠.free:=by rw[l8];simp
  have hkD:k<D.length:=(x_.1 HKK.out).1
  have hDl:(D.map fun(k:Nat)=>VV.int .i64 (k:Int)).length=D.length:=z_ _
  clear h wt R3 j5 j8 hx
  generalize hkn:ixF n ns2 (rnF (aX (aj o [d0]) (aj o [d0])) f)=kn at *
  have HKN:=o_ hkn
  clear hkn
  simp only[go_sem,seval]
  (repeat'(first|refine Ctl ?_|(with_reducible first|(refine k_ hK ?_;clear hK hE K E)|(refine k_ hKh ?_;clear hKh Kh)|(refine k_ hKb (aC ?_);clear hKb Kb)|refine rQ 9 (.two [0,1,3,4,6] 2 [[3,4,6]] (.two [] 5 [[],[6]] (.one [7] 8 [[7],[],[6]] (.one [] 9 [[],[],[],[]] (.fin []))) 8 [[],[3,4,6]] (.one [] 5 [[],[],[6]] (.one [7] 9 [[],[],[],[]] (.fin [])))) 8 [[0,1,3,4,6]] (.one [] 2 [[],[3,4,6]] (.one [] 5 [[],[],[6]] (.one [7] 9 [[],[],[],[]] (.fin []))))) hQe fun K E hK hE=>?_)|((with_reducible refine ah (fun h=>?_) (fun h=>?_))<;>(try(exfalso;assumption)))|((first|(with_reducible first|refine ab fun K E hK hE=>?_|refine ae lV (WCS.out _) ?_|refine aG fun Kh hKh=>?_|refine aB fun Kb hKb=>?_|refine dA fun Kh hKh=>?_|refine xP fun Kh hKh=>?_|refine rK (fun Kb hKb=>?_) (fun Kb hKb=>?_))|((with_reducible refine au (fun b hb=>?_));(try(obtain⟨_,_⟩:=nef hb hl5;obtain⟨_,_⟩:=nef hb hl8))))<;>(try simp(disch:=omega) only[go_sem,seval, *]))))
  ·refine ao ft (WCM.out _) (fun a h=>?_)
   obtain⟨u3,g⟩:=a
   obtain⟨hgf,hu3⟩:=h
   dsimp only at hgf hu3 ⊢
   have f3:∀z,u2 z≠.free->u3 z=u2 z:=fun z hz=>by rw[hu3,j_ _ _ (nef hgf hz).1]
   have p5:=(f3 b5 hl5).trans l5
   have p8:=(f3 b8 hl8).trans l8
   have pg:u3 g=.row 3 1 (D.map fun(k:Nat)=>.int .i64 (k:Int)):=by rw[hu3,q_]
   have hp5:u3 b5≠.free:=by rw[p5];simp
   have hp8:u3 b8≠.free:=by rw[p8];simp
   have hpg:u3 g≠.free:=by rw[pg];simp
   have n8g:¬ b8=g:=fun e=>by rw[e,pg]at p8;cases p8
   have HF3:=o_ (And.intro f3 hgf)
   clear hu3 l5 l8 hl5 hl8 f3 hgf
   simp only[go_sem,seval]
   (repeat'(first|refine Ctl ?_|(with_reducible first|(refine k_ hK ?_;clear hK hE K E)|(refine k_ hKh ?_;clear hKh Kh)|(refine k_ hKb (aC ?_);clear hKb Kb))|((first|(with_reducible first|refine ab fun K E hK hE=>?_|refine dP ?_|refine aB fun Kb hKb=>?_|refine dA fun Kh hKh=>?_|refine ph fun Kh hKh=>?_)|((with_reducible refine au (fun b hb=>?_));(try(obtain⟨_,_⟩:=nef hb hp5;obtain⟨_,_⟩:=nef hb hp8;obtain⟨_,_⟩:=nef hb hpg))))<;>(try simp(disch:=omega) only[go_sem,seval,hkk,hDl, *]))))
   have hbf:u3 b=.free:=hb
   all_goals(refine aq sH hQ ?_)
   all_goals refine⟨_,_,Wk.refl _,Fg.refl _,_,_,_,g,D.length,3,mvL D k d0,rfl,?_,mG hkD,(St.set _ g .free,K2,m1,ns2),?_,rfl,?_⟩
   ·rw[j_ _ _ (fun e=>n8g e.symm)];exact q_ _ _ _
   ·rw[HKN.out,rp hkD]
   ·refine HR3.out.fin HL8.out HB8.out fun z hz hne=>?_
    have a1:=(nef HF3.out.2 hz).1
    have a2:=(nef hbf (by rw[HF3.out.1 z hz];exact hz)).1
    rw[j_ _ _ a1,j_ _ _ hne,j_ _ _ a1,j_ _ _ a2]
    exact HF3.out.1 z hz
  all_goals refine ao ft (WCM.out _) (fun a h=>?_)
  all_goals obtain⟨u3,g⟩:=a
  all_goals obtain⟨hgf,hu3⟩:=h
  all_goals dsimp only at hgf hu3 ⊢
  all_goals have hbf:u2 b=.free:=hb
  all_goals have hgb:¬ g=b:=fun e=>by rw[e,q_]at hgf;cases hgf
  all_goals have hgf2:u2 g=.free:=by rw[j_ _ _ hgb]at hgf;exact hgf
  all_goals have f3:∀z,u2 z≠.free->u3 z=u2 z:=fun z hz=>by rw[hu3,j_ _ _ (nef hgf2 hz).1,j_ _ _ (nef hbf hz).1]
  all_goals have p5:=(f3 b5 hl5).trans l5
  all_goals have p8:=(f3 b8 hl8).trans l8
  all_goals have pg:u3 g=.row 3 1 (D.map fun(k:Nat)=>.int .i64 (k:Int)):=by rw[hu3,q_]
  all_goals have pb:u3 b=.obj 30 [.lst [] .full,.lst [] .full,.int .i64 0]:=by rw[hu3,j_ _ _ (fun e=>hgb e.symm),q_]
  all_goals have n8g:¬ b8=g:=fun e=>by rw[e,pg]at p8;cases p8
  all_goals have hbg:¬ b=g:=fun e=>hgb e.symm
  all_goals have HF3:=o_ (And.intro f3 hgf2)
  all_goals clear hu3 l5 l8 hl5 hl8 f3 hgf hgf2 hb
  all_goals simp only[go_sem,seval,pb]
  all_goals(repeat'(first|refine Ctl ?_|(with_reducible first|(refine k_ hK ?_;clear hK hE K E)|(refine k_ hKh ?_;clear hKh Kh)|(refine k_ hKb (aC ?_);clear hKb Kb))|(((with_reducible first|refine ab fun K E hK hE=>?_|refine dP ?_|refine aB fun Kb hKb=>?_|refine dA fun Kh hKh=>?_|refine ph fun Kh hKh=>?_))<;>(try simp(disch:=omega) only[go_sem,seval,hkk,hDl, *]))))
  all_goals(refine aq sH hQ ?_)
  all_goals refine⟨_,_,Wk.refl _,Fg.refl _,_,_,_,g,D.length,3,mvL D k d0,rfl,?_,mG hkD,(St.set _ g .free,K2,m1,ns2),?_,rfl,?_⟩
  iterate 2
   ·rw[j_ _ _ (fun e=>n8g e.symm)];exact q_ _ _ _
   ·rw[HKN.out,rp hkD]
   ·refine HR3.out.fin HL8.out HB8.out fun z hz hne=>?_
    have a1:=(nef HF3.out.2 hz).1
    have a2:=(nef hbf hz).1
    rw[j_ _ _ a1,j_ _ _ hne,j_ _ _ a1,j_ _ _ a2]
    exact HF3.out.1 z hz
 ·have e2:¬ (d0:Int)=(d1:Int):=by omega
  rw[HDEC.out e]at wct
  simp only[go_sem,seval]
  (repeat'(first|refine Ctl ?_|(with_reducible first|(refine k_ hK ?_;clear hK hE K E)|(refine k_ hKh ?_;clear hKh Kh)|(refine k_ hKb (aC ?_);clear hKb Kb)|refine ax 4 [([0,1,2,3,4,5,6,7,8,9,10,11,12,13],14,[[]])] [15,16,17,18,19,20,21,22,23,24,25,26,27,28,29,30,31,32,33,34,35,36,37] hQe fun K E hK hE=>?_|refine ax 6 [([0,1,2,3,4,5,6,7,8,9,10],11,[[]])] [12,13,14,15,16] hQe fun K E hK hE=>?_)|((with_reducible refine ah (fun h=>?_) (fun h=>?_))<;>(try(exfalso;assumption)))|((first|(with_reducible first|refine ab fun K E hK hE=>?_|refine ae kB (wix) ?_|refine ae tL (wct) ?_|refine ay fun Kh hKh=>?_|refine aG fun Kh hKh=>?_|refine aB fun Kb hKb=>?_)|((with_reducible refine pH (fun h=>?_) (fun h=>?_))<;>(try(exfalso;omega))))<;>(try simp(disch:=omega) only[go_sem,seval,hszl,hkk,hs0,hs1,c1,c2,c3,e2, *]))))
  clear e2 wix wct
  refine ao xJ wt (fun a h=>?_)
  obtain⟨u2,K2,ns2⟩:=a
  have R3:=HR2.out.then (RelR.op HM1.out h)
  have l5:=(h.k.out b5 (by rw[j5];simp) (HM1.out.C.om.types j5 (by decide) (by decide) (by decide))).trans j5
  have l8:=(h.k.out b8 (by rw[j8];simp) (HM1.out.C.om.types j8 (by decide) (by decide) (by decide))).trans j8
  have HR3:=o_ R3
  have HL8:=o_ l8
  dsimp only at l5 l8 HR3 HL8 ⊢
  have hl5:u2 b5≠.free:=by rw[l5];simp
  have hl8:u2 b8≠.free:=by rw[l8];simp
  have hkD:k<D.length:=(x_.1 HKK.out).1
  have hDl:(D.map fun(k:Nat)=>VV.int .i64 (k:Int)).length=D.length:=z_ _
  clear h wt R3 j5 j8 hx
  generalize hkn:ixF n ns2 (rnF (aX (aj o [d0]) (aj o [d1])) f)=kn at *
  have HKN:=o_ hkn
  clear hkn
  simp only[go_sem,seval]
  (repeat'(first|refine Ctl ?_|(with_reducible first|(refine k_ hK ?_;clear hK hE K E)|(refine k_ hKh ?_;clear hKh Kh)|(refine k_ hKb (aC ?_);clear hKb Kb)|refine rQ 9 (.two [0,1,3,4,6] 2 [[3,4,6]] (.two [] 5 [[],[6]] (.one [7] 8 [[7],[],[6]] (.one [] 9 [[],[],[],[]] (.fin []))) 8 [[],[3,4,6]] (.one [] 5 [[],[],[6]] (.one [7] 9 [[],[],[],[]] (.fin [])))) 8 [[0,1,3,4,6]] (.one [] 2 [[],[3,4,6]] (.one [] 5 [[],[],[6]] (.one [7] 9 [[],[],[],[]] (.fin []))))) hQe fun K E hK hE=>?_)|((with_reducible refine ah (fun h=>?_) (fun h=>?_))<;>(try(exfalso;assumption)))|((first|(with_reducible first|refine ab fun K E hK hE=>?_|refine ae lV (WCS.out _) ?_|refine aG fun Kh hKh=>?_|refine aB fun Kb hKb=>?_|refine dA fun Kh hKh=>?_|refine xP fun Kh hKh=>?_|refine rK (fun Kb hKb=>?_) (fun Kb hKb=>?_))|((with_reducible refine au (fun b hb=>?_));(try(obtain⟨_,_⟩:=nef hb hl5;obtain⟨_,_⟩:=nef hb hl8))))<;>(try simp(disch:=omega) only[go_sem,seval, *]))))
  ·refine ao ft (WCM.out _) (fun a h=>?_)
   obtain⟨u3,g⟩:=a
   obtain⟨hgf,hu3⟩:=h
   dsimp only at hgf hu3 ⊢
   have f3:∀z,u2 z≠.free->u3 z=u2 z:=fun z hz=>by rw[hu3,j_ _ _ (nef hgf hz).1]
   have p5:=(f3 b5 hl5).trans l5
   have p8:=(f3 b8 hl8).trans l8
   have pg:u3 g=.row 3 1 (D.map fun(k:Nat)=>.int .i64 (k:Int)):=by rw[hu3,q_]
   have hp5:u3 b5≠.free:=by rw[p5];simp
   have hp8:u3 b8≠.free:=by rw[p8];simp
   have hpg:u3 g≠.free:=by rw[pg];simp
   have n8g:¬ b8=g:=fun e=>by rw[e,pg]at p8;cases p8
   have HF3:=o_ (And.intro f3 hgf)
   clear hu3 l5 l8 hl5 hl8 f3 hgf
   simp only[go_sem,seval]
   (repeat'(first|refine Ctl ?_|(with_reducible first|(refine k_ hK ?_;clear hK hE K E)|(refine k_ hKh ?_;clear hKh Kh)|(refine k_ hKb (aC ?_);clear hKb Kb))|((first|(with_reducible first|refine ab fun K E hK hE=>?_|refine dP ?_|refine aB fun Kb hKb=>?_|refine dA fun Kh hKh=>?_|refine ph fun Kh hKh=>?_)|((with_reducible refine au (fun b hb=>?_));(try(obtain⟨_,_⟩:=nef hb hp5;obtain⟨_,_⟩:=nef hb hp8;obtain⟨_,_⟩:=nef hb hpg))))<;>(try simp(disch:=omega) only[go_sem,seval,hkk,hDl, *]))))
   have hbf:u3 b=.free:=hb
   all_goals(refine aq sH hQ ?_)
   all_goals refine⟨_,_,Wk.refl _,Fg.refl _,_,_,_,g,D.length,3,mvL D k d1,rfl,?_,mG hkD,(St.set _ g .free,K2,m1,ns2),?_,rfl,?_⟩
   ·rw[j_ _ _ (fun e=>n8g e.symm)];exact q_ _ _ _
   ·rw[HKN.out,rp hkD]
   ·refine HR3.out.fin HL8.out HB8.out fun z hz hne=>?_
    have a1:=(nef HF3.out.2 hz).1
    have a2:=(nef hbf (by rw[HF3.out.1 z hz];exact hz)).1
    rw[j_ _ _ a1,j_ _ _ hne,j_ _ _ a1,j_ _ _ a2]
    exact HF3.out.1 z hz
  all_goals refine ao ft (WCM.out _) (fun a h=>?_)
  all_goals obtain⟨u3,g⟩:=a
  all_goals obtain⟨hgf,hu3⟩:=h
  all_goals dsimp only at hgf hu3 ⊢
  all_goals have hbf:u2 b=.free:=hb
  all_goals have hgb:¬ g=b:=fun e=>by rw[e,q_]at hgf;cases hgf
  all_goals have hgf2:u2 g=.free:=by rw[j_ _ _ hgb]at hgf;exact hgf
  all_goals have f3:∀z,u2 z≠.free->u3 z=u2 z:=fun z hz=>by rw[hu3,j_ _ _ (nef hgf2 hz).1,j_ _ _ (nef hbf hz).1]
  all_goals have p5:=(f3 b5 hl5).trans l5
  all_goals have p8:=(f3 b8 hl8).trans l8
  all_goals have pg:u3 g=.row 3 1 (D.map fun(k:Nat)=>.int .i64 (k:Int)):=by rw[hu3,q_]
  all_goals have pb:u3 b=.obj 30 [.lst [] .full,.lst [] .full,.int .i64 0]:=by rw[hu3,j_ _ _ (fun e=>hgb e.symm),q_]
  all_goals have n8g:¬ b8=g:=fun e=>by rw[e,pg]at p8;cases p8
  all_goals have hbg:¬ b=g:=fun e=>hgb e.symm
  all_goals have HF3:=o_ (And.intro f3 hgf2)
  all_goals clear hu3 l5 l8 hl5 hl8 f3 hgf hgf2 hb
  all_goals simp only[go_sem,seval,pb]
  all_goals(repeat'(first|refine Ctl ?_|(with_reducible first|(refine k_ hK ?_;clear hK hE K E)|(refine k_ hKh ?_;clear hKh Kh)|(refine k_ hKb (aC ?_);clear hKb Kb))|(((with_reducible first|refine ab fun K E hK hE=>?_|refine dP ?_|refine aB fun Kb hKb=>?_|refine dA fun Kh hKh=>?_|refine ph fun Kh hKh=>?_))<;>(try simp(disch:=omega) only[go_sem,seval,hkk,hDl, *]))))
  all_goals(refine aq sH hQ ?_)
  all_goals refine⟨_,_,Wk.refl _,Fg.refl _,_,_,_,g,D.length,3,mvL D k d1,rfl,?_,mG hkD,(St.set _ g .free,K2,m1,ns2),?_,rfl,?_⟩
  iterate 2
   ·rw[j_ _ _ (fun e=>n8g e.symm)];exact q_ _ _ _
   ·rw[HKN.out,rp hkD]
   ·refine HR3.out.fin HL8.out HB8.out fun z hz hne=>?_
    have a1:=(nef HF3.out.2 hz).1
    have a2:=(nef hbf hz).1
    rw[j_ _ _ a1,j_ _ _ hne,j_ _ _ a1,j_ _ _ a2]
    exact HF3.out.1 z hz
end Go.Proofs.YtohnaepcgnbaiaaGreatDoor
namespace Go.Proofs.YtohnaepcgnbaiaaGreatDoor
open Go.RowKit Go.Lib Go.Shelf
theorem zm (s:St)(l:List (List UInt8))(ow:Own)(hne:l≠[])(hl:l.length<=1000000) :
  SCalls Tryz.prog 33 [.lst (az l) ow] s fun w u=>∃a:St×Nat,w=.ret (.mrw a.2 l.length)/\u=a.1/\s a.2=.free/\a.1=s.set a.2 (.row 9 1 (l.map fun x=>.str x)):=by
 intro w0 G w vs hS hA
 obtain⟨v,rfl,hr⟩:=d7 hA
 have hne2:az l≠[]:=fun e=>hne (by cases l;rfl;cases e)
 have hx:∀x,x∈az l->x.length=1:=fun x hx=>by obtain⟨y,_,rfl⟩:=A_.1 hx;rfl
 have hl2:(az l).length<=1000000:=by rw[dj];exact hl
 have hll:(az l).length=l.length:=dj l
 have hys0:∀(i:Nat) (y:VV),(l.map fun x=>VV.str x)[i]?=some y->(az l)[i]?=some [y]/\y.one=true:=fun i y hy=>by
  rw[n_]at hy
  obtain⟨k,hk,rfl⟩:=Option.map_eq_some_iff.1 hy
  exact⟨iD hk,rfl⟩
 generalize az l=xs at *
 generalize hq:VV.lst xs ow=q at hr
 cases hr with
 |emp a cap o ho=>
  injection hq with hq1 hq2
  exact absurd hq1 hne2
 |lst b off len cap sz xs' o f h1 h2 h3 h4 h5 h6 h7=>
  injection hq with hq1 hq2
  subst hq1 hq2
  have hsz:sz=1:=by
   obtain⟨x,r,rfl⟩:=List.exists_cons_of_ne_nil hne2
   rw[<- h3 x (by simp),hx x (by simp)]
  subst hsz
  obtain⟨news,hnews⟩:∃news:List Value,news=(List.range len).map fun j=>f j 0:=⟨_,rfl⟩
  have hnl:news.length=len * 1:=by rw[hnews];simp
  have hna:∀j u,news[j]?=some u->j<len/\u=f j 0:=fun j u h=>by
   have hj:j<len:=by have:=(x_.1 h).1;omega
   refine⟨hj,?_⟩
   rw[hnews,n_,List.getElem?_range hj]at h
   injection h with h
   exact h.symm
  have hfo:∀j,j<len->(f j 0).oneCell'=true:=fun j hj=>by
   have h8:=m_ (show j<xs.length by omega)
   have hm:=List.getElem_mem (l:=xs) (n:=j) (by omega)
   have h9:=m_ (show 0<xs[j].length by rw[hx _ hm];omega)
   rw[(h6 _ _ _ _ h8 h9).one]
   exact h4 _ hm _ (List.getElem_mem _)
  refine(oT b off len cap news w hnl (by omega) (fun j u h=>?_) (fun u h=>?_)).mono ?_
  ·obtain⟨hj,rfl⟩:=hna j u h
   have:=hS.K _ _ _ (h5 j 0 (by omega) (by omega))
   rw[show j * 1+0=j by omega]at this
   exact this
  ·obtain⟨j,hj⟩:=d_.1 h
   obtain⟨hj2,rfl⟩:=hna j u hj
   exact hfo j hj2
  ·rintro e w' ⟨v',rfl,hown,_,hb⟩
   rcases hown.2 with ⟨_,h0⟩|⟨g,c2,cur,rfl,hge,hh,hcap,hm,hcs,hcur⟩
   ·exact absurd (l_ (h1.trans h0)) hne2
   ·have hys:∀(i:Nat) (y:VV),(l.map fun x=>VV.str x)[i]?=some y->y.one=true/\∃v,cur[i]?=some v/\R G v y:=fun i y hy=>by
     obtain⟨e1,e2⟩:=hys0 i y hy
     have hi:i<len:=by have:=(x_.1 e1).1;omega
     refine⟨e2,f i 0,?_,h6 i 0 _ _ e1 rfl⟩
     have hi2:(cur.toList.take (len * 1))[i]?=some (f i 0):=by
      rw[hcur,hnews,n_,List.getElem?_range (by omega)];rfl
     rw[List.getElem?_take_of_lt (by omega),Array.getElem?_toList]at hi2
     exact hi2
    obtain⟨G',a1,a2,a3⟩:=hS.knowR hb hge hh hm hcs (ys:=l.map fun x=>VV.str x) (by rw[z_];omega) hys
    refine⟨G',_,.ret (.mrw g l.length),a1,a2,?_,(_,g),rfl,rfl,hS.at_free hge,rfl⟩
    rw[show len=l.length by omega]
    exact .mrw g l.length c2 1 a3 (by omega)
 |_=>cases hq
def iX (T:List Nat)(sz:Nat):Nat->List (List UInt8×Nat)->Option Nat
 |_,[]=>none
 |j,d::l=>if d.2=sz/\j∉T then some j else iX T sz (j+1) l
def TakenM (T:List Nat)(e:List (Int×Bool)):Prop:=∀k:Nat,(lkZ (k:Int) e).getD false=decide (k∈T)
theorem TakenM.nil:TakenM [] []:=fun k=>by simp[lkZ]
theorem TakenM.add {T:List Nat}{e:List (Int×Bool)}(h:TakenM T e)(d:Nat):TakenM (T++[d]) (ptZ (d:Int) true e):=fun k=>by
 rw[nZ]
 by_cases hk:k=d
 ·subst hk;simp
 ·rw[if_neg (by omega),h k]
  simp[hk]
theorem EO {T:List Nat}{sz k:Nat}{ds:List (List UInt8×Nat)}{j:Nat}(h:iX T sz j (ds.drop j)=some k)(hj:j<=ds.length) :
  j<ds.length/\∃d,ds[j]?=some d/\((d.2=sz/\j∉T/\k=j)\/(¬ (d.2=sz/\j∉T)/\iX T sz (j+1) (ds.drop (j+1))=some k)):=by
 by_cases hlt:j<ds.length
 ·refine⟨hlt,_,m_ hlt,?_⟩
  rw[c_ hlt,iX]at h
  by_cases hc:ds[j].2=sz/\j∉T
  ·rw[if_pos hc]at h
   injection h with h
   exact .inl ⟨hc.1,hc.2,h.symm⟩
  ·rw[if_neg hc]at h
   exact .inr ⟨hc,h⟩
 ·rw[List.drop_eq_nil_of_le (by omega),iX]at h
  cases h
set_option maxHeartbeats 4000000 in
theorem M8 (s:St)(x c q bt:Nat)(a:VV)(ds:List (List UInt8×Nat))(hx:s x=.obj 73 (spC c q ds a))(hl:ds.length<=1000){T:List Nat}{e:List (Int×Bool)}(hT:TakenM T e)(hbt:s bt=.map (mpZ bP e))(sz k:Nat)(hk:iX T sz 0 ds=some k) :
  SRet Tryz.prog 38 [.ptr x 0,.int .i64 (sz:Int),.mp bt] s (.tup [.int .i64 (k:Int),.bool true]) s:=by
 unfold spC at hx
 have hsl:(szC ds).length=ds.length:=by simp[szC]
 have hat:=fun(i:Nat) (d:List UInt8×Nat) (h:ds[i]?=some d)=>kT h
 have HAT:=o_ hat
 have HT:=o_ hT
 have HK0:iX T sz 0 (ds.drop 0)=some k:=hk
 have HK:=o_ HK0
 clear hat hT hk HK0
 generalize szC ds=SZ at *
 refine am Tryz.func38 rfl Tryz.ntmps38 rfl fun Q hQ hQe=>?_
 (repeat'(first|refine Ctl ?_|((with_reducible refine k_ hK ?_);clear hK hE K E)|(((with_reducible refine ab fun K E hK hE=>?_))<;>(try simp(disch:=omega) only[go_sem,seval,hsl, *]))))
 refine aY (fun f env s'=>∃(i:Nat),i<=ds.length/\f+i=ds.length/\Hid (iX T sz i (ds.drop i)=some k)/\s'=s/\env 0=.ptr x 0/\env 1=.int .i64 (sz:Int)/\env 2=.mp bt/\env 13=.lst SZ .no/\env 14=.int .i64 ds.length/\env 15=.int .i64 i) ds.length
  ⟨0,by omega,by omega,HK,rfl,ac,ac,ac,ac,ac,ac⟩ ?_
 rintro f env s' ⟨i,hi,hfi,HI,rfl,e0,e1,e2,e13,e14,e15⟩
 obtain⟨hlt,d,hd,hcase⟩:=EO HI.out hi
 have hx1:=HAT.out _ _ hd
 have hm:=HT.out i
 obtain⟨nm,dz⟩:=d
 dsimp only at hx1 hcase
 rcases hcase with ⟨h1,h2,h3⟩|⟨h1,h2⟩
 ·have c1:((dz:Int)=(sz:Int))=True:=by rw[h1];simp
  rw[decide_eq_false h2]at hm
  have HK3:=o_ h3
  clear hd h1 h2 h3 HI
  (repeat'(first|refine Ctl ?_|((with_reducible refine k_ hK ?_);clear hK hE K E)|((with_reducible refine ah (fun h=>?_) (fun h=>?_))<;>(try(exfalso;assumption)))|(((with_reducible refine ab fun K E hK hE=>?_))<;>(try simp(disch:=omega) only[go_sem,seval,hsl,hx1,c1,hm, *]))))
  all_goals(refine aq Gg hQ ?_)
  all_goals exact⟨_,_,Wk.refl _,Fg.refl _,congrArg (fun z:Nat=>SEnd.ret (.tup [.int .i64 (z:Int),.bool true])) HK3.out.symm,rfl⟩
 ·have HN:=o_ h2
  by_cases h3:dz=sz
  ·have c1:((dz:Int)=(sz:Int))=True:=by rw[h3];simp
   have h4:i∈T:=Decidable.byContradiction fun h4=>h1 ⟨h3,h4⟩
   rw[decide_eq_true h4]at hm
   clear hd h1 h2 h3 h4 HI
   (repeat'(first|refine Ctl ?_|((with_reducible refine k_ hK ?_);clear hK hE K E)|((with_reducible refine ah (fun h=>?_) (fun h=>?_))<;>(try(exfalso;assumption)))|(((with_reducible refine ab fun K E hK hE=>?_))<;>(try simp(disch:=omega) only[go_sem,seval,hsl,hx1,c1,hm, *]))))
   all_goals exact⟨f - 1,by omega,i+1,by omega,by omega,HN,rfl,ac,ac,ac,ac,ac,ac⟩
  ·have c1:¬ (dz:Int)=(sz:Int):=by omega
   clear hd h1 h2 h3 HI hm
   (repeat'(first|refine Ctl ?_|((with_reducible refine k_ hK ?_);clear hK hE K E)|((with_reducible refine ah (fun h=>?_) (fun h=>?_))<;>(try(exfalso;assumption)))|(((with_reducible refine ab fun K E hK hE=>?_))<;>(try simp(disch:=omega) only[go_sem,seval,hsl,hx1,c1, *]))))
   all_goals exact⟨f - 1,by omega,i+1,by omega,by omega,HN,rfl,ac,ac,ac,ac,ac,ac⟩
end Go.Proofs.YtohnaepcgnbaiaaGreatDoor
namespace Go.Proofs.YtohnaepcgnbaiaaGreatDoor
open Go.RowKit
attribute [-go_sem] bJ cX bH bG
theorem CZ {fr tt:List Nat}(hl:tt.length=fr.length){v:Nat}(h:v∉fr):aX fr tt v=v:=by
 have e:lkZ (v:Int) (byZ fr tt)=none:=by
  rw[fV,rH hl]
  intro hm
  obtain⟨a,ha,e⟩:=A_.1 hm
  have:a=v:=by omega
  exact h (this ▸ ha)
 unfold aX
 rw[e]
theorem s6 {fr tt:List Nat}(hl:tt.length=fr.length){M:List Nat}(h:∀v,v∈M->v∉fr):M.map (aX fr tt)=M:=by
 conv=>rhs;rw[<- List.map_id M]
 exact List.map_congr_left fun v hv=>CZ hl (h v hv)
theorem iH {A A' B B':List Nat}(hA:A'.length=A.length)(hB:B'.length=B.length)(hn:(A++B).Nodup):A.map (aX (A++B) (A'++B'))=A':=by
 apply List.ext_getElem (by simp[hA])
 intro i h1 h2
 rw[List.getElem_map]
 have h3:i<A.length:=by simpa using h1
 exact qZ (by simp[hA,hB]) hn (i:=i) (by rw[g_ h3];exact m_ h3) (by rw[g_ h2];exact m_ h2)
theorem uJ {A A' B B':List Nat}(hA:A'.length=A.length)(hB:B'.length=B.length)(hn:(A++B).Nodup){v:Nat}(hv:v∈B):aX (A++B) (A'++B') v=aX B B' v:=by
 obtain⟨j,hj,rfl⟩:=List.mem_iff_getElem.1 hv
 have hj2:j<B'.length:=by omega
 have e1:aX B B' B[j]=B'[j]:=qZ hB (List.nodup_append.1 hn).2.1 (i:=j) (m_ hj) (m_ hj2)
 rw[e1]
 exact qZ (by simp[hA,hB]) hn (i:=A.length+j) (by rw[h_ (by omega),Nat.add_sub_cancel_left];exact m_ hj) (by rw[<- hA,h_ (by omega),Nat.add_sub_cancel_left];exact m_ hj2)
theorem fd (o:List (List Nat))(k:Nat)(ks:List Nat):aj o (k::ks)=o.getD k []++aj o ks:=by simp[aj]
theorem sI {o:List (List Nat)}:∀{fr tt:List Nat},tt.length=fr.length->(∀k,k∈fr->(o.getD k []).length=2)->(∀k,k∈tt->(o.getD k []).length=2)->(aj o fr).Nodup->fr.map (fun k=>(o.getD k []).map (aX (aj o fr) (aj o tt)))=tt.map fun k=>o.getD k []
 |[],[],_,_,_,_=>rfl
 |[],_::_,h,_,_,_=>by cases h
 |_::_,[],h,_,_,_=>by cases h
 |a::fr,b::tt,hl,h1,h2,hn=>by
  have hl':tt.length=fr.length:=by simpa using hl
  have ha:=h1 a (List.mem_cons_self ..)
  have hb:=h2 b (List.mem_cons_self ..)
  have w1:∀l:List Nat,(∀k,k∈l->(o.getD k []).length=2)->(aj o l).length=2 * l.length:=by
   intro l
   induction l with
   |nil=>intro _;simp[aj]
   |cons k l ih=>
    intro h
    have e1:=ih fun q hq=>h q (List.mem_cons_of_mem _ hq)
    have e2:=h k (List.mem_cons_self ..)
    rw[fd,p_,List.length_cons]
    omega
  have hf:=w1 fr fun k hk=>h1 k (List.mem_cons_of_mem _ hk)
  have ht:=w1 tt fun k hk=>h2 k (List.mem_cons_of_mem _ hk)
  rw[fd]at hn
  have ih:=sI (o:=o) hl' (fun k hk=>h1 k (List.mem_cons_of_mem _ hk)) (fun k hk=>h2 k (List.mem_cons_of_mem _ hk)) (List.nodup_append.1 hn).2.1
  rw[fd,fd,List.map_cons,List.map_cons,iH (by omega) (by omega) hn,<- ih]
  congr 1
  refine List.map_congr_left fun k hk=>List.map_congr_left fun v hv=>uJ (by omega) (by omega) hn (List.mem_flatMap.2 ⟨k,hk,hv⟩)
theorem Tells.turn {n:Nat}{ds:List (List UInt8×Nat)}{o:List (List Nat)}(hD:DOk n ds o){fr tt:List Nat}{S:List Nat->Prop}{g:(Nat->Bool)->Bool}(h:Tells o fr S g)(hl:tt.length=fr.length)(h1:∀k,k∈fr->k<ds.length/\(o.getD k []).length=2)(h2:∀k,k∈tt->(o.getD k []).length=2)(hn:fr.Nodup) :
  Tells o tt S (rnF (aX (aj o fr) (aj o tt)) g):=
 h.ren (sI hl (fun k hk=>(h1 k hk).2) h2 (cr hD hn fun k hk=>(h1 k hk).1))
theorem Tells.move {n:Nat}{ds:List (List UInt8×Nat)}{o:List (List Nat)}(hD:DOk n ds o){ks:List Nat}{S:List Nat->Prop}{g:(Nat->Bool)->Bool}(h:Tells o ks S g){i d0 d1:Nat}(hi:ks[i]?=some d0)(hn:ks.Nodup)(hk:∀k,k∈ks->k<ds.length)(w0:(o.getD d0 []).length=2)(w1:(o.getD d1 []).length=2) :
  Tells o (ks.set i d1) S (rnF (aX (aj o [d0]) (aj o [d1])) g):=by
 have hil:i<ks.length:=(x_.1 hi).1
 have e0:∀k,aj o [k]=o.getD k []:=fun k=>by simp[aj]
 rw[e0,e0]
 refine h.ren ?_
 apply List.ext_getElem (by simp)
 intro j hj1 hj2
 simp only[List.getElem_map]
 have hj:j<ks.length:=by simpa using hj1
 by_cases e:j=i
 ·subst e
  have e3:ks[j]=d0:=by have:=m_ hj;rw[this]at hi;injection hi
  rw[e3,List.getElem_set_self]
  have hnd:=cr hD (ks:=[d0]) (by simp) (by intro k hk2;rw[a_]at hk2;rw[hk2];exact hk _ (y_ hi))
  rw[e0]at hnd
  have:=iH (A:=o.getD d0 []) (A':=o.getD d1 []) (B:=[]) (B':=[]) (by omega) rfl (by simpa using hnd)
  simpa using this
 ·rw[List.getElem_set_ne (fun e2=>e e2.symm)]
  refine s6 (by omega) fun v hv hv2=>?_
  have e3:ks[i]=d0:=by have:=m_ hil;rw[this]at hi;injection hi
  have hne:ks[j]≠d0:=fun e4=>e ((List.getElem_inj hn).1 (by rw[e4,e3]))
  have hnd:=cr hD (ks:=[d0,ks[j]]) (by simp;exact fun e=>hne e.symm) (by
   intro k hk2
   simp at hk2
   rcases hk2 with rfl|rfl
   ·exact hk _ (y_ hi)
   ·exact hk _ (List.getElem_mem hj))
  rw[ug]at hnd
  exact(List.nodup_append.1 hnd).2.2 v hv2 v hv rfl
end Go.Proofs.YtohnaepcgnbaiaaGreatDoor
namespace Go.Proofs.YtohnaepcgnbaiaaGreatDoor
open Go.RowKit
structure JS where
 T:List Nat
 t:List Nat
 D:List Nat
 A:List (List UInt8)
def lQ (ds:List (List UInt8×Nat))(aA:List (List UInt8))(aD:List Nat)(q:JS)(p:List UInt8×Nat):Option JS:=
 if ixA p.1 aA<0 then
  (if p.2∈aD then(iX q.T 4 0 ds).map fun k=>⟨q.T++[k],q.t++[k],q.D++[k],q.A++[p.1]⟩
  else some ⟨q.T,q.t++[p.2],q.D++[p.2],q.A++[p.1]⟩)
 else some ⟨q.T,q.t++[aD.getD (ixA p.1 aA).toNat 0],q.D,q.A⟩
def lS (ds:List (List UInt8×Nat))(aA:List (List UInt8))(aD:List Nat):List (List UInt8×Nat)->JS->Option JS
 |[],q=>some q
 |p::l,q=>(lQ ds aA aD q p).bind (lS ds aA aD l)
theorem EG {ds:List (List UInt8×Nat)}{aA bA:List (List UInt8)}{aD bD:List Nat}{i:Nat}{q qF:JS}{x:List UInt8}{d:Nat}(hx:bA[i]?=some x)(hd:bD[i]?=some d)(h:lS ds aA aD ((bA.zip bD).drop i) q=some qF) :
  ∃q',lQ ds aA aD q (x,d)=some q'/\lS ds aA aD ((bA.zip bD).drop (i+1)) q'=some qF:=by
 have hz:(bA.zip bD)[i]?=some (x,d):=by rw[List.getElem?_zip_eq_some];exact⟨hx,hd⟩
 have hlt:i<(bA.zip bD).length:=(x_.1 hz).1
 rw[c_ hlt]at h
 have e:(bA.zip bD)[i]=(x,d):=by rw[m_ hlt]at hz;injection hz
 rw[e,lS]at h
 exact Option.bind_eq_some_iff.1 h
theorem A5 {ds:List (List UInt8×Nat)}{aA:List (List UInt8)}{aD:List Nat}{q q':JS}{x:List UInt8}{d k:Nat}(h:lQ ds aA aD q (x,d)=some q')(hk:ixA x aA=(k:Int)):q'=⟨q.T,q.t++[aD.getD k 0],q.D,q.A⟩:=by
 unfold lQ at h
 dsimp only at h
 rw[hk,if_neg (by omega),Int.toNat_natCast]at h
 injection h with h
 exact h.symm
theorem yA {ds:List (List UInt8×Nat)}{aA:List (List UInt8)}{aD:List Nat}{q q':JS}{x:List UInt8}{d:Nat}(h:lQ ds aA aD q (x,d)=some q')(hk:ixA x aA=-1)(hd:d∉aD):q'=⟨q.T,q.t++[d],q.D++[d],q.A++[x]⟩:=by
 unfold lQ at h
 dsimp only at h
 rw[hk,if_pos (by omega),if_neg hd]at h
 injection h with h
 exact h.symm
theorem ve {ds:List (List UInt8×Nat)}{aA:List (List UInt8)}{aD:List Nat}{q q':JS}{x:List UInt8}{d:Nat}(h:lQ ds aA aD q (x,d)=some q')(hk:ixA x aA=-1)(hd:d∈aD):∃k,iX q.T 4 0 ds=some k/\q'=⟨q.T++[k],q.t++[k],q.D++[k],q.A++[x]⟩:=by
 unfold lQ at h
 dsimp only at h
 rw[hk,if_pos (by omega),if_pos hd]at h
 obtain⟨k,h1,h2⟩:=Option.map_eq_some_iff.1 h
 exact⟨k,h1,h2.symm⟩
theorem lk {α:Type}[DecidableEq α](n:α)(l:List α):(ixA n l=-1/\n∉l)\/∃k:Nat,ixA n l=(k:Int)/\l[k]?=some n:=by
 induction l with
 |nil=>exact .inl ⟨rfl,by simp⟩
 |cons x l ih=>
  by_cases hx:n=x
  ·subst hx
   exact .inr ⟨0,by simp[ixA],rfl⟩
  ·simp only[ixA,if_neg hx]
   rcases ih with ⟨h,hn⟩|⟨k,h,hk⟩
   ·exact .inl ⟨by rw[h];rfl,by simp[hx,hn]⟩
   ·refine .inr ⟨k+1,?_,by simpa using hk⟩
    rw[h,if_neg (by omega)];omega
def dsR:List (List UInt8×Nat):=[([80,48],4),([80,49],4),([80,50],4),([80,51],4),([81,48],3),([81,49],3),([81,50],3)]
def dmR:List Dm:=dsR.map fun d=>(d.1,(d.2:Int))
def mj:Nat->List UInt8
 |0=>[80,48,95,80,49,95,80,50,95,80,51,95,81,48,95,81,49,95,81,50]
 |1=>[80,48,42,80,49,42,80,50,42,80,51,42,81,48,42,81,49,42,81,50]
 |_=>[81,48,42,81,49,95,80,51,95,80,50,42,80,48,95,81,50,42,80,49]
def oR:Nat->List (List Nat)
 |0=>[[1,0],[3,2],[5,4],[7,6],[9,8],[11,10],[13,12]]
 |1=>[[7,0],[8,1],[9,2],[10,3],[11,4],[12,5],[13,6]]
 |_=>[[9,7],[13,11],[8,6],[5,4],[2,0],[3,1],[12,10]]
theorem Py:jo 14 dmR (mj 0)=.ok (oR 0):=by kernel_rfl
theorem Pw:jo 14 dmR (mj 1)=.ok (oR 1):=by kernel_rfl
theorem Pv:jo 14 dmR (mj 2)=.ok (oR 2):=by kernel_rfl
theorem newR {i:Nat}(h:i<3):jo 14 dmR (mj i)=.ok (oR i):=by
 match i,h with
 |0,_=>exact Py
 |1,_=>exact Pw
 |2,_=>exact Pv
theorem uX {i d:Nat}(h:i<3)(hd:d<7):((oR i).getD d []).length=2:=by
 have:∀i,i<3->∀d,d<7->((oR i).getD d []).length=2:=by decide
 exact this i h d hd
theorem Pt {i:Nat}(h:i<3):DOk 14 dsR (oR i):=by
 have h1:∀i,i<3->(oR i).length=7:=by decide
 have h2:∀i,i<3->∀l,l∈oR i->∀v,v∈l->v<14:=by decide
 have h3:∀i,i<3->(oR i).flatten.Nodup:=by decide
 refine⟨h1 i h,h2 i h,h3 i h,fun d x l e1 e2=>?_,by decide⟩
 have hd:d<7:=(x_.1 e1).1
 have e3:=uX h hd
 rw[List.getD_eq_getElem?_getD,e2]at e3
 have e3:l.length=2:=e3
 have h4:∀y,y∈dsR->1<=y.2/\y.2<=4:=by decide
 have h5:=h4 x (y_ e1)
 rw[e3]
 omega
theorem xB {i:Nat}(h:i<3){D:List Nat}(hD:∀d,d∈D->d<4):Dom4 dsR (oR i) D:=fun d hd=>by
 have h4:=hD d hd
 refine⟨?_,uX h (by omega)⟩
 match d,h4 with
 |0,_=>exact⟨_,rfl⟩
 |1,_=>exact⟨_,rfl⟩
 |2,_=>exact⟨_,rfl⟩
 |3,_=>exact⟨_,rfl⟩
theorem PO:cH dmR=dx dsR:=rfl
attribute [-go_sem] bJ cX bH bG aT cU cT
theorem Cs (s:St)(c:Nat)(Q A:VV)(ds:List (List UInt8×Nat))(hl:ds.length<=1000000)(h:s c=.obj 132 [Q,.lst (dx ds) .no,A]):SRet Tryz.prog 28 [.ptr c 0] s (.lst (dx ds) .no) s:=by
 have w:=t6 s (dx ds) .no (fun x hx=>by obtain⟨y,_,rfl⟩:=A_.1 hx;rfl) (by rw[fZ];exact hl)
 generalize dx ds=D at *
 refine am Tryz.func28 rfl Tryz.ntmps28 rfl fun Q hQ hQe=>?_
 (repeat'(first|refine Ctl ?_|((with_reducible refine k_ hK ?_);clear hK hE K E)|((with_reducible refine ah (fun h=>?_) (fun h=>?_))<;>(try(exfalso;assumption)))|(((with_reducible first|refine ab fun K E hK hE=>?_|refine ae GN (w) ?_))<;>(try simp(disch:=omega) only[go_sem,seval, *]))))
 all_goals(refine aq Gl hQ ?_)
 all_goals exact⟨_,_,Wk.refl _,Fg.refl _,rfl,rfl⟩
def szV (ds:List (List UInt8×Nat))(i:Nat):List VV:=(ds.take i).map fun d=>.int .i64 (d.2:Int)
theorem CJ {ds:List (List UInt8×Nat)}{i:Nat}{d:List UInt8×Nat}(h:ds[i]?=some d):szV ds (i+1)=szV ds i++[.int .i64 (d.2:Int)]:=by
 unfold szV
 rw[List.take_add_one,h];simp
theorem wE {ds:List (List UInt8×Nat)}{i:Nat}(h:i<=ds.length):(szV ds i).length=i:=by simp[szV,Nat.min_eq_left h]
structure NewI (s s':St) (x c q i:Nat) (ds:List (List UInt8×Nat)):Prop where
 fr:∀z,s z≠.free->s' z=s z
 ob:(i=0/\s' x=.obj 73 [.ptr c 0,.ptr q 0,.raw (.slice none 0 0),.raw (.map none),.int .i64 0])\/∃g,s' x=.obj 73 [.ptr c 0,.ptr q 0,.mrw g i,.raw (.map none),.int .i64 0]/\s' g=.row 3 1 (szV ds i)/\s g=.free
theorem NewI.mk1 {s S1:St}{x c q i bM:Nat}{ds:List (List UInt8×Nat)}{vals:List VV}(h1:∀z,s z≠.free->S1 z=s z)(hM:S1 bM=.free)(hx:s x=.free)(hxM:¬ x=bM)(hv:szV ds i=vals) :
  NewI s ((S1.set bM (.row 3 1 vals)).set x (.obj 73 [.ptr c 0,.ptr q 0,.mrw bM i,.raw (.map none),.int .i64 0])) x c q i ds:=by
 have hMs:s bM=.free:=by
  by_cases e:s bM=.free
  ·exact e
  ·exact absurd ((h1 bM e).symm.trans hM) e
 refine⟨fun z hz=>?_,.inr ⟨bM,q_ _ _ _,?_,hMs⟩⟩
 ·rw[j_ _ _ (fun e=>hz (by rw[e];exact hx)),j_ _ _ (fun e=>hz (by rw[e];exact hMs)),h1 z hz]
 ·rw[j_ _ _ (fun e=>hxM e.symm),q_,hv]
set_option maxHeartbeats 8000000 in
theorem My {s:St}{KK:OB}{q c n B:Nat}{ns:List Tr}{ds:List (List UInt8×Nat)}{o:List (List Nat)}(hC:CMem s KK q c n B ns ds o)(hl:ds.length<=1000)(hne:0<ds.length) :
  SCalls Tryz.prog 26 [.ptr c 0] s fun w u=>∃a:St×Nat,w=.ret (.tup [.ptr a.2 0,.int .i64 0])/\u=a.1/\RMem a.1 KK a.2 a.2 q c n B ns ds o/\s a.2=.free/\∀z,s z≠.free->a.1 z=s z:=by
 have wq:=FE s c q _ _ hC.co
 have wd:=fun(u:St) (h:∀z,s z≠.free->u z=s z)=>Cs u c _ _ ds (by omega) ((h c (by rw[hC.co];simp)).trans hC.co)
 have hdl:=fZ (ds:=ds)
 have hat:=fun(i:Nat) (d:List UInt8×Nat) (h:ds[i]?=some d)=>oO h
 have WD:=o_ wd
 have HAT:=o_ hat
 have HC:=o_ hC
 clear wd hat hC
 generalize dx ds=D at *
 refine am Tryz.func26 rfl Tryz.ntmps26 rfl fun Q hQ hQe=>?_
 (repeat'(first|refine Ctl ?_|((with_reducible refine k_ hK ?_);clear hK hE K E)|((with_reducible refine ah (fun h=>?_) (fun h=>?_))<;>(try(exfalso;assumption)))|((first|(with_reducible first|refine ab fun K E hK hE=>?_|refine ae Qa (wq) ?_|refine iY ?_)|((with_reducible refine au (fun b hb=>?_))))<;>(try simp(disch:=omega) only[go_sem,seval, *]))))
 obtain⟨x,hxe⟩:∃z,z=b:=⟨_,rfl⟩
 subst hxe
 obtain⟨u0,hu0⟩:∃u,u=s.set x (.obj 73 [.ptr c 0,.ptr q 0,.lst [] .full,.raw (.map none),.int .i64 0]):=⟨_,rfl⟩
 rw[<- hu0]
 have g0:∀z,s z≠.free->u0 z=s z:=fun z hz=>by rw[hu0,j_ _ _ (nef hb hz).1]
 have k0:u0 x=.obj 73 [.ptr c 0,.ptr q 0,.lst [] .full,.raw (.map none),.int .i64 0]:=by rw[hu0,q_]
 have wd:=WD.out u0 g0
 have HX:Hid (s x=.free):=o_ hb
 clear hu0 hb WD wq
 (repeat'(first|refine Ctl ?_|((with_reducible refine k_ hK ?_);clear hK hE K E)|(((with_reducible refine ae GV (wd) ?_))<;>(try simp(disch:=omega) only[go_sem,seval,hdl, *]))))
 refine Cj (GS.rawnil (i:=2) k0 rfl) ?_
 simp only[List.set_cons_succ,List.set_cons_zero]
 have hI:NewI s (u0.set x (.obj 73 [.ptr c 0,.ptr q 0,.raw (.slice none 0 0),.raw (.map none),.int .i64 0])) x c q 0 ds:=⟨fun z hz=>(j_ _ _ (nef HX.out hz).1).trans (g0 z hz),.inl ⟨rfl,q_ _ _ _⟩⟩
 have HI:=o_ hI
 clear g0 k0 wd hI
 refine aY (fun fu env s'=>∃(i:Nat),i<=ds.length/\fu+i=ds.length/\Hid (NewI s s' x c q i ds)/\env 4=.ptr x 0/\env 16=.lst D .no/\env 17=.int .i64 ds.length/\env 18=.int .i64 i) ds.length
  ⟨0,by omega,by omega,HI,ac,ac,ac,ac⟩ ?_
 clear HI
 rintro fu env s' ⟨i,hi,hmi,HI,e4,e16,e17,e18⟩
 by_cases h2:i<ds.length
 ·obtain⟨d,hd⟩:∃d,ds[i]?=some d:=⟨_,m_ h2⟩
  have hx:=HAT.out _ _ hd
  have hadd:=CJ hd
  rcases HI.out.ob with ⟨rfl,k⟩|⟨g,k,kg,hg⟩
  ·have hxl:s' x≠.free:=by rw[k];simp
   have HADD:=o_ hadd
   clear hadd
   (repeat'(first|refine Ctl ?_|(with_reducible first|(refine k_ hK ?_;clear hK hE K E)|(refine k_ hKh ?_;clear hKh Kh)|(refine k_ hKb (aC ?_);clear hKb Kb)|refine ax 7 [([0,1,2,3,4,5,6,7],8,[[0]]),([9,10],11,[[],[]])] [] hQe fun K E hK hE=>?_)|((with_reducible refine ah (fun h=>?_) (fun h=>?_))<;>(try(exfalso;omega)))|((first|(with_reducible first|refine ab fun K E hK hE=>?_|refine ay fun Kh hKh=>?_|refine aG fun Kh hKh=>?_|refine aB fun Kb hKb=>?_)|((with_reducible refine au (fun b hb=>?_));(try(obtain⟨_,_⟩:=nef hb hxl)))|((with_reducible refine fG (fun bM hM=>?_));(try(obtain⟨_,_⟩:=nef hM (a:=x) (by rw[j_ _ _ (by assumption)];exact hxl)))))<;>(try simp(disch:=omega) only[go_sem,seval,hx,List.flatten_cons,List.flatten_nil,List.append_nil, *]))))
   have hb':s' b=.free:=by assumption
   have H1:=NewI.mk1 (ds:=ds) (i:=1) (c:=c) (q:=q) (S1:=s'.set b (.obj 52 [.str d.1,.int .i64 (d.2:Int)])) (fun z hz=>(j_ _ _ (nef hb' (by rw[HI.out.fr z hz];exact hz)).1).trans (HI.out.fr z hz)) hM HX.out (by assumption) (vals:=[.int .i64 (d.2:Int)]) HADD.out
   have HN:=o_ H1
   clear H1
   all_goals exact⟨fu - 1,by omega,1,by omega,by omega,HN,ac,ac,ac,ac⟩
  ·have hxl:s' x≠.free:=by rw[k];simp
   have hgl:s' g≠.free:=by rw[kg];simp
   have hxg:¬ x=g:=fun e=>by rw[e,kg]at k;cases k
   have hgx:¬ g=x:=fun e=>hxg e.symm
   have hsl:(szV ds i).length=i:=wE hi
   have HADD:=o_ hadd
   clear hadd
   generalize szV ds i=SZ at *
   (repeat'(first|refine Ctl ?_|(with_reducible first|(refine k_ hK ?_;clear hK hE K E)|(refine k_ hKh ?_;clear hKh Kh)|(refine k_ hKb (aC ?_);clear hKb Kb)|refine ax 7 [([0,1,2,3,4,5,6,7],8,[[0]]),([9,10],11,[[],[]])] [] hQe fun K E hK hE=>?_)|((with_reducible refine ah (fun h=>?_) (fun h=>?_))<;>(try(exfalso;assumption)))|((first|(with_reducible first|refine ab fun K E hK hE=>?_|refine ay fun Kh hKh=>?_|refine aG fun Kh hKh=>?_|refine aB fun Kb hKb=>?_)|((with_reducible refine au (fun b hb=>?_));(try(obtain⟨_,_⟩:=nef hb hxl;obtain⟨_,_⟩:=nef hb hgl)))|((with_reducible refine cJ (fun bM hM=>?_));(try(obtain⟨_,_⟩:=nef hM (a:=x) (by rw[j_ _ _ (by assumption),j_ _ _ (by assumption)];exact hxl)))))<;>(try simp(disch:=omega) only[go_sem,seval,hx,hsl,List.flatten_cons,List.flatten_nil,List.append_nil, *]))))
   have hb':s' b=.free:=by assumption
   have H1:=NewI.mk1 (ds:=ds) (i:=i+1) (c:=c) (q:=q) (S1:=(s'.set b (.obj 52 [.str d.1,.int .i64 (d.2:Int)])).set g .free) (fun z hz=>(j_ _ _ (fun e=>hz (by rw[e];exact hg))).trans ((j_ _ _ (nef hb' (by rw[HI.out.fr z hz];exact hz)).1).trans (HI.out.fr z hz))) hM HX.out (by assumption) (vals:=SZ++[.int .i64 (d.2:Int)]) HADD.out
   have HN:=o_ H1
   clear H1
   all_goals exact⟨fu - 1,by omega,i+1,by omega,by omega,HN,ac,ac,ac,ac⟩
 ·have hin:i=ds.length:=by omega
  rcases HI.out.ob with ⟨h0,_⟩|⟨g,k,kg,hg⟩
  ·exfalso;omega
  ·have hsl:(szV ds i).length=i:=wE hi
   refine lD (GSg.frz (i:=2) k rfl kg hsl) ?_
   simp only[List.set_cons_succ,List.set_cons_zero]
   have hmap:(szV ds i).map (fun y=>[y])=szC ds:=by rw[hin,szV,b_,szC,List.map_map];rfl
   rw[hmap]
   have hfr:∀z,s z≠.free->((s'.set g .free).set x (.obj 73 [.ptr c 0,.ptr q 0,.lst (szC ds) .no,.raw (.map none),.int .i64 0])) z=s z:=fun z hz=>by
    rw[j_ _ _ (fun e=>hz (by rw[e];exact HX.out)),j_ _ _ (fun e=>hz (by rw[e];exact hg)),HI.out.fr z hz]
   have hfx:((s'.set g .free).set x (.obj 73 [.ptr c 0,.ptr q 0,.lst (szC ds) .no,.raw (.map none),.int .i64 0])) x=.obj 73 [.ptr c 0,.ptr q 0,.lst (szC ds) .no,.raw (.map none),.int .i64 0]:=q_ _ _ _
   obtain⟨uF,hF⟩:∃u,u=((s'.set g .free).set x (.obj 73 [.ptr c 0,.ptr q 0,.lst (szC ds) .no,.raw (.map none),.int .i64 0])):=⟨_,rfl⟩
   rw[<- hF]at hfr hfx ⊢
   have hC:=HC.out
   have HFIN:=o_ (show RMem uF KK x x q c n B ns ds o from ⟨⟨hC.om.keep fun z hz=>hfr z (hC.om.live hz),(hfr q (by rw[hC.qo];simp)).trans hC.qo,(hfr c (by rw[hC.co];simp)).trans hC.co⟩,.inl ⟨rfl,hfx⟩⟩)
   have HFR:=o_ hfr
   clear hF hfr hfx hC hmap k kg
   (repeat'(first|refine Ctl ?_|((with_reducible refine k_ hK ?_);clear hK hE K E)|((with_reducible refine ah (fun h=>?_) (fun h=>?_))<;>(try(exfalso;omega)))|(((with_reducible refine ab fun K E hK hE=>?_))<;>(try simp(disch:=omega) only[go_sem,seval, *]))))
   all_goals(refine aq Gn hQ ?_)
   all_goals exact⟨_,_,Wk.refl _,Fg.refl _,(uF,x),rfl,rfl,HFIN.out,HX.out,HFR.out⟩
end Go.Proofs.YtohnaepcgnbaiaaGreatDoor
