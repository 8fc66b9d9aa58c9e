/- Walks of functions that the claim reaches, and plain facts of them. Conditions: those in the statements. -/
import Derived.Test.YtohnaepcgnbaiaaGreatDoorJkElj
import Derived.Test.YtohnaepcgnbaiaaGreatDoorJkSdj
import Derived.Test.YtohnaepcgnbaiaaGreatDoorJkRmj
import Derived.Test.YtohnaepcgnbaiaaGreatDoorJkPkj
set_option linter.unusedSimpArgs false
set_option linter.unusedVariables false
set_option maxRecDepth 100000
namespace Go.Proofs.YtohnaepcgnbaiaaGreatDoor
open Go.RowKit
attribute [-go_sem] bJ cX bH bG aT cU cT
def Dom4 (ds:List (List UInt8×Nat))(o:List (List Nat))(D:List Nat):Prop:=∀d,d∈D->(∃nm,ds[d]?=some (nm,4))/\(o.getD d []).length=2
theorem Dom4.lt {ds:List (List UInt8×Nat)}{o:List (List Nat)}{D:List Nat}(h:Dom4 ds o D):∀d,d∈D->d<ds.length:=fun d hd=>by
 obtain⟨nm,e⟩:=(h d hd).1
 exact(x_.1 e).1
theorem Dom4.vl {ds:List (List UInt8×Nat)}{o:List (List Nat)}:∀{D:List Nat},Dom4 ds o D->(aj o D).length=2 * D.length
 |[],_=>by simp[aj]
 |d::D,h=>by
  have ih:=Dom4.vl (D:=D) fun k hk=>h k (List.mem_cons_of_mem _ hk)
  have h2:=(h d (List.mem_cons_self ..)).2
  have e:aj o (d::D)=o.getD d []++aj o D:=by simp[aj]
  rw[e,p_,List.length_cons]
  omega
theorem kT {ds:List (List UInt8×Nat)}{d:Nat}{x:List UInt8×Nat}(h:ds[d]?=some x):(szC ds)[d]?=some [.int .i64 (x.2:Int)]:=by simp[szC,h]
theorem E8 {vs:List Nat}(h:vs.length=2)(x:Nat->Bool):ge vs 0 3 x=true:=by
 have:=jO vs x
 rw[h]at this
 simp[ge]
 omega
theorem OpF.then {s:St}{K:OB}{n B N N2:Nat}{ns:List Tr}{f g:(Nat->Bool)->Bool}{a b:gJ}(h:OpF s K n B ns N f a)(k:OpF a.1 a.2.1 n B a.2.2 N2 g b):OpF s K n B ns N2 g b:=by
 obtain⟨x,hx⟩:=h.pre
 obtain⟨y,hy⟩:=k.pre
 exact⟨k.m,⟨x++y,by rw[hy,hx,List.append_assoc]⟩,k.mem,k.cnt,h.k.trans k.k⟩
theorem OpF.also {s:St}{K:OB}{n B N:Nat}{ns:List Tr}{f g:(Nat->Bool)->Bool}{a:gJ}(h:OpF s K n B ns N g a)(hf:treeT n f∈ns):OpF s K n B ns N f a/\ixF n a.2.2 f=ixF n ns f:=
 ⟨⟨h.m,h.pre,(bn h.pre hf).1,h.cnt,h.k⟩,(bn h.pre hf).2⟩
theorem OpF.new {s u u':St}{K K':OB}{n B N:Nat}{ns ns':List Tr}{f:(Nat->Bool)->Bool}(h:OpF s K n B ns N f (u,K',ns'))(hu:∀z,u z≠.free->u' z=u z):OpF s K n B ns N f (u',K',ns'):=
 ⟨h.m.keep fun z hz=>hu z (h.m.live hz),h.pre,h.mem,h.cnt,⟨h.k.p,h.k.q,h.k.o,h.k.nw,fun z hz hn=>by
  have e:=h.k.out z hz hn
  dsimp only at e ⊢
  rw[hu z (by rw[e];exact hz),e]⟩⟩
theorem OpF.set {s u:St}{K K':OB}{n B N b:Nat}{ns ns':List Tr}{f:(Nat->Bool)->Bool}{x:Cell}(h:OpF s K n B ns N f (u,K',ns'))(hb:¬ K'.has b)(hs:s b=.free):OpF s K n B ns N f (u.set b x,K',ns'):=
 ⟨h.m.keep fun z hz=>j_ _ _ fun e=>hb (e ▸ hz),h.pre,h.mem,h.cnt,⟨h.k.p,h.k.q,h.k.o,h.k.nw,fun z hz hn=>(j_ _ _ fun e=>hz (by rw[e];exact hs)).trans (h.k.out z hz hn)⟩⟩
set_option maxHeartbeats 8000000 in
theorem xY {s:St}{KK:OB}{x m q c n B N:Nat}{ns:List Tr}{ds:List (List UInt8×Nat)}{o:List (List Nat)}(hM:RMem s KK x m q c n B ns ds o)(hD:DOk n ds o){f:(Nat->Bool)->Bool}(X:List (List VV))(oA:Own)(D:List Nat)(o2:Own)(h4:Dom4 ds o D)(hl:D.length<=8)(hf:DepF (aj o D) f)(mf:treeT n f∈ns)
  (hc:CntN ns N) (hB:N+D.length * (20+2 ^ (2 * D.length))<=B) :
  SCalls Tryz.prog 35 [.ptr x 0,.agg [.lst X oA,.lst (ak D) o2,.int .i64 (ixF n ns f:Nat)]] s fun w u=>∃a:gJ,w=.ret (.tup [.agg [.lst X oA,.lst (ak D) o2,.int .i64 (ixF n ns f:Nat)],.int .i64 0])/\u=a.1/\OpF s KK n B ns (N+D.length * (20+2 ^ (2 * D.length))) f a:=by
 obtain⟨R,hR⟩:∃R,R=20+2 ^ (2 * D.length):=⟨_,rfl⟩
 rw[<- hR]at hB ⊢
 have hvl:=h4.vl
 obtain⟨kf,hkf⟩:∃k,k=ixF n ns f:=⟨_,rfl⟩
 rw[<- hkf]
 have hdl:=natsL_len (ks:=D)
 have hat:=fun(i k:Nat) (h:D[i]?=some k)=>aH h
 have hlt:=h4.lt
 obtain⟨a0,hx⟩:=hM.xf
 unfold spC at hx
 have wrng:=fun(u:St) (K:OB) (ns1:List Tr) (N1 d:Nat) (h:OpF s KK n B ns N1 f (u,K,ns1)) (hd:d∈D) (hN:N1+20<=B)=>show OpFC 68 [.ptr c 0,.int .i64 (d:Int),.int .i64 0,.int .i64 3] u K n B ns1 (N1+20) (ge (o.getD d []) 0 3) from by
  obtain⟨⟨nm,e⟩,e2⟩:=h4 d hd
  have w:=Na (lo:=0) (hi:=3) (hM.C.keep h.m h.k) hD e (hD.getD (hlt d hd)).1 (by omega) (by omega) h.cnt (by rw[e2];omega)
  rw[e2]at w
  exact w
 have wand:=fun(u:St) (K:OB) (ns1:List Tr) (N1 d:Nat) (h:OpF s KK n B ns N1 f (u,K,ns1)) (hd:d∈D) (u1:St) (K1:OB) (ns2:List Tr) (h1:OpF u K n B ns1 (N1+20) (ge (o.getD d []) 0 3) (u1,K1,ns2)) (hN:N1+R<=B)=>
  show SCalls Tryz.prog 40 [.ptr KK.o 0,.int .i64 (kf:Int),.int .i64 (ixF n ns2 (ge (o.getD d []) 0 3):Nat)] u1 (fun w u=>∃a:gJ,w=.ret (.tup [.int .i64 (kf:Int),.int .i64 0])/\u=a.1/\OpF s KK n B ns (N1+R) f a/\OKeep u1 a.1 K1 a.2.1) from by
  have h2:=h.then h1
  have hfS:=hf.hang (aJ hD hlt)
  have hgS:ep n (ge (o.getD d []) 0 3):=(BR _ _ _).hang (hD.getD (hlt d hd)).2.2
  have hfg:(fun y=>f y && ge (o.getD d []) 0 3 y)=f:=by funext y;rw[E8 (h4 d hd).2,Bool.and_true]
  obtain⟨h3,h3e⟩:=h2.also (f:=f) mf
  dsimp only at h3e
  have hs:SubN (treeT n fun y=>f y && ge (o.getD d []) 0 3 y) (2 ^ (2 * D.length)):=by rw[hfg];exact(di (aJ hD hlt) hf (by rw[hvl];exact Nat.le_refl _)).mono (Nat.sub_le _ _)
  have w:=vS h2.m hfS hgS h3.mem h2.mem h2.cnt hs (by omega)
  rw[hfg]at w
  dsimp only at w
  rw[h3e,<- hkf,h2.k.o]at w
  refine SCalls.mono (h:=w) ?_
  rintro v u ⟨a,rfl,rfl,h5⟩
  have h6:=h3.then h5
  have e7:=(h6.also (f:=f) mf).2
  refine⟨a,by rw[e7,<- hkf],rfl,⟨h6.m,h6.pre,h6.mem,?_,h6.k⟩,h5.k⟩
  have:=h6.cnt
  rwa [show N1+20+2 ^ (2 * D.length)=N1+R by omega]at this
 have wq:=fun(u:St) (K:OB) (ns1:List Tr) (N1:Nat) (g:(Nat->Bool)->Bool) (h:OpF s KK n B ns N1 g (u,K,ns1))=>dD u q KK.o KK.s.p (by have:=(hM.C.keep h.m h.k).qo;dsimp only at this;rw[h.k.o,h.k.p]at this;exact this)
 have hxo:=fun(u:St) (K:OB) (ns1:List Tr) (N1:Nat) (g:(Nat->Bool)->Bool) (h:OpF s KK n B ns N1 g (u,K,ns1))=>(h.k.out x hM.xl hM.xk).trans hx
 have hsz:=fun d (hd:d∈D)=>show (szC ds)[d]?=some [.int .i64 4] from by obtain⟨nm,e⟩:=(h4 d hd).1;exact kT e
 have hI0:OpF s KK n B ns (N+0 * R) f (s,KK,ns):=⟨hM.C.om,⟨[],by simp⟩,mf,by simpa using hc,.refl _ _⟩
 have HAT:=o_ hat
 have WR:=o_ wrng
 have WA:=o_ wand
 have WQ:=o_ wq
 have HX:=o_ hxo
 have HS:=o_ hsz
 have HI0:=o_ hI0
 have HM:=o_ hM
 clear hat wrng wand wq hxo hsz hI0 hM h4 hf mf hc hlt hx hkf hvl
 generalize ak D=V at *
 generalize szC ds=SZ at *
 refine am Tryz.func35 rfl Tryz.ntmps35 rfl fun Q hQ hQe=>?_
 (repeat'(first|refine Ctl ?_|((with_reducible refine k_ hK ?_);clear hK hE K E)|((first|(with_reducible refine ab fun K E hK hE=>?_)|((with_reducible refine au (fun b hb=>?_));(repeat(obtain⟨_,hb⟩:=hb))))<;>(try simp(disch:=omega) only[go_sem,seval,hdl, *]))))
 rename_i b3 hb3 n34 n43
 obtain⟨b4,hb4e⟩:∃z,z=b:=⟨_,rfl⟩
 subst hb4e
 have hb4:s b4=.free:=hb
 obtain⟨u0,hu0⟩:∃u,u=(s.set b3 (.obj 30 [.lst X oA,.lst V o2,.int .i64 (kf:Int)])).set b4 (.obj 30 [.lst [] .full,.lst [] .full,.int .i64 0]):=⟨_,rfl⟩
 rw[<- hu0]
 have g0:∀z,s z≠.free->u0 z=s z:=fun z hz=>by rw[hu0,j_ _ _ (nef hb4 hz).1,j_ _ _ (nef hb3 hz).1]
 have k3:u0 b3=.obj 30 [.lst X oA,.lst V o2,.int .i64 (kf:Int)]:=by rw[hu0,j_ _ _ n43,q_]
 have k4:u0 b4=.obj 30 [.lst [] .full,.lst [] .full,.int .i64 0]:=by rw[hu0,q_]
 have hI:=o_ (HI0.out.new g0)
 have HB4:=o_ hb4
 clear hu0 g0 hb HI0 hb3 hb4
 refine aY (fun fu env s'=>∃(i:Nat) (K':OB) (ns':List Tr),i<=D.length/\fu+i=D.length/\Hid (OpF s KK n B ns (N+i * R) f (s',K',ns'))/\s' b3=.obj 30 [.lst X oA,.lst V o2,.int .i64 (kf:Int)]/\s' b4=.obj 30 [.lst [] .full,.lst [] .full,.int .i64 0]/\env 0=.ptr x 0/\env 3=.ptr b3 0/\env 4=.ptr b4 0/\env 11=.lst V o2/\env 12=.int .i64 D.length/\env 13=.int .i64 i) D.length
  ⟨0,KK,ns,by omega,by omega,hI,k3,k4,ac,ac,ac,ac,ac,ac⟩ ?_
 clear hI k3 k4
 rintro fu env s' ⟨i,K',ns',hi,hmi,HI,k3,k4,e0,e3,e4,e11,e12,e13⟩
 by_cases h2:i<D.length
 ·have hk:=m_ h2
  have hdm:=List.getElem_mem h2
  have hv:=HAT.out _ _ hk
  have hs4:=HS.out _ hdm
  have hN:N+i * R+R<=B:=by
   have:=Nat.mul_le_mul_right R (show i+1<=D.length by omega)
   rw[Nat.add_mul,Nat.one_mul]at this
   omega
  have hR20:20<=R:=by rw[hR];exact Nat.le_add_right 20 _
  have hxx:=HX.out _ _ _ _ _ HI.out
  dsimp only at hxx
  have wr:=WR.out _ _ _ _ _ HI.out hdm (by omega)
  have WA2:=o_ (fun u1 K1 ns2 h1=>WA.out _ _ _ _ _ HI.out hdm u1 K1 ns2 h1 hN)
  have HN:=o_ hN
  generalize D[i]=d at *
  have hw3:IntKind.i64.wrap (4 - 1)=3:=by decide
  unfold OpFC at wr
  clear hk hdm hN hR20
  (repeat'(first|refine Ctl ?_|(with_reducible first|(refine k_ hK ?_;clear hK hE K E)|(refine k_ hKh ?_;clear hKh Kh)|refine ax 4 [([0,1,2,3,4,5,6,7,8,9,10,11,12],13,[[]])] [14,15,16,17,18] hQe fun K E hK hE=>?_)|((with_reducible refine ah (fun h=>?_) (fun h=>?_))<;>(try(exfalso;assumption)))|(((with_reducible first|refine ab fun K E hK hE=>?_|refine ay fun Kh hKh=>?_|refine aB fun Kb hKb=>?_))<;>(try simp(disch:=omega) only[go_sem,seval,hv,hs4,hw3, *]))))
  refine ao P6 wr (fun a h=>?_)
  obtain⟨u1,K1,ns1⟩:=a
  have wa:=WA2.out _ _ _ h
  have h12:=HI.out.then h
  have wq:=WQ.out _ _ _ _ _ h12
  have hx1:=HX.out _ _ _ _ _ h12
  have j3:=(h.k.out b3 (by rw[k3];simp) (HI.out.m.types k3 (by decide) (by decide) (by decide))).trans k3
  have j4:=(h.k.out b4 (by rw[k4];simp) (HI.out.m.types k4 (by decide) (by decide) (by decide))).trans k4
  have HO1:=o_ h.m
  dsimp only at hx1 j3 j4 HO1 ⊢
  clear h wr h12 WA2 k3 k4 hxx
  generalize ixF n ns1 (ge (o.getD d []) 0 3)=kz at *
  simp only[go_sem,seval]
  (repeat'(first|refine Ctl ?_|(with_reducible first|(refine k_ hK ?_;clear hK hE K E)|(refine k_ hKh ?_;clear hKh Kh)|(refine k_ hKb (aC ?_);clear hKb Kb)|refine ax 6 [([0,1,2,3,5,6,7],4,[[5,6,7]]),([],8,[[],[]]),([9,10,11,12],13,[[11],[],[]])] [14] hQe fun K E hK hE=>?_)|((with_reducible refine ah (fun h=>?_) (fun h=>?_))<;>(try(exfalso;assumption)))|(((with_reducible first|refine ab fun K E hK hE=>?_|refine ae dK (wq) ?_|refine ay fun Kh hKh=>?_|refine aG fun Kh hKh=>?_|refine aB fun Kb hKb=>?_))<;>(try simp(disch:=omega) only[go_sem,seval, *]))))
  refine ao BI wa (fun a h=>?_)
  obtain⟨u2,K2,ns2⟩:=a
  obtain⟨hF,hKp⟩:=h
  have l3:=(hKp.out b3 (by rw[j3];simp) (HO1.out.types j3 (by decide) (by decide) (by decide))).trans j3
  have l4:=(hKp.out b4 (by rw[j4];simp) (HO1.out.types j4 (by decide) (by decide) (by decide))).trans j4
  dsimp only at l3 l4 ⊢
  have HF:Hid (OpF s KK n B ns (N+(i+1) * R) f (u2.set b3 (.obj 30 [.lst X oA,.lst V o2,.int .i64 (kf:Int)]),K2,ns2)):=o_ (by rw[v_ _ _ _ l3,Nat.add_mul,Nat.one_mul,<- Nat.add_assoc];exact hF)
  clear hF hKp wa wq hx1 j3 j4
  simp only[go_sem,seval]
  (repeat'(first|refine Ctl ?_|(with_reducible first|(refine k_ hK ?_;clear hK hE K E)|(refine k_ hKh ?_;clear hKh Kh)|(refine k_ hKb (aC ?_);clear hKb Kb))|((with_reducible refine ah (fun h=>?_) (fun h=>?_))<;>(try(exfalso;assumption)))|(((with_reducible first|refine ab fun K E hK hE=>?_|refine ay fun Kh hKh=>?_|refine aG fun Kh hKh=>?_|refine aB fun Kb hKb=>?_))<;>(try simp(disch:=omega) only[go_sem,seval, *]))))
  all_goals exact⟨fu - 1,by omega,i+1,K2,ns2,by omega,by omega,HF,q_ _ _ _,(j_ _ _ n34).trans l4,ac,ac,ac,ac,ac,ac⟩
 ·have hin:i=D.length:=by omega
  have h1:=HI.out
  rw[hin]at h1
  have HF:=o_ fun c=>h1.set (x:=c) (HI.out.m.types k4 (by decide) (by decide) (by decide)) HB4.out
  clear h1
  (repeat'(first|refine Ctl ?_|((with_reducible refine k_ hK ?_);clear hK hE K E)|((with_reducible refine ah (fun h=>?_) (fun h=>?_))<;>(try(exfalso;omega)))|(((with_reducible refine ab fun K E hK hE=>?_))<;>(try simp(disch:=omega) only[go_sem,seval, *]))))
  all_goals(refine aq Gi hQ ?_)
  all_goals exact⟨_,_,Wk.refl _,Fg.refl _,(_,K',ns'),rfl,rfl,HF.out _⟩
end Go.Proofs.YtohnaepcgnbaiaaGreatDoor
namespace Go.Proofs.YtohnaepcgnbaiaaGreatDoor
open Go.RowKit
attribute [-go_sem] bJ cX bH bG aT cU cT
abbrev gI:=St×OB×Nat×List Tr
structure RelR (s:St) (K:OB) (x m q c n B:Nat) (ns:List Tr) (ds:List (List UInt8×Nat)) (o:List (List Nat)) (N':Nat) (g:(Nat->Bool)->Bool) (a:gI):Prop where
 M:RMem a.1 a.2.1 x a.2.2.1 q c n B a.2.2.2 ds o
 pre:∃l,a.2.2.2=ns++l
 mem:treeT n g∈a.2.2.2
 cnt:CntN a.2.2.2 N'
 k:RKeep s a.1 K a.2.1 x m a.2.2.1
section
variable {s u : St} {K K' : OB} {x m m' q c n B N N2 : Nat} {ns ns' : List Tr} {ds : List (List UInt8 × Nat)} {o : List (List Nat)} {f g : (Nat -> Bool) -> Bool}
theorem RelR.op {a:gJ}(hM:RMem s K x m q c n B ns ds o)(h:OpF s K n B ns N f a):RelR s K x m q c n B ns ds o N f (a.1,a.2.1,m,a.2.2):=
 ⟨hM.op h.m h.pre h.k,h.pre,h.mem,h.cnt,hM.kp h.k⟩
theorem RelR.win (hM:RMem u K x m' q c n B ns ds o)(hk:RKeep s u K K x m m')(mf:treeT n f∈ns)(hc:CntN ns N):RelR s K x m q c n B ns ds o N f (u,K,m',ns):=
 ⟨hM,⟨[],by simp⟩,mf,hc,hk⟩
theorem RelR.then {a b:gI}(h:RelR s K x m q c n B ns ds o N f a)(k:RelR a.1 a.2.1 x a.2.2.1 q c n B a.2.2.2 ds o N2 g b):RelR s K x m q c n B ns ds o N2 g b:=by
 obtain⟨l1,e1⟩:=h.pre
 obtain⟨l2,e2⟩:=k.pre
 exact⟨k.M,⟨l1++l2,by rw[e2,e1,List.append_assoc]⟩,k.mem,k.cnt,h.k.trans k.k⟩
theorem RelR.also {a:gI}(h:RelR s K x m q c n B ns ds o N g a)(hf:treeT n f∈ns):RelR s K x m q c n B ns ds o N f a/\ixF n a.2.2.2 f=ixF n ns f:=
 ⟨⟨h.M,h.pre,(bn h.pre hf).1,h.cnt,h.k⟩,(bn h.pre hf).2⟩
theorem RelR.mono {a:gI}(h:RelR s K x m q c n B ns ds o N f a)(hN:N<=N2):RelR s K x m q c n B ns ds o N2 f a:=⟨h.M,h.pre,h.mem,h.cnt.mono hN,h.k⟩
theorem RelR.new {a:gI}{u':St}(h:RelR s K x m q c n B ns ds o N f a)(hu:∀z,a.1 z≠.free->u' z=a.1 z):RelR s K x m q c n B ns ds o N f (u',a.2):=
 ⟨h.M.more hu,h.pre,h.mem,h.cnt,⟨h.k.p,h.k.q,h.k.o,h.k.nw,fun z hz hn=>by
  have e:=h.k.out z hz hn
  show u' z=s z
  rw[hu z (by rw[e];exact hz),e]⟩⟩
theorem RelR.own {a:gI}{b:Nat}{T:TypeId}{xs:List VV}(h:RelR s K x m q c n B ns ds o N f a)(hM:RMem s K x m q c n B ns ds o)(hb:s b=.obj T xs)(h1:T≠107)(h2:T≠161)(h3:T≠123)(h4:T≠73):a.1 b=.obj T xs:=by
 refine(h.k.out b (by rw[hb];simp) ?_).trans hb
 rintro(e|e|e)
 ·exact hM.C.om.types hb h1 h2 h3 e
 ·obtain⟨y,hy⟩:=hM.xf
  rw[e,hy]at hb
  injection hb with hb
  exact h4 hb.symm
 ·rcases hM.sp with ⟨e1,hy⟩|⟨me,_,hy,_⟩
  ·rw[e,e1,hy]at hb
   injection hb with hb
   exact h4 hb.symm
  ·rw[e,hy]at hb;cases hb
end
structure Rel4 (ds:List (List UInt8×Nat)) (o:List (List Nat)) (A:List (List UInt8)) (D:List Nat):Prop where
 nm:bi A
 ln:A.length=D.length
 nd:D.Nodup
 d4:Dom4 ds o D
theorem Rel4.l8 {ds:List (List UInt8×Nat)}{o:List (List Nat)}{A:List (List UInt8)}{D:List Nat}(h:Rel4 ds o A D):D.length<=8:=by rw[<- h.ln];exact h.nm.2.2
theorem Rel4.ok {n:Nat}{ns:List Tr}{ds:List (List UInt8×Nat)}{o:List (List Nat)}{A:List (List UInt8)}{D:List Nat}(hD:DOk n ds o)(h:Rel4 ds o A D){f:(Nat->Bool)->Bool}(hf:DepF (aj o D) f)(mf:treeT n f∈ns):RelOk ns ds o ⟨A,D,treeT n f⟩:=
 ⟨h.nm,h.ln,h.nd,h.d4.lt,mf,eH (aJ hD h.d4.lt) hf⟩
set_option maxHeartbeats 8000000 in
theorem y5 {s:St}{KK:OB}{x m q c n B N:Nat}{ns:List Tr}{ds:List (List UInt8×Nat)}{o:List (List Nat)}(hn64:n<=64)(hM:RMem s KK x m q c n B ns ds o)(hD:DOk n ds o){f:(Nat->Bool)->Bool}(A:List (List UInt8))(o1:Own)(D:List Nat)(o2:Own)(hR:Rel4 ds o A D)(hf:DepF (aj o D) f)(mf:treeT n f∈ns)
  (hc:CntN ns N) (hB:N+D.length * (20+2 ^ (2 * D.length))<=B) {most:Nat} (hmo:most<=16384) {rows:List (List Int)} (hr:dO (gq (treeT n f) o D)=rows) (hrl:rows.length<=most) :
  SCalls Tryz.prog 11 [.ptr x 0,.agg [.lst (az A) o1,.lst (ak D) o2,.int .i64 (ixF n ns f:Nat)],.int .i64 most] s fun w u=>∃a:gI,w=.ret (.tup [.lst (bh rows) .no,.int .i64 0])/\u=a.1/\RelR s KK x m q c n B ns ds o (N+D.length * (20+2 ^ (2 * D.length))) f a:=by
 have hl8:=hR.l8
 have hlen:(gq (treeT n f) o D).length<=most:=by
  have e1:=((List.perm_ext_iff_of_nodup (eB (gq (treeT n f) o D)).nodup (jb _ _ _)).2 fun r=>sortR_mem).length_eq
  rw[<- e1,hr]
  exact hrl
 have hvl:=hR.d4.vl
 have wm:=fun(u:St) (hu:∀z,s z≠.free->u z=s z)=>po hn64 (hM.more hu) hD [[.lst (az A) o1,.lst (ak D) o2,.int .i64 ((ixF n ns f:Nat):Int)]] .full (fun z hz=>by
  rw[a_]at hz
  exact⟨⟨A,D,treeT n f⟩,o1,o2,hz,hR.ok hD hf mf⟩) (by simp)
 have wc:=fun(u:St) (m':Nat) (h:RMem u KK x m' q c n B ns ds o)=>xY h hD (az A) o1 D o2 hR.d4 hl8 hf mf hc hB
 have wt:=fun(u:St) (K':OB) (ns':List Tr) (hC:CMem u K' q c n B ns' ds o) (hm:treeT n f∈ns')=>qL hC hD (by omega) D o2 hR.d4.lt (by omega) hR.nd hm (sV (aJ hD hR.d4.lt) hf) (by omega) hmo hlen
 rw[hr]at wt
 have WM:=o_ wm
 have WC:=o_ wc
 have WT:=o_ wt
 have HM:=o_ hM
 have HMF:=o_ mf
 have HC:=o_ hc
 clear wm wc wt hr hrl hlen hR hf mf hc hB hl8 hvl
 generalize bh rows=RW at *
 generalize hkf:ixF n ns f=kf at *
 have HKF:=o_ hkf
 clear hkf
 generalize az A=SA at *
 generalize hSV:ak D=V at *
 clear hSV
 refine am Tryz.func11 rfl Tryz.ntmps11 rfl fun Q hQ hQe=>?_
 (repeat'(first|refine Ctl ?_|((with_reducible refine k_ hK ?_);clear hK hE K E)|((first|(with_reducible refine ab fun K E hK hE=>?_)|((with_reducible refine au (fun b hb=>?_))))<;>(try simp(disch:=omega) only[go_sem,seval, *]))))
 obtain⟨b4,hb4e⟩:∃z,z=b:=⟨_,rfl⟩
 subst hb4e
 obtain⟨u0,hu0⟩:∃u,u=s.set b4 (.obj 30 [.lst SA o1,.lst V o2,.int .i64 (kf:Int)]):=⟨_,rfl⟩
 rw[<- hu0]
 have g0:∀z,s z≠.free->u0 z=s z:=fun z hz=>by rw[hu0,j_ _ _ (nef hb hz).1]
 have k0:u0 b4=.obj 30 [.lst SA o1,.lst V o2,.int .i64 (kf:Int)]:=by rw[hu0,q_]
 have wm:=WM.out u0 g0
 have G0:=o_ g0
 have HB4:Hid (s b4=.free):=o_ hb
 clear hu0 hb g0 WM
 refine ao oY wm (fun a h=>?_)
 obtain⟨u1,m1⟩:=a
 obtain⟨M1,K1⟩:=h
 dsimp only at M1 K1 ⊢
 have R1:=RelR.win M1 K1 HMF.out HC.out
 have k1:=R1.own (HM.out.more G0.out) k0 (by decide) (by decide) (by decide) (by decide)
 dsimp only at k1
 have wc:=WC.out u1 m1 M1
 have HM1:=o_ M1
 have HR1:=o_ R1
 clear wm M1 K1 R1 WC k0
 simp only[go_sem,seval]
 (repeat'(first|refine Ctl ?_|((with_reducible refine k_ hK ?_);clear hK hE K E)|((with_reducible refine ah (fun h=>?_) (fun h=>?_))<;>(try(exfalso;assumption)))|(((with_reducible refine ab fun K E hK hE=>?_))<;>(try simp(disch:=omega) only[go_sem,seval, *]))))
 refine ao GU wc (fun a h=>?_)
 obtain⟨u2,K2,ns2⟩:=a
 have k2:=(h.k.out b4 (by rw[k1];simp) (HM1.out.C.om.types k1 (by decide) (by decide) (by decide))).trans k1
 have R2:=(RelR.win (HM.out.more G0.out) (.new G0.out) HMF.out HC.out).then (HR1.out.then (RelR.op HM1.out h))
 have e:ixN ns2 (treeT n f)=kf:=(bn R2.pre HMF.out).2.trans HKF.out
 have wt:=WT.out u2 K2 ns2 R2.M.C R2.mem
 rw[e]at wt
 obtain⟨a2,hx2⟩:=R2.M.xf
 unfold spC at hx2
 dsimp only at k2 hx2 ⊢
 have HR2:=o_ R2
 have nbx:¬ x=b4:=fun e=>by rw[e,k2]at hx2;injection hx2 with e1;exact absurd e1 (by decide)
 clear h wc WT R2 e k1
 generalize szC ds=SZ at *
 simp only[go_sem,seval,k2]
 (repeat'(first|refine Ctl ?_|(with_reducible first|(refine k_ hK ?_;clear hK hE K E)|(refine k_ hKh ?_;clear hKh Kh)|refine ax 6 [([0,1,2,3,4,5,6,7,8],9,[[]])] [10,11,12,13] hQe fun K E hK hE=>?_)|((with_reducible refine ah (fun h=>?_) (fun h=>?_))<;>(try(exfalso;assumption)))|(((with_reducible first|refine ab fun K E hK hE=>?_|refine ay fun Kh hKh=>?_|refine aB fun Kb hKb=>?_))<;>(try simp(disch:=omega) only[go_sem,seval, *]))))
 rw[v_ _ _ _ k2]
 (repeat'(first|refine Ctl ?_|(with_reducible first|(refine k_ hK ?_;clear hK hE K E)|(refine k_ hKh ?_;clear hKh Kh)|(refine k_ hKb (aC ?_);clear hKb Kb))|(((with_reducible first|refine ae Qk (wt) ?_|refine aG fun Kh hKh=>?_))<;>(try simp(disch:=omega) only[go_sem,seval, *]))))
 all_goals(refine aq Gy hQ ?_)
 all_goals exact⟨_,_,Wk.refl _,Fg.refl _,(u2,K2,m1,ns2),rfl,rfl,HR2.out⟩
end Go.Proofs.YtohnaepcgnbaiaaGreatDoor
namespace Go.Proofs.YtohnaepcgnbaiaaGreatDoor
open Go.RowKit Go.Lib Go.Shelf
theorem zD:(Tryz.prog.info? 9).map (fun i=>((i.zero.map fun z=>z.cells.size),i.size,i.bytes))=some (some 1,1,16):=by kernel_rfl
theorem oT (b off n c:Nat)(news:List Value)(w:World)(hl:news.length=n * 1)(hn:n<=1000000)(hc:∀j u,news[j]?=some u->w.cell? ⟨b,off+j,none⟩=some u)(h1:∀u∈news,u.oneCell'=true) :
  Calls Tryz.prog 33 #[.slice (some ⟨b,off,none⟩) n c] w fun e w'=>∃v',e=.returned v'/\w'.ownsRow w.heap.size 9 1 v' n news/\v'≠.slice none 0 0/\Below w.heap.size w w':=by
 have hi:=zD
 cases hi0:Tryz.prog.info? 9 with
 |none=>rw[hi0]at hi;cases hi
 |some i0=>
  rw[hi0]at hi
  simp only[Option.map_some,Option.some.injEq,Prod.mk.injEq]at hi
  obtain⟨a1,a2,a3⟩:=hi
  obtain⟨z,hz,hz2⟩:=Option.map_eq_some_iff.1 a1
  exact Tryz.slices_Clone_f33 i0 z 1 16 hi0 hz a2 a3 hz2 (by omega) Tryz.sizeOf9 b off n c news w hl (by unfold maxLen;omega) (by omega) hc h1
theorem iA (s:St)(l:List (List UInt8))(ow:Own)(hl:l.length<=1000000):SRet Tryz.prog 33 [.lst (az l) ow] s (.lst (az l) .no) s:=by
 intro w0 G w vs hS hA
 obtain⟨v,rfl,hr⟩:=d7 hA
 by_cases hne:l=[]
 ·subst hne
  have key:∃(a:Option Addr) (cap:Nat),v=.slice a 0 cap:=by
   generalize hq:VV.lst (az []) ow=q at hr
   cases hr with
   |emp a cap o ho=>exact⟨a,cap,rfl⟩
   |lst b off len cap sz xs o f hl hc hz h1 hK hR ho=>
    injection hq with hq1 hq2
    subst hq1
    simp[az]at hl
    subst hl
    exact⟨_,_,rfl⟩
   |_=>cases hq
  obtain⟨a,cap,rfl⟩:=key
  cases a with
  |none=>
   refine(Tryz.slices_Clone_string_nil 0 cap w).mono ?_
   rintro e w' ⟨rfl,rfl⟩
   exact⟨G,s,.ret (.lst [] .no),Gh.le.refl G,hS,R.emp none 0 .no (.inl rfl),rfl,rfl⟩
  |some a=>
   refine(Tryz.slices_Clone_string_zero a cap w).mono ?_
   rintro e w' ⟨v',rfl,hown,_,hb⟩
   have hv:∃a' c',v'=.slice a' 0 c':=by
    rcases hown.2 with ⟨rfl,_⟩|⟨g,c2,cur,rfl,_⟩<;>exact⟨_,_,rfl⟩
   obtain⟨a',c',rfl⟩:=hv
   exact⟨G,s,.ret (.lst [] .no),Gh.le.refl G,hS.world hb,R.emp a' c' .no (.inl rfl),rfl,rfl⟩
 ·have hne2:az l≠[]:=fun e=>hne (by cases l;rfl;cases e)
  have hx:∀x,x∈az l->x.length=1:=fun x hx=>by obtain⟨y,_,rfl⟩:=A_.1 hx;rfl
  have hl2:(az l).length<=1000000:=by rw[dj];exact hl
  generalize az l=xs at *
  generalize hq:VV.lst xs ow=q at hr
  cases hr with
  |emp a cap o ho=>
   injection hq with hq1 hq2
   exact absurd hq1 hne2
  |lst b off len cap sz xs' o f h1 h2 h3 h4 h5 h6 h7=>
   injection hq with hq1 hq2
   subst hq1 hq2
   have hsz:sz=1:=by
    obtain⟨x,r,rfl⟩:=List.exists_cons_of_ne_nil hne2
    rw[<- h3 x (by simp),hx x (by simp)]
   subst hsz
   obtain⟨news,hnews⟩:∃news:List Value,news=(List.range len).map fun j=>f j 0:=⟨_,rfl⟩
   have hnl:news.length=len * 1:=by rw[hnews];simp
   have hna:∀j u,news[j]?=some u->j<len/\u=f j 0:=fun j u h=>by
    have hj:j<len:=by have:=(x_.1 h).1;omega
    refine⟨hj,?_⟩
    rw[hnews,n_,List.getElem?_range hj]at h
    injection h with h
    exact h.symm
   have hfo:∀j,j<len->(f j 0).oneCell'=true:=fun j hj=>by
    have h8:=m_ (show j<xs.length by omega)
    have hm:=List.getElem_mem (l:=xs) (n:=j) (by omega)
    have h9:=m_ (show 0<xs[j].length by rw[hx _ hm];omega)
    rw[(h6 _ _ _ _ h8 h9).one]
    exact h4 _ hm _ (List.getElem_mem _)
   refine(oT b off len cap news w hnl (by omega) (fun j u h=>?_) (fun u h=>?_)).mono ?_
   ·obtain⟨hj,rfl⟩:=hna j u h
    have:=hS.K _ _ _ (h5 j 0 (by omega) (by omega))
    rw[show j * 1+0=j by omega]at this
    exact this
   ·obtain⟨j,hj⟩:=d_.1 h
    obtain⟨hj2,rfl⟩:=hna j u hj
    exact hfo j hj2
   ·rintro e w' ⟨v',rfl,hown,_,hb⟩
    rcases hown.2 with ⟨_,h0⟩|⟨g,c2,cur,rfl,hge,hh,hcap,hm,hcs,hcur⟩
    ·exact absurd (l_ (h1.trans h0)) hne2
    ·obtain⟨G',k1,k2,k3⟩:=hS.know hb g hge (fun i=>if i<len * 1 then cur[i]? else none) fun i v hv=>by
      split at hv
      ·simp only[World.cell?,hh];exact hv
      ·cases hv
     refine⟨G',s,.ret (.lst xs .no),k1,k2,?_,rfl,rfl⟩
     refine .lst g 0 len c2 1 xs .no f h1 hcap h3 h4 (fun i j hi hj=>?_) (fun i j x y hx hy=>(h6 i j x y hx hy).mono k1) (.inl rfl)
     refine k3 _ _ ?_
     rw[Nat.zero_add,if_pos (by omega)]
     have hj0:j=0:=by omega
     subst hj0
     have hi2:(cur.toList.take (len * 1))[i]?=some (f i 0):=by
      rw[hcur,hnews,n_,List.getElem?_range (by omega)];rfl
     rw[List.getElem?_take_of_lt (by omega),Array.getElem?_toList]at hi2
     rw[show i * 1+0=i by omega]
     exact hi2
  |_=>cases hq
theorem pt (s:St)(l:List Nat)(ow:Own)(hl:l.length<=1000000):SRet Tryz.prog 34 [.lst (ak l) ow] s (.lst (ak l) .no) s:=by
 have h:=FH (l.map fun(k:Nat)=>(k:Int)) ow s (by rw[z_];omega)
 rw[<- cA]at h
 unfold cK at h
 rw[<- cA]at h
 exact h
end Go.Proofs.YtohnaepcgnbaiaaGreatDoor
namespace Go.Proofs.YtohnaepcgnbaiaaGreatDoor
open Go.RowKit Go.Lib Go.Shelf
section
variable {w0 w w' : World} {G : Gh} {s : St} {g n cap : Nat} {cur : Array Value} {T : TypeId}
theorem Sim.at_free (h:Sim w0 G w s)(hge:w.heap.size<=g):s g=.free:=by
 by_cases e:s g=.free
 ·exact e
 ·exact absurd (h.lt e) (by omega)
theorem Sim.knowR (h:Sim w0 G w s)(hb:Below w.heap.size w w')(hge:w.heap.size<=g)(hh:w'.heap[g]?=some (.cells cur T (0,0)))(hm:cap<=maxLen)(hs:cur.size=cap * 1){ys:List VV}(hl:ys.length<=cap)(hy:∀(i:Nat) (y:VV),ys[i]?=some y->y.one=true/\∃v,cur[i]?=some v/\R G v y) :
  ∃G',G.le G'/\Sim w0 G' w' (s.set g (.row T 1 ys))/\G'.cap g=some (cap,1):=by
 have hK0:∀i,G.K g i=none:=fun i=>by
  cases hk:G.K g i with
  |none=>rfl
  |some v=>exact absurd (h.K_lt hk) (by omega)
 have hc0:G.cap g=none:=by
  cases hk:G.cap g with
  |none=>rfl
  |some v=>exact absurd (h.cap _ _ hk) (by omega)
 have hle:G.le ⟨G.K,fun b'=>if b'=g then some (cap,1)else G.cap b'⟩:=⟨fun b' i v hv=>hv,fun b' c hv=>by
  by_cases e:b'=g
  ·subst e;rw[hc0]at hv;cases hv
  ·simp only[if_neg e];exact hv⟩
 have h1:=h.world hb
 have hgl:g<w'.heap.size:=(Array.getElem?_eq_some_iff.1 hh).1
 refine⟨_,hle,⟨h1.below,fun b' i v hv=>h1.K b' i v hv,fun b' c hv=>?_,fun b'=>?_,h.gl,?_⟩,by simp⟩
 ·by_cases e:b'=g
  ·subst e;exact hgl
  ·simp only[if_neg e]at hv
   exact h1.cap b' c hv
 ·by_cases e:b'=g
  ·subst e
   rw[q_]
   exact⟨Nat.le_trans h.size_le hge,hK0,cur,cap,hh,by simp,hs,by omega,hm,fun i y hi=>let ⟨a,v,b,c⟩:=hy i y hi;⟨a,v,b,c.mono hle⟩⟩
  ·rw[j_ _ _ e]
   exact(h1.ok b').keep rfl hle fun i=>rfl
 ·exact h.rows.keep' hle hb.size (fun g' hl hg'=>⟨by rw[j_ _ _ (by omega)];exact hg',hb.block g' hl,fun i=>rfl⟩) fun x T xs rs hx=>by
   by_cases e:x=g
   ·subst e;rw[q_]at hx;cases hx
   ·rw[j_ _ _ e]at hx
    exact⟨hx,hb.block x (h.lt (by rw[hx];simp))⟩
end
theorem lF (s:St)(l:List Nat)(ow:Own)(hne:l≠[])(hl:l.length<=1000000) :
  SCalls Tryz.prog 34 [.lst (ak l) ow] s fun w u=>∃a:St×Nat,w=.ret (.mrw a.2 l.length)/\u=a.1/\s a.2=.free/\a.1=s.set a.2 (.row 3 1 (l.map fun(k:Nat)=>.int .i64 (k:Int))):=by
 obtain⟨r,hr⟩:∃r,r=l.map fun(k:Nat)=>(k:Int):=⟨_,rfl⟩
 have hrl:r.length=l.length:=by rw[hr,z_]
 rw[cA,<- hr]
 intro w0 G w vs hS hA
 obtain⟨v,rfl,hrr⟩:=d7 hA
 obtain⟨ba,b,off,c,rfl,g1,k1⟩:=ig hrr
 rcases g1 with h0|rfl
 ·exact absurd (l_ (hrl.symm.trans h0)) hne
 ·refine(Tryz.slices_Clone_int b off r.length c r w (Nat.le_refl _) (by omega) fun j hj=>hS.K _ _ _ (k1 j _ (by rw[m_ hj,List.getD_eq_getElem?_getD,m_ hj];rfl))).mono ?_
  rintro e w' ⟨v',rfl,ho,_,hb⟩
  rw[b_]at ho
  rcases ho.2 with ⟨_,h0⟩|⟨g,cap,cur,rfl,hge,hh,hcap,hm,hcs,hcur⟩
  ·exact absurd (l_ (hrl.symm.trans h0)) hne
  ·have hys:∀(i:Nat) (y:VV),(l.map fun(k:Nat)=>VV.int .i64 (k:Int))[i]?=some y->y.one=true/\∃v,cur[i]?=some v/\R G v y:=fun i y hy=>by
    rw[n_]at hy
    obtain⟨k,hk,rfl⟩:=Option.map_eq_some_iff.1 hy
    have hi:i<l.length:=(x_.1 hk).1
    refine⟨rfl,.int .i64 (k:Int),?_,.int _ _⟩
    have h4:(cur.toList.take (r.length * 1))[i]?=some (.int .i64 (k:Int)):=by
     rw[hcur,hr,List.map_map,n_,hk];rfl
    rw[List.getElem?_take_of_lt (by omega),Array.getElem?_toList]at h4
    exact h4
   obtain⟨G',a1,a2,a3⟩:=hS.knowR hb hge hh hm hcs (ys:=l.map fun(k:Nat)=>VV.int .i64 (k:Int)) (by rw[z_];omega) hys
   refine⟨G',_,.ret (.mrw g l.length),a1,a2,?_,(_,g),rfl,rfl,hS.at_free hge,rfl⟩
   rw[hrl]
   exact .mrw g l.length cap 1 a3 (by omega)
end Go.Proofs.YtohnaepcgnbaiaaGreatDoor
namespace Go.Proofs.YtohnaepcgnbaiaaGreatDoor
open Go.RowKit
section
variable {G : Gh} {v : Value} {g n : Nat} {xs : List VV} {a c r : VV}
theorem R.frz2 (hn:xs.length=n)(hK:∀(i:Nat) (y:VV),xs[i]?=some y->y.one=true/\∃v,G.K g i=some v/\R G v y)(hr:R G v (.tup [.agg [a,.mrw g n,c],r])):R G v (.tup [.agg [a,.lst (xs.map fun y=>[y]) .no,c],r]):=by
 generalize hq:VV.tup [.agg [a,.mrw g n,c],r]=q at hr
 cases hr with
 |tup vs ys hs hR=>
  injection hq with hq
  subst hq
  refine .tup vs _ hs fun j v y hv hy=>?_
  match j with
  |0=>
   have hy:VV.agg [a,.lst (xs.map fun y=>[y]) .no,c]=y:=by simpa using hy
   subst hy
   have h0:=hR 0 v _ hv rfl
   generalize hq2:VV.agg [a,.mrw g n,c]=q2 at h0
   cases h0 with
   |agg us zs hs2 h1 hR2=>
    injection hq2 with hq2
    subst hq2
    refine .agg us _ hs2 (fun y hy=>?_) fun k w y hw hy=>?_
    ·simp only[AT,List.not_mem_nil,or_false]at hy
     rcases hy with rfl|rfl|rfl
     ·exact h1 _ (by simp)
     ·rfl
     ·exact h1 _ (by simp)
    ·match k with
     |0=>exact hR2 0 w y hw hy
     |1=>
      have hy:VV.lst (xs.map fun y=>[y]) .no=y:=by simpa using hy
      subst hy
      exact R.frz hn hK (hR2 1 w _ hw rfl)
     |2=>exact hR2 2 w y hw hy
     |k+3=>simp at hy
   |_=>cases hq2
  |1=>exact hR 1 v y hv hy
  |j+2=>simp at hy
 |_=>cases hq
end
theorem SCalls.frz2 {P:Program}{s:St}{f:FuncId}{xs:List VV}{Q:SEnd->St->Prop}
  (h:SCalls P f xs s fun e t=>∃(a c r:VV) (g n:Nat) (T:TypeId) (ys:List VV),e=.ret (.tup [.agg [a,.mrw g n,c],r])/\t g=.row T 1 ys/\ys.length=n/\Q (.ret (.tup [.agg [a,.lst (ys.map fun y=>[y]) .no,c],r])) (t.set g .free)):SCalls P f xs s Q:=by
 intro w0 G w vs hS hR
 refine(h w0 G w vs hS hR).mono ?_
 rintro e w' ⟨G',s',x,hG,hS',hE,a,c,r,g,n,T,ys,rfl,hg,hn,hq⟩
 obtain⟨G2,hle,hS2,hK,_⟩:=hS'.frzR hg
 refine⟨G2,_,_,hG.trans hle,hS2,?_,hq⟩
 cases e with
 |returned v=>exact R.frz2 hn hK (R.mono hle hE)
 |_=>exact hE
end Go.Proofs.YtohnaepcgnbaiaaGreatDoor
