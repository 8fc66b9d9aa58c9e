/- Walks. Conditions: in the statements. -/
import Derived.Test.YtohnaepcgnbaiaaGreatDoorJlElj
import Derived.Test.YtohnaepcgnbaiaaGreatDoorJlSdj
set_option maxHeartbeats 32000000
set_option linter.unusedSimpArgs false
set_option linter.unusedVariables false
set_option maxRecDepth 100000
namespace Go.Proofs.YtohnaepcgnbaiaaGreatDoor
open Go.RowKit
attribute [-go_sem] bJ cX bH bG aT cU cT
def Dom4 (ds:TN)(o:TU)(D:TW):Prop:=∀d,d∈D->(∃nm,ds[d]?=some (nm,4))/\(o.getD d []).length=2
theorem Dom4.lt {ds:TN}{o:TU}{D:TW}(h:Dom4 ds o D):∀d,d∈D->d<ds.length:=fun d hd=>by
 obtain⟨nm,e⟩:=(h d hd).1
 exact(x_.1 e).1
theorem Dom4.vl {ds:TN}{o:TU}:∀{D:TW},Dom4 ds o D->(aj o D).length=2 * D.length
 |[],_=>by simp[aj]
 |d::D,h=>by
  have ih:=Dom4.vl (D:=D) fun k hk=>h k (List.mem_cons_of_mem _ hk)
  have h2:=(h d (List.mem_cons_self ..)).2
  have e:aj o (d::D)=o.getD d []++aj o D:=by simp[aj]
  rw[e,p_,List.length_cons]
  omega
theorem kT {ds:TN}{d:Nat}{x:TT×Nat}(h:ds[d]?=some x):(szC ds)[d]?=some [.int .i64 (x.2:Int)]:=by simp[szC,h]
theorem E8 {vs:TW}(h:vs.length=2)(x:Tg):ge vs 0 3 x=true:=by
 have:=jO vs x
 rw[h]at this
 simp[ge]
 omega
theorem OpF.then {s:St}{K:OB}{n B N N2:Nat}{ns:Td}{f g:Tf}{a b:gJ}(h:OpF s K n B ns N f a)(k:OpF a.1 a.2.1 n B a.2.2 N2 g b):OpF s K n B ns N2 g b:=by
 obtain⟨x,hx⟩:=h.pre
 obtain⟨y,hy⟩:=k.pre
 exact⟨k.m,⟨x++y,by rw[hy,hx,List.append_assoc]⟩,k.mem,k.cnt,h.k.trans k.k⟩
theorem OpF.also {s:St}{K:OB}{n B N:Nat}{ns:Td}{f g:Tf}{a:gJ}(h:OpF s K n B ns N g a)(hf:treeT n f∈ns):OpF s K n B ns N f a/\ixF n a.2.2 f=ixF n ns f:=
 ⟨⟨h.m,h.pre,(bn h.pre hf).1,h.cnt,h.k⟩,(bn h.pre hf).2⟩
theorem OpF.new {s u u':St}{K K':OB}{n B N:Nat}{ns ns':Td}{f:Tf}(h:OpF s K n B ns N f (u,K',ns'))(hu:∀z,u z≠.free->u' z=u z):OpF s K n B ns N f (u',K',ns'):=
 ⟨h.m.keep fun z hz=>hu z (h.m.live hz),h.pre,h.mem,h.cnt,⟨h.k.p,h.k.q,h.k.o,h.k.nw,fun z hz hn=>by
  have e:=h.k.out z hz hn
  dsimp only at e ⊢
  rw[hu z (by rw[e];exact hz),e]⟩⟩
theorem OpF.set {s u:St}{K K':OB}{n B N b:Nat}{ns ns':Td}{f:Tf}{x:Cell}(h:OpF s K n B ns N f (u,K',ns'))(hb:¬ K'.has b)(hs:s b=.free):OpF s K n B ns N f (u.set b x,K',ns'):=
 ⟨h.m.keep fun z hz=>j_ _ _ fun e=>hb (e ▸ hz),h.pre,h.mem,h.cnt,⟨h.k.p,h.k.q,h.k.o,h.k.nw,fun z hz hn=>(j_ _ _ fun e=>hz (by rw[e];exact hs)).trans (h.k.out z hz hn)⟩⟩
theorem xY {s:St}{KK:OB}{x m q c n B N:Nat}{ns:Td}{ds:TN}{o:TU}(hM:RMem s KK x m q c n B ns ds o)(hD:DOk n ds o){f:Tf}(X:Ta)(oA:Own)(D:TW)(o2:Own)(h4:Dom4 ds o D)(hl:D.length<=8)(hf:DepF (aj o D) f)(mf:treeT n f∈ns)
  (hc:CntN ns N) (hB:N+D.length * (20+2 ^ (2 * D.length))<=B) :
  SCalls Tryz.prog 35 [.ptr x 0,.agg [.lst X oA,.lst (ak D) o2,.int .i64 (ixF n ns f:Nat)]] s fun w u=>∃a:gJ,w=.ret (.tup [.agg [.lst X oA,.lst (ak D) o2,.int .i64 (ixF n ns f:Nat)],.int .i64 0])/\u=a.1/\OpF s KK n B ns (N+D.length * (20+2 ^ (2 * D.length))) f a:=by
 obtain⟨R,hR⟩:∃R,R=20+2 ^ (2 * D.length):=⟨_,rfl⟩
 rw[<- hR]at hB ⊢
 have hvl:=h4.vl
 obtain⟨kf,hkf⟩:∃k,k=ixF n ns f:=⟨_,rfl⟩
 rw[<- hkf]
 have hdl:=natsL_len (ks:=D)
 have hat:=fun(i k:Nat) (h:D[i]?=some k)=>aH h
 have hlt:=h4.lt
 obtain⟨a0,hx⟩:=hM.xf
 unfold spC at hx
 have wrng:=fun(u:St) (K:OB) (ns1:Td) (N1 d:Nat) (h:OpF s KK n B ns N1 f (u,K,ns1)) (hd:d∈D) (hN:N1+20<=B)=>show OpFC 68 [.ptr c 0,.int .i64 (d:Int),.int .i64 0,.int .i64 3] u K n B ns1 (N1+20) (ge (o.getD d []) 0 3) from by
  obtain⟨⟨nm,e⟩,e2⟩:=h4 d hd
  have w:=Na (lo:=0) (hi:=3) (hM.C.keep h.m h.k) hD e (hD.getD (hlt d hd)).1 (by omega) (by omega) h.cnt (by rw[e2];omega)
  rw[e2]at w
  exact w
 have wand:=fun(u:St) (K:OB) (ns1:Td) (N1 d:Nat) (h:OpF s KK n B ns N1 f (u,K,ns1)) (hd:d∈D) (u1:St) (K1:OB) (ns2:Td) (h1:OpF u K n B ns1 (N1+20) (ge (o.getD d []) 0 3) (u1,K1,ns2)) (hN:N1+R<=B)=>
  show SCalls Tryz.prog 40 [.ptr KK.o 0,.int .i64 (kf:Int),.int .i64 (ixF n ns2 (ge (o.getD d []) 0 3):Nat)] u1 (fun w u=>∃a:gJ,w=.ret (.tup [.int .i64 (kf:Int),.int .i64 0])/\u=a.1/\OpF s KK n B ns (N1+R) f a/\OKeep u1 a.1 K1 a.2.1) from by
  have h2:=h.then h1
  have hfS:=hf.hang (aJ hD hlt)
  have hgS:ep n (ge (o.getD d []) 0 3):=(BR _ _ _).hang (hD.getD (hlt d hd)).2.2
  have hfg:(fun y=>f y && ge (o.getD d []) 0 3 y)=f:=by funext y;rw[E8 (h4 d hd).2,Bool.and_true]
  obtain⟨h3,h3e⟩:=h2.also (f:=f) mf
  dsimp only at h3e
  have hs:SubN (treeT n fun y=>f y && ge (o.getD d []) 0 3 y) (2 ^ (2 * D.length)):=by rw[hfg];exact(di (aJ hD hlt) hf (by rw[hvl];exact Nat.le_refl _)).mono (Nat.sub_le _ _)
  have w:=vS h2.m hfS hgS h3.mem h2.mem h2.cnt hs (by omega)
  rw[hfg]at w
  dsimp only at w
  rw[h3e,<- hkf,h2.k.o]at w
  refine SCalls.mono (h:=w) ?_
  rintro v u ⟨a,rfl,rfl,h5⟩
  have h6:=h3.then h5
  have e7:=(h6.also (f:=f) mf).2
  refine⟨a,by rw[e7,<- hkf],rfl,⟨h6.m,h6.pre,h6.mem,?_,h6.k⟩,h5.k⟩
  have:=h6.cnt
  rwa [show N1+20+2 ^ (2 * D.length)=N1+R by omega]at this
 have wq:=fun(u:St) (K:OB) (ns1:Td) (N1:Nat) (g:Tf) (h:OpF s KK n B ns N1 g (u,K,ns1))=>dD u q KK.o KK.s.p (by have:=(hM.C.keep h.m h.k).qo;dsimp only at this;rw[h.k.o,h.k.p]at this;exact this)
 have hxo:=fun(u:St) (K:OB) (ns1:Td) (N1:Nat) (g:Tf) (h:OpF s KK n B ns N1 g (u,K,ns1))=>(h.k.out x hM.xl hM.xk).trans hx
 have hsz:=fun d (hd:d∈D)=>show (szC ds)[d]?=some [.int .i64 4] from by obtain⟨nm,e⟩:=(h4 d hd).1;exact kT e
 have hI0:OpF s KK n B ns (N+0 * R) f (s,KK,ns):=⟨hM.C.om,⟨[],by simp⟩,mf,by simpa using hc,.refl _ _⟩
 have HAT:=o_ hat
 have WR:=o_ wrng
 have WA:=o_ wand
 have WQ:=o_ wq
 have HX:=o_ hxo
 have HS:=o_ hsz
 have HI0:=o_ hI0
 have HM:=o_ hM
 clear hat wrng wand wq hxo hsz hI0 hM h4 hf mf hc hlt hx hkf hvl
 generalize ak D=V at *
 generalize szC ds=SZ at *
 refine am Tryz.func35 rfl Tryz.ntmps35 rfl fun Q hQ hQe=>?_
 (repeat'(first|refine Ctl ?_|((with_reducible refine k_ hK ?_);clear hK hE K E)|((first|(with_reducible refine ab fun K E hK hE=>?_)|((with_reducible refine au (fun b hb=>?_));(repeat(obtain⟨_,hb⟩:=hb))))<;>(try simp(disch:=omega) only[go_sem,seval,hdl, *]))))
 rename_i b3 hb3 n34 n43
 obtain⟨b4,hb4e⟩:∃z,z=b:=⟨_,rfl⟩
 subst hb4e
 have hb4:s b4=.free:=hb
 obtain⟨u0,hu0⟩:∃u,u=(s.set b3 (.obj 30 [.lst X oA,.lst V o2,.int .i64 (kf:Int)])).set b4 (.obj 30 [.lst [] .full,.lst [] .full,.int .i64 0]):=⟨_,rfl⟩
 rw[<- hu0]
 have g0:∀z,s z≠.free->u0 z=s z:=fun z hz=>by rw[hu0,j_ _ _ (nef hb4 hz).1,j_ _ _ (nef hb3 hz).1]
 have k3:u0 b3=.obj 30 [.lst X oA,.lst V o2,.int .i64 (kf:Int)]:=by rw[hu0,j_ _ _ n43,q_]
 have k4:u0 b4=.obj 30 [.lst [] .full,.lst [] .full,.int .i64 0]:=by rw[hu0,q_]
 have hI:=o_ (HI0.out.new g0)
 have HB4:=o_ hb4
 clear hu0 g0 hb HI0 hb3 hb4
 refine aY (fun fu env s'=>∃(i:Nat) (K':OB) (ns':Td),i<=D.length/\fu+i=D.length/\Hid (OpF s KK n B ns (N+i * R) f (s',K',ns'))/\s' b3=.obj 30 [.lst X oA,.lst V o2,.int .i64 (kf:Int)]/\s' b4=.obj 30 [.lst [] .full,.lst [] .full,.int .i64 0]/\env 0=.ptr x 0/\env 3=.ptr b3 0/\env 4=.ptr b4 0/\env 11=.lst V o2/\env 12=.int .i64 D.length/\env 13=.int .i64 i) D.length
  ⟨0,KK,ns,by omega,by omega,hI,k3,k4,ac,ac,ac,ac,ac,ac⟩ ?_
 clear hI k3 k4
 rintro fu env s' ⟨i,K',ns',hi,hmi,HI,k3,k4,e0,e3,e4,e11,e12,e13⟩
 by_cases h2:i<D.length
 ·have hk:=m_ h2
  have hdm:=List.getElem_mem h2
  have hv:=HAT.out _ _ hk
  have hs4:=HS.out _ hdm
  have hN:N+i * R+R<=B:=by
   have:=Nat.mul_le_mul_right R (show i+1<=D.length by omega)
   rw[Nat.add_mul,Nat.one_mul]at this
   omega
  have hR20:20<=R:=by rw[hR];exact Nat.le_add_right 20 _
  have hxx:=HX.out _ _ _ _ _ HI.out
  dsimp only at hxx
  have wr:=WR.out _ _ _ _ _ HI.out hdm (by omega)
  have WA2:=o_ (fun u1 K1 ns2 h1=>WA.out _ _ _ _ _ HI.out hdm u1 K1 ns2 h1 hN)
  have HN:=o_ hN
  generalize D[i]=d at *
  have hw3:IntKind.i64.wrap (4 - 1)=3:=by decide
  unfold OpFC at wr
  clear hk hdm hN hR20
  (repeat'(first|refine Ctl ?_|(with_reducible first|(refine k_ hK ?_;clear hK hE K E)|(refine k_ hKh ?_;clear hKh Kh)|refine ax 4 [([0,1,2,3,4,5,6,7,8,9,10,11,12],13,[[]])] [14,15,16,17,18] hQe fun K E hK hE=>?_)|((with_reducible refine bZ (fun h=>?_) (fun h=>?_))<;>(try(exfalso;assumption)))|(((with_reducible first|refine ab fun K E hK hE=>?_|refine ay fun Kh hKh=>?_|refine aB fun Kb hKb=>?_))<;>(try simp(disch:=omega) only[go_sem,seval,hv,hs4,hw3, *]))))
  refine ao P6 wr (fun a h=>?_)
  obtain⟨u1,K1,ns1⟩:=a
  have wa:=WA2.out _ _ _ h
  have h12:=HI.out.then h
  have wq:=WQ.out _ _ _ _ _ h12
  have hx1:=HX.out _ _ _ _ _ h12
  have j3:=(h.k.out b3 (by rw[k3];simp) (HI.out.m.types k3 (by decide) (by decide) (by decide))).trans k3
  have j4:=(h.k.out b4 (by rw[k4];simp) (HI.out.m.types k4 (by decide) (by decide) (by decide))).trans k4
  have HO1:=o_ h.m
  dsimp only at hx1 j3 j4 HO1 ⊢
  clear h wr h12 WA2 k3 k4 hxx
  generalize ixF n ns1 (ge (o.getD d []) 0 3)=kz at *
  simp only[go_sem,seval]
  (repeat'(first|refine Ctl ?_|(with_reducible first|(refine k_ hK ?_;clear hK hE K E)|(refine k_ hKh ?_;clear hKh Kh)|(refine k_ hKb (aC ?_);clear hKb Kb)|refine ax 6 [([0,1,2,3,5,6,7],4,[[5,6,7]]),([],8,[[],[]]),([9,10,11,12],13,[[11],[],[]])] [14] hQe fun K E hK hE=>?_)|((with_reducible refine bZ (fun h=>?_) (fun h=>?_))<;>(try(exfalso;assumption)))|(((with_reducible first|refine ab fun K E hK hE=>?_|refine ae dK (wq) ?_|refine ay fun Kh hKh=>?_|refine aG fun Kh hKh=>?_|refine aB fun Kb hKb=>?_))<;>(try simp(disch:=omega) only[go_sem,seval, *]))))
  refine ao BI wa (fun a h=>?_)
  obtain⟨u2,K2,ns2⟩:=a
  obtain⟨hF,hKp⟩:=h
  have l3:=(hKp.out b3 (by rw[j3];simp) (HO1.out.types j3 (by decide) (by decide) (by decide))).trans j3
  have l4:=(hKp.out b4 (by rw[j4];simp) (HO1.out.types j4 (by decide) (by decide) (by decide))).trans j4
  dsimp only at l3 l4 ⊢
  have HF:Hid (OpF s KK n B ns (N+(i+1) * R) f (u2.set b3 (.obj 30 [.lst X oA,.lst V o2,.int .i64 (kf:Int)]),K2,ns2)):=o_ (by rw[v_ _ _ _ l3,Nat.add_mul,Nat.one_mul,<- Nat.add_assoc];exact hF)
  clear hF hKp wa wq hx1 j3 j4
  simp only[go_sem,seval]
  (repeat'(first|refine Ctl ?_|(with_reducible first|(refine k_ hK ?_;clear hK hE K E)|(refine k_ hKh ?_;clear hKh Kh)|(refine k_ hKb (aC ?_);clear hKb Kb))|((with_reducible refine bZ (fun h=>?_) (fun h=>?_))<;>(try(exfalso;assumption)))|(((with_reducible first|refine ab fun K E hK hE=>?_|refine ay fun Kh hKh=>?_|refine aG fun Kh hKh=>?_|refine aB fun Kb hKb=>?_))<;>(try simp(disch:=omega) only[go_sem,seval, *]))))
  all_goals exact⟨fu - 1,by omega,i+1,K2,ns2,by omega,by omega,HF,q_ _ _ _,(j_ _ _ n34).trans l4,ac,ac,ac,ac,ac,ac⟩
 ·have hin:i=D.length:=by omega
  have h1:=HI.out
  rw[hin]at h1
  have HF:=o_ fun c=>h1.set (x:=c) (HI.out.m.types k4 (by decide) (by decide) (by decide)) HB4.out
  clear h1
  (repeat'(first|refine Ctl ?_|((with_reducible refine k_ hK ?_);clear hK hE K E)|((with_reducible refine bZ (fun h=>?_) (fun h=>?_))<;>(try(exfalso;omega)))|(((with_reducible refine ab fun K E hK hE=>?_))<;>(try simp(disch:=omega) only[go_sem,seval, *]))))
  all_goals(refine aq Gi hQ ?_)
  all_goals exact⟨_,_,Wk.refl _,Fg.refl _,(_,K',ns'),rfl,rfl,HF.out _⟩
abbrev gI:=St×OB×Nat×Td
structure RelR (s:St) (K:OB) (x m q c n B:Nat) (ns:Td) (ds:TN) (o:TU) (N':Nat) (g:Tf) (a:gI):Prop where
 M:RMem a.1 a.2.1 x a.2.2.1 q c n B a.2.2.2 ds o
 pre:∃l,a.2.2.2=ns++l
 mem:treeT n g∈a.2.2.2
 cnt:CntN a.2.2.2 N'
 k:RKeep s a.1 K a.2.1 x m a.2.2.1
section
variable {s u : St} {K K' : OB} {x m m' q c n B N N2 : Nat} {ns ns' : Td} {ds : List (TT × Nat)} {o : TU} {f g : (Nat -> Bool) -> Bool}
theorem RelR.op {a:gJ}(hM:RMem s K x m q c n B ns ds o)(h:OpF s K n B ns N f a):RelR s K x m q c n B ns ds o N f (a.1,a.2.1,m,a.2.2):=
 ⟨hM.op h.m h.pre h.k,h.pre,h.mem,h.cnt,hM.kp h.k⟩
theorem RelR.win (hM:RMem u K x m' q c n B ns ds o)(hk:RKeep s u K K x m m')(mf:treeT n f∈ns)(hc:CntN ns N):RelR s K x m q c n B ns ds o N f (u,K,m',ns):=
 ⟨hM,⟨[],by simp⟩,mf,hc,hk⟩
theorem RelR.then {a b:gI}(h:RelR s K x m q c n B ns ds o N f a)(k:RelR a.1 a.2.1 x a.2.2.1 q c n B a.2.2.2 ds o N2 g b):RelR s K x m q c n B ns ds o N2 g b:=by
 obtain⟨l1,e1⟩:=h.pre
 obtain⟨l2,e2⟩:=k.pre
 exact⟨k.M,⟨l1++l2,by rw[e2,e1,List.append_assoc]⟩,k.mem,k.cnt,h.k.trans k.k⟩
theorem RelR.also {a:gI}(h:RelR s K x m q c n B ns ds o N g a)(hf:treeT n f∈ns):RelR s K x m q c n B ns ds o N f a/\ixF n a.2.2.2 f=ixF n ns f:=
 ⟨⟨h.M,h.pre,(bn h.pre hf).1,h.cnt,h.k⟩,(bn h.pre hf).2⟩
theorem RelR.mono {a:gI}(h:RelR s K x m q c n B ns ds o N f a)(hN:N<=N2):RelR s K x m q c n B ns ds o N2 f a:=⟨h.M,h.pre,h.mem,h.cnt.mono hN,h.k⟩
theorem RelR.new {a:gI}{u':St}(h:RelR s K x m q c n B ns ds o N f a)(hu:∀z,a.1 z≠.free->u' z=a.1 z):RelR s K x m q c n B ns ds o N f (u',a.2):=
 ⟨h.M.more hu,h.pre,h.mem,h.cnt,⟨h.k.p,h.k.q,h.k.o,h.k.nw,fun z hz hn=>by
  have e:=h.k.out z hz hn
  show u' z=s z
  rw[hu z (by rw[e];exact hz),e]⟩⟩
theorem RelR.own {a:gI}{b:Nat}{T:TypeId}{xs:Tb}(h:RelR s K x m q c n B ns ds o N f a)(hM:RMem s K x m q c n B ns ds o)(hb:s b=.obj T xs)(h1:T≠107)(h2:T≠161)(h3:T≠123)(h4:T≠73):a.1 b=.obj T xs:=by
 refine(h.k.out b (by rw[hb];simp) ?_).trans hb
 rintro(e|e|e)
 ·exact hM.C.om.types hb h1 h2 h3 e
 ·obtain⟨y,hy⟩:=hM.xf
  rw[e,hy]at hb
  injection hb with hb
  exact h4 hb.symm
 ·rcases hM.sp with ⟨e1,hy⟩|⟨me,_,hy,_⟩
  ·rw[e,e1,hy]at hb
   injection hb with hb
   exact h4 hb.symm
  ·rw[e,hy]at hb;cases hb
end
structure Rel4 (ds:TN) (o:TU) (A:TV) (D:TW):Prop where
 nm:bi A
 ln:A.length=D.length
 nd:D.Nodup
 d4:Dom4 ds o D
theorem Rel4.l8 {ds:TN}{o:TU}{A:TV}{D:TW}(h:Rel4 ds o A D):D.length<=8:=by rw[<- h.ln];exact h.nm.2.2
theorem Rel4.ok {n:Nat}{ns:Td}{ds:TN}{o:TU}{A:TV}{D:TW}(hD:DOk n ds o)(h:Rel4 ds o A D){f:Tf}(hf:DepF (aj o D) f)(mf:treeT n f∈ns):RelOk ns ds o ⟨A,D,treeT n f⟩:=
 ⟨h.nm,h.ln,h.nd,h.d4.lt,mf,eH (aJ hD h.d4.lt) hf⟩
theorem y5 {s:St}{KK:OB}{x m q c n B N:Nat}{ns:Td}{ds:TN}{o:TU}(hn64:n<=64)(hM:RMem s KK x m q c n B ns ds o)(hD:DOk n ds o){f:Tf}(A:TV)(o1:Own)(D:TW)(o2:Own)(hR:Rel4 ds o A D)(hf:DepF (aj o D) f)(mf:treeT n f∈ns)
  (hc:CntN ns N) (hB:N+D.length * (20+2 ^ (2 * D.length))<=B) {most:Nat} (hmo:most<=16384) {rows:TX} (hr:dO (gq (treeT n f) o D)=rows) (hrl:rows.length<=most) :
  SCalls Tryz.prog 11 [.ptr x 0,.agg [.lst (az A) o1,.lst (ak D) o2,.int .i64 (ixF n ns f:Nat)],.int .i64 most] s fun w u=>∃a:gI,w=.ret (.tup [.lst (cu rows) .no,.int .i64 0])/\u=a.1/\RelR s KK x m q c n B ns ds o (N+D.length * (20+2 ^ (2 * D.length))) f a:=by
 have hl8:=hR.l8
 have hlen:(gq (treeT n f) o D).length<=most:=by
  have e1:=((List.perm_ext_iff_of_nodup (eB (gq (treeT n f) o D)).nodup (jb _ _ _)).2 fun r=>sortR_mem).length_eq
  rw[<- e1,hr]
  exact hrl
 have hvl:=hR.d4.vl
 have wm:=fun(u:St) (hu:∀z,s z≠.free->u z=s z)=>po hn64 (hM.more hu) hD [[.lst (az A) o1,.lst (ak D) o2,.int .i64 ((ixF n ns f:Nat):Int)]] .full (fun z hz=>by
  rw[a_]at hz
  exact⟨⟨A,D,treeT n f⟩,o1,o2,hz,hR.ok hD hf mf⟩) (by simp)
 have wc:=fun(u:St) (m':Nat) (h:RMem u KK x m' q c n B ns ds o)=>xY h hD (az A) o1 D o2 hR.d4 hl8 hf mf hc hB
 have wt:=fun(u:St) (K':OB) (ns':Td) (hC:CMem u K' q c n B ns' ds o) (hm:treeT n f∈ns')=>qL hC hD (by omega) D o2 hR.d4.lt (by omega) hR.nd hm (sV (aJ hD hR.d4.lt) hf) (by omega) hmo hlen
 rw[hr]at wt
 have WM:=o_ wm
 have WC:=o_ wc
 have WT:=o_ wt
 have HM:=o_ hM
 have HMF:=o_ mf
 have HC:=o_ hc
 clear wm wc wt hr hrl hlen hR hf mf hc hB hl8 hvl
 generalize cu rows=RW at *
 generalize hkf:ixF n ns f=kf at *
 have HKF:=o_ hkf
 clear hkf
 generalize az A=SA at *
 generalize hSV:ak D=V at *
 clear hSV
 refine am Tryz.func11 rfl Tryz.ntmps11 rfl fun Q hQ hQe=>?_
 (repeat'(first|refine Ctl ?_|((with_reducible refine k_ hK ?_);clear hK hE K E)|((first|(with_reducible refine ab fun K E hK hE=>?_)|((with_reducible refine au (fun b hb=>?_))))<;>(try simp(disch:=omega) only[go_sem,seval, *]))))
 obtain⟨b4,hb4e⟩:∃z,z=b:=⟨_,rfl⟩
 subst hb4e
 obtain⟨u0,hu0⟩:∃u,u=s.set b4 (.obj 30 [.lst SA o1,.lst V o2,.int .i64 (kf:Int)]):=⟨_,rfl⟩
 rw[<- hu0]
 have g0:∀z,s z≠.free->u0 z=s z:=fun z hz=>by rw[hu0,j_ _ _ (nef hb hz).1]
 have k0:u0 b4=.obj 30 [.lst SA o1,.lst V o2,.int .i64 (kf:Int)]:=by rw[hu0,q_]
 have wm:=WM.out u0 g0
 have G0:=o_ g0
 have HB4:Hid (s b4=.free):=o_ hb
 clear hu0 hb g0 WM
 refine ao oY wm (fun a h=>?_)
 obtain⟨u1,m1⟩:=a
 obtain⟨M1,K1⟩:=h
 dsimp only at M1 K1 ⊢
 have R1:=RelR.win M1 K1 HMF.out HC.out
 have k1:=R1.own (HM.out.more G0.out) k0 (by decide) (by decide) (by decide) (by decide)
 dsimp only at k1
 have wc:=WC.out u1 m1 M1
 have HM1:=o_ M1
 have HR1:=o_ R1
 clear wm M1 K1 R1 WC k0
 simp only[go_sem,seval]
 (repeat'(first|refine Ctl ?_|((with_reducible refine k_ hK ?_);clear hK hE K E)|((with_reducible refine bZ (fun h=>?_) (fun h=>?_))<;>(try(exfalso;assumption)))|(((with_reducible refine ab fun K E hK hE=>?_))<;>(try simp(disch:=omega) only[go_sem,seval, *]))))
 refine ao GU wc (fun a h=>?_)
 obtain⟨u2,K2,ns2⟩:=a
 have k2:=(h.k.out b4 (by rw[k1];simp) (HM1.out.C.om.types k1 (by decide) (by decide) (by decide))).trans k1
 have R2:=(RelR.win (HM.out.more G0.out) (.new G0.out) HMF.out HC.out).then (HR1.out.then (RelR.op HM1.out h))
 have e:ixN ns2 (treeT n f)=kf:=(bn R2.pre HMF.out).2.trans HKF.out
 have wt:=WT.out u2 K2 ns2 R2.M.C R2.mem
 rw[e]at wt
 obtain⟨a2,hx2⟩:=R2.M.xf
 unfold spC at hx2
 dsimp only at k2 hx2 ⊢
 have HR2:=o_ R2
 have nbx:¬ x=b4:=fun e=>by rw[e,k2]at hx2;injection hx2 with e1;exact absurd e1 (by decide)
 clear h wc WT R2 e k1
 generalize szC ds=SZ at *
 simp only[go_sem,seval,k2]
 (repeat'(first|refine Ctl ?_|(with_reducible first|(refine k_ hK ?_;clear hK hE K E)|(refine k_ hKh ?_;clear hKh Kh)|refine ax 6 [([0,1,2,3,4,5,6,7,8],9,[[]])] [10,11,12,13] hQe fun K E hK hE=>?_)|((with_reducible refine bZ (fun h=>?_) (fun h=>?_))<;>(try(exfalso;assumption)))|(((with_reducible first|refine ab fun K E hK hE=>?_|refine ay fun Kh hKh=>?_|refine aB fun Kb hKb=>?_))<;>(try simp(disch:=omega) only[go_sem,seval, *]))))
 rw[v_ _ _ _ k2]
 (repeat'(first|refine Ctl ?_|(with_reducible first|(refine k_ hK ?_;clear hK hE K E)|(refine k_ hKh ?_;clear hKh Kh)|(refine k_ hKb (aC ?_);clear hKb Kb))|(((with_reducible first|refine ae Qk (wt) ?_|refine aG fun Kh hKh=>?_))<;>(try simp(disch:=omega) only[go_sem,seval, *]))))
 all_goals(refine aq Gy hQ ?_)
 all_goals exact⟨_,_,Wk.refl _,Fg.refl _,(u2,K2,m1,ns2),rfl,rfl,HR2.out⟩
end Go.Proofs.YtohnaepcgnbaiaaGreatDoor
namespace Go.Proofs.YtohnaepcgnbaiaaGreatDoor
open Go.RowKit Go.Lib Go.Shelf
theorem zD:(Tryz.prog.info? 9).map (fun i=>((i.zero.map fun z=>z.cells.size),i.size,i.bytes))=some (some 1,1,16):=by kernel_rfl
theorem oT (b off n c:Nat)(news:List Value)(w:World)(hl:news.length=n * 1)(hn:n<=1000000)(hc:∀j u,news[j]?=some u->w.cell? ⟨b,off+j,none⟩=some u)(h1:∀u∈news,u.oneCell'=true) :
  Calls Tryz.prog 33 #[.slice (some ⟨b,off,none⟩) n c] w fun e w'=>∃v',e=.returned v'/\w'.ownsRow w.heap.size 9 1 v' n news/\v'≠.slice none 0 0/\Below w.heap.size w w':=by
 have hi:=zD
 cases hi0:Tryz.prog.info? 9 with
 |none=>rw[hi0]at hi;cases hi
 |some i0=>
  rw[hi0]at hi
  simp only[Option.map_some,Option.some.injEq,Prod.mk.injEq]at hi
  obtain⟨a1,a2,a3⟩:=hi
  obtain⟨z,hz,hz2⟩:=Option.map_eq_some_iff.1 a1
  exact Tryz.slices_Clone_f33 i0 z 1 16 hi0 hz a2 a3 hz2 (by omega) Tryz.sizeOf9 b off n c news w hl (by unfold maxLen;omega) (by omega) hc h1
theorem iA (s:St)(l:TV)(ow:Own)(hl:l.length<=1000000):SRet Tryz.prog 33 [.lst (az l) ow] s (.lst (az l) .no) s:=by
 intro w0 G w vs hS hA
 obtain⟨v,rfl,hr⟩:=d7 hA
 by_cases hne:l=[]
 ·subst hne
  have key:∃(a:Option Addr) (cap:Nat),v=.slice a 0 cap:=by
   generalize hq:VV.lst (az []) ow=q at hr
   cases hr with
   |emp a cap o ho=>exact⟨a,cap,rfl⟩
   |lst b off len cap sz xs o f hl hc hz h1 hK hR ho=>
    injection hq with hq1 hq2
    subst hq1
    simp[az]at hl
    subst hl
    exact⟨_,_,rfl⟩
   |_=>cases hq
  obtain⟨a,cap,rfl⟩:=key
  cases a with
  |none=>
   refine(Tryz.slices_Clone_string_nil 0 cap w).mono ?_
   rintro e w' ⟨rfl,rfl⟩
   exact⟨G,s,.ret (.lst [] .no),Gh.le.refl G,hS,R.emp none 0 .no (.inl rfl),rfl,rfl⟩
  |some a=>
   refine(Tryz.slices_Clone_string_zero a cap w).mono ?_
   rintro e w' ⟨v',rfl,hown,_,hb⟩
   have hv:∃a' c',v'=.slice a' 0 c':=by
    rcases hown.2 with ⟨rfl,_⟩|⟨g,c2,cur,rfl,_⟩<;>exact⟨_,_,rfl⟩
   obtain⟨a',c',rfl⟩:=hv
   exact⟨G,s,.ret (.lst [] .no),Gh.le.refl G,hS.world hb,R.emp a' c' .no (.inl rfl),rfl,rfl⟩
 ·have hne2:az l≠[]:=fun e=>hne (by cases l;rfl;cases e)
  have hx:∀x,x∈az l->x.length=1:=fun x hx=>by obtain⟨y,_,rfl⟩:=A_.1 hx;rfl
  have hl2:(az l).length<=1000000:=by rw[dj];exact hl
  generalize az l=xs at *
  generalize hq:VV.lst xs ow=q at hr
  cases hr with
  |emp a cap o ho=>
   injection hq with hq1 hq2
   exact absurd hq1 hne2
  |lst b off len cap sz xs' o f h1 h2 h3 h4 h5 h6 h7=>
   injection hq with hq1 hq2
   subst hq1 hq2
   have hsz:sz=1:=by
    obtain⟨x,r,rfl⟩:=List.exists_cons_of_ne_nil hne2
    rw[<- h3 x (by simp),hx x (by simp)]
   subst hsz
   obtain⟨news,hnews⟩:∃news:List Value,news=(List.range len).map fun j=>f j 0:=⟨_,rfl⟩
   have hnl:news.length=len * 1:=by rw[hnews];simp
   have hna:∀j u,news[j]?=some u->j<len/\u=f j 0:=fun j u h=>by
    have hj:j<len:=by have:=(x_.1 h).1;omega
    refine⟨hj,?_⟩
    rw[hnews,n_,List.getElem?_range hj]at h
    injection h with h
    exact h.symm
   have hfo:∀j,j<len->(f j 0).oneCell'=true:=fun j hj=>by
    have h8:=m_ (show j<xs.length by omega)
    have hm:=List.getElem_mem (l:=xs) (n:=j) (by omega)
    have h9:=m_ (show 0<xs[j].length by rw[hx _ hm];omega)
    rw[(h6 _ _ _ _ h8 h9).one]
    exact h4 _ hm _ (List.getElem_mem _)
   refine(oT b off len cap news w hnl (by omega) (fun j u h=>?_) (fun u h=>?_)).mono ?_
   ·obtain⟨hj,rfl⟩:=hna j u h
    have:=hS.K _ _ _ (h5 j 0 (by omega) (by omega))
    rw[show j * 1+0=j by omega]at this
    exact this
   ·obtain⟨j,hj⟩:=d_.1 h
    obtain⟨hj2,rfl⟩:=hna j u hj
    exact hfo j hj2
   ·rintro e w' ⟨v',rfl,hown,_,hb⟩
    rcases hown.2 with ⟨_,h0⟩|⟨g,c2,cur,rfl,hge,hh,hcap,hm,hcs,hcur⟩
    ·exact absurd (l_ (h1.trans h0)) hne2
    ·obtain⟨G',k1,k2,k3⟩:=hS.know hb g hge (fun i=>if i<len * 1 then cur[i]? else none) fun i v hv=>by
      split at hv
      ·simp only[World.cell?,hh];exact hv
      ·cases hv
     refine⟨G',s,.ret (.lst xs .no),k1,k2,?_,rfl,rfl⟩
     refine .lst g 0 len c2 1 xs .no f h1 hcap h3 h4 (fun i j hi hj=>?_) (fun i j x y hx hy=>(h6 i j x y hx hy).mono k1) (.inl rfl)
     refine k3 _ _ ?_
     rw[Nat.zero_add,if_pos (by omega)]
     have hj0:j=0:=by omega
     subst hj0
     have hi2:(cur.toList.take (len * 1))[i]?=some (f i 0):=by
      rw[hcur,hnews,n_,List.getElem?_range (by omega)];rfl
     rw[List.getElem?_take_of_lt (by omega),Array.getElem?_toList]at hi2
     rw[show i * 1+0=i by omega]
     exact hi2
  |_=>cases hq
theorem pt (s:St)(l:TW)(ow:Own)(hl:l.length<=1000000):SRet Tryz.prog 34 [.lst (ak l) ow] s (.lst (ak l) .no) s:=by
 have h:=FH (l.map fun(k:Nat)=>(k:Int)) ow s (by rw[z_];omega)
 rw[<- cA]at h
 unfold cK at h
 rw[<- cA]at h
 exact h
section
variable {w0 w w' : World} {G : Gh} {s : St} {g n cap : Nat} {cur : Th} {T : TypeId}
theorem Sim.at_free (h:Sim w0 G w s)(hge:w.heap.size<=g):s g=.free:=by
 by_cases e:s g=.free
 ·exact e
 ·exact absurd (h.lt e) (by omega)
theorem Sim.knowR (h:Sim w0 G w s)(hb:Below w.heap.size w w')(hge:w.heap.size<=g)(hh:w'.heap[g]?=some (.cells cur T (0,0)))(hm:cap<=maxLen)(hs:cur.size=cap * 1){ys:Tb}(hl:ys.length<=cap)(hy:∀(i:Nat) (y:VV),ys[i]?=some y->y.one=true/\∃v,cur[i]?=some v/\R G v y) :
  ∃G',G.le G'/\Sim w0 G' w' (s.set g (.row T 1 ys))/\G'.cap g=some (cap,1):=by
 have hK0:∀i,G.K g i=none:=fun i=>by
  cases hk:G.K g i with
  |none=>rfl
  |some v=>exact absurd (h.K_lt hk) (by omega)
 have hc0:G.cap g=none:=by
  cases hk:G.cap g with
  |none=>rfl
  |some v=>exact absurd (h.cap _ _ hk) (by omega)
 have hle:G.le ⟨G.K,fun b'=>if b'=g then some (cap,1)else G.cap b'⟩:=⟨fun b' i v hv=>hv,fun b' c hv=>by
  by_cases e:b'=g
  ·subst e;rw[hc0]at hv;cases hv
  ·simp only[if_neg e];exact hv⟩
 have h1:=h.world hb
 have hgl:g<w'.heap.size:=(Array.getElem?_eq_some_iff.1 hh).1
 refine⟨_,hle,⟨h1.below,fun b' i v hv=>h1.K b' i v hv,fun b' c hv=>?_,fun b'=>?_,h.gl,?_⟩,by simp⟩
 ·by_cases e:b'=g
  ·subst e;exact hgl
  ·simp only[if_neg e]at hv
   exact h1.cap b' c hv
 ·by_cases e:b'=g
  ·subst e
   rw[q_]
   exact⟨Nat.le_trans h.size_le hge,hK0,cur,cap,hh,by simp,hs,by omega,hm,fun i y hi=>let ⟨a,v,b,c⟩:=hy i y hi;⟨a,v,b,c.mono hle⟩⟩
  ·rw[j_ _ _ e]
   exact(h1.ok b').keep rfl hle fun i=>rfl
 ·exact h.rows.keep' hle hb.size (fun g' hl hg'=>⟨by rw[j_ _ _ (by omega)];exact hg',hb.block g' hl,fun i=>rfl⟩) fun x T xs rs hx=>by
   by_cases e:x=g
   ·subst e;rw[q_]at hx;cases hx
   ·rw[j_ _ _ e]at hx
    exact⟨hx,hb.block x (h.lt (by rw[hx];simp))⟩
end
theorem lF (s:St)(l:TW)(ow:Own)(hne:l≠[])(hl:l.length<=1000000) :
  SCalls Tryz.prog 34 [.lst (ak l) ow] s fun w u=>∃a:St×Nat,w=.ret (.mrw a.2 l.length)/\u=a.1/\s a.2=.free/\a.1=s.set a.2 (.row 3 1 (l.map fun(k:Nat)=>.int .i64 (k:Int))):=by
 obtain⟨r,hr⟩:∃r,r=l.map fun(k:Nat)=>(k:Int):=⟨_,rfl⟩
 have hrl:r.length=l.length:=by rw[hr,z_]
 rw[cA,<- hr]
 intro w0 G w vs hS hA
 obtain⟨v,rfl,hrr⟩:=d7 hA
 obtain⟨ba,b,off,c,rfl,g1,k1⟩:=ig hrr
 rcases g1 with h0|rfl
 ·exact absurd (l_ (hrl.symm.trans h0)) hne
 ·refine(Tryz.slices_Clone_int b off r.length c r w (Nat.le_refl _) (by omega) fun j hj=>hS.K _ _ _ (k1 j _ (by rw[m_ hj,List.getD_eq_getElem?_getD,m_ hj];rfl))).mono ?_
  rintro e w' ⟨v',rfl,ho,_,hb⟩
  rw[b_]at ho
  rcases ho.2 with ⟨_,h0⟩|⟨g,cap,cur,rfl,hge,hh,hcap,hm,hcs,hcur⟩
  ·exact absurd (l_ (hrl.symm.trans h0)) hne
  ·have hys:∀(i:Nat) (y:VV),(l.map fun(k:Nat)=>VV.int .i64 (k:Int))[i]?=some y->y.one=true/\∃v,cur[i]?=some v/\R G v y:=fun i y hy=>by
    rw[n_]at hy
    obtain⟨k,hk,rfl⟩:=Option.map_eq_some_iff.1 hy
    have hi:i<l.length:=(x_.1 hk).1
    refine⟨rfl,.int .i64 (k:Int),?_,.int _ _⟩
    have h4:(cur.toList.take (r.length * 1))[i]?=some (.int .i64 (k:Int)):=by
     rw[hcur,hr,List.map_map,n_,hk];rfl
    rw[List.getElem?_take_of_lt (by omega),Array.getElem?_toList]at h4
    exact h4
   obtain⟨G',a1,a2,a3⟩:=hS.knowR hb hge hh hm hcs (ys:=l.map fun(k:Nat)=>VV.int .i64 (k:Int)) (by rw[z_];omega) hys
   refine⟨G',_,.ret (.mrw g l.length),a1,a2,?_,(_,g),rfl,rfl,hS.at_free hge,rfl⟩
   rw[hrl]
   exact .mrw g l.length cap 1 a3 (by omega)
end Go.Proofs.YtohnaepcgnbaiaaGreatDoor
namespace Go.Proofs.YtohnaepcgnbaiaaGreatDoor
open Go.RowKit
section
variable {G : Gh} {v : Value} {g n : Nat} {xs : Tb} {a c r : VV}
theorem R.frz2 (hn:xs.length=n)(hK:∀(i:Nat) (y:VV),xs[i]?=some y->y.one=true/\∃v,G.K g i=some v/\R G v y)(hr:R G v (.tup [.agg [a,.mrw g n,c],r])):R G v (.tup [.agg [a,.lst (xs.map fun y=>[y]) .no,c],r]):=by
 generalize hq:VV.tup [.agg [a,.mrw g n,c],r]=q at hr
 cases hr with
 |tup vs ys hs hR=>
  injection hq with hq
  subst hq
  refine .tup vs _ hs fun j v y hv hy=>?_
  match j with
  |0=>
   have hy:VV.agg [a,.lst (xs.map fun y=>[y]) .no,c]=y:=by simpa using hy
   subst hy
   have h0:=hR 0 v _ hv rfl
   generalize hq2:VV.agg [a,.mrw g n,c]=q2 at h0
   cases h0 with
   |agg us zs hs2 h1 hR2=>
    injection hq2 with hq2
    subst hq2
    refine .agg us _ hs2 (fun y hy=>?_) fun k w y hw hy=>?_
    ·simp only[AT,List.not_mem_nil,or_false]at hy
     rcases hy with rfl|rfl|rfl
     ·exact h1 _ (by simp)
     ·rfl
     ·exact h1 _ (by simp)
    ·match k with
     |0=>exact hR2 0 w y hw hy
     |1=>
      have hy:VV.lst (xs.map fun y=>[y]) .no=y:=by simpa using hy
      subst hy
      exact R.frz hn hK (hR2 1 w _ hw rfl)
     |2=>exact hR2 2 w y hw hy
     |k+3=>simp at hy
   |_=>cases hq2
  |1=>exact hR 1 v y hv hy
  |j+2=>simp at hy
 |_=>cases hq
end
theorem SCalls.frz2 {P:Program}{s:St}{f:FuncId}{xs:Tb}{Q:SEnd->St->Prop}
  (h:SCalls P f xs s fun e t=>∃(a c r:VV) (g n:Nat) (T:TypeId) (ys:Tb),e=.ret (.tup [.agg [a,.mrw g n,c],r])/\t g=.row T 1 ys/\ys.length=n/\Q (.ret (.tup [.agg [a,.lst (ys.map fun y=>[y]) .no,c],r])) (t.set g .free)):SCalls P f xs s Q:=by
 intro w0 G w vs hS hR
 refine(h w0 G w vs hS hR).mono ?_
 rintro e w' ⟨G',s',x,hG,hS',hE,a,c,r,g,n,T,ys,rfl,hg,hn,hq⟩
 obtain⟨G2,hle,hS2,hK,_⟩:=hS'.frzR hg
 refine⟨G2,_,_,hG.trans hle,hS2,?_,hq⟩
 cases e with
 |returned v=>exact R.frz2 hn hK (R.mono hle hE)
 |_=>exact hE
attribute [-go_sem] bJ cX bH bG aT cU cT
section
variable {s u : St} {K K' : OB} {x m m' q c n B N N2 b : Nat} {ns ns' : Td} {ds : List (TT × Nat)} {o : TU} {f g : (Nat -> Bool) -> Bool} {xs : Tb} {y : Cell}
theorem RMem.rel (h:RMem u K x m q c n B ns ds o)(hb:u b=.obj 30 xs):¬ kF K x m b/\b≠q/\b≠c:=by
 refine⟨?_,(fun e=>by have:=h.C.qo;rw[<- e,hb]at this;cases this),(fun e=>by have:=h.C.co;rw[<- e,hb]at this;cases this)⟩
 rintro(e|e|e)
 ·exact h.C.om.types hb (by decide) (by decide) (by decide) e
 ·obtain⟨y,hy⟩:=h.xf
  rw[e,hy]at hb;cases hb
 ·rcases h.sp with ⟨e1,hy⟩|⟨me,_,hy,_⟩
  ·rw[e,e1,hy]at hb;cases hb
  ·rw[e,hy]at hb;cases hb
theorem RMem.set (h:RMem u K x m q c n B ns ds o)(hb:u b=.obj 30 xs):RMem (u.set b y) K x m q c n B ns ds o:=by
 obtain⟨h1,h2,h3⟩:=h.rel hb
 have k:∀z,kF K x m z->(u.set b y) z=u z:=fun z hz=>j_ _ _ fun e=>h1 (e ▸ hz)
 refine⟨⟨h.C.om.keep fun z hz=>k z (.inl hz),(j_ _ _ fun e=>h2 e.symm).trans h.C.qo,(j_ _ _ fun e=>h3 e.symm).trans h.C.co⟩,?_⟩
 rcases h.sp with ⟨e,e1⟩|⟨me,e1,e2,e3⟩
 ·exact .inl ⟨e,(k x (.inr (.inl rfl))).trans e1⟩
 ·exact .inr ⟨me,(k x (.inr (.inl rfl))).trans e1,(k m (.inr (.inr rfl))).trans e2,e3⟩
theorem RelR.set (h:RelR s K x m q c n B ns ds o N f (u,K',m',ns'))(hb:u b=.obj 30 xs)(hs:s b=.free):RelR s K x m q c n B ns ds o N f (u.set b y,K',m',ns'):=
 ⟨h.M.set hb,h.pre,h.mem,h.cnt,⟨h.k.p,h.k.q,h.k.o,h.k.nw,fun z hz hn=>(j_ _ _ fun e=>hz (by rw[e];exact hs)).trans (h.k.out z hz hn)⟩⟩
end
theorem Fm {s:St}{KK:OB}{x m q c n B N:Nat}{ns:Td}{ds:TN}{o:TU}(hn64:n<=64)(hM:RMem s KK x m q c n B ns ds o)(hD:DOk n ds o)(A:TV)(o1:Own)(D:TW)(o2:Own)(hR:Rel4 ds o A D)(T:TU)(TC:Ta)(o3:Own)
  (hT:∀t,t∈T->t.length=D.length/\∀v,v∈t->v<4) (hTC:∀(i:Nat) (t:TW),T[i]?=some t->∃oi,TC[i]?=some [.lst (ak t) oi]) (hTl:TC.length=T.length) (hT8:T.length<=1000000)
  (hc:CntN ns N) (hB:N+T.length * (2 * D.length+2 ^ (2 * D.length))<=B) :
  SCalls Tryz.prog 19 [.ptr x 0,.lst (az A) o1,.lst (ak D) o2,.lst TC o3] s fun w u=>∃a:gI,w=.ret (.tup [.agg [.lst (az A) .no,.lst (ak D) .no,.int .i64 (ixF n a.2.2.2 (orK o D T):Nat)],.int .i64 0])/\u=a.1/\RelR s KK x m q c n B ns ds o (N+T.length * (2 * D.length+2 ^ (2 * D.length))) (orK o D T) a:=by
 obtain⟨R,hRe⟩:∃R,R=2 * D.length+2 ^ (2 * D.length):=⟨_,rfl⟩
 rw[<- hRe]at hB ⊢
 have hl8:=hR.l8
 have hvl:=hR.d4.vl
 have hlt:=hR.d4.lt
 have hvn:=aJ hD hlt
 have hor0:orK o D []=fun _=>false:=by funext y;simp[orK]
 have hdep:∀i,DepF (aj o D) (orK o D (T.take i)):=fun i=>(qj fun t ht=>(hT t (List.take_subset _ _ ht)).1).dep
 have c0:=hM.C.om.c0.1
 have wcs:=fun u=>iA u A o1 (by have:=hR.ln;omega)
 have wcn:=fun u=>pt u D o2 (by omega)
 have wm:=fun(u:St) (hu:∀z,s z≠.free->u z=s z)=>po hn64 (hM.more hu) hD [[.lst (az A) .no,.lst (ak D) .no,.int .i64 0]] .full (fun z hz=>by
  rw[a_]at hz
  refine⟨⟨A,D,treeT n fun _=>false⟩,.no,.no,?_,hR.ok hD (fun _ _ _=>rfl) c0.1⟩
  have e0:((ixN ns (treeT n fun _=>false):Nat):Int)=0:=by
   have:=c0.2
   unfold ixF at this
   rw[this];rfl
  rw[hz,relC]
  dsimp only
  rw[e0]) (by simp)
 have wtu:=fun(u:St) (K':OB) (ns':Td) (N':Nat) (t:TW) (oi:Own) (ht:t∈T) (hC:CMem u K' q c n B ns' ds o) (hc':CntN ns' N') (hB':N'+2 * D.length<=B)=>show OpFC 52 [.ptr c 0,.lst (ak D) o2,.lst (ak t) oi] u K' n B ns' (N'+2 * D.length) (gZ o D t) from by
  have w:=tY hC hD D t o2 oi hlt (by omega) hR.nd (hT t ht).1 (fun i k v y h1 h2 h3=>by
   obtain⟨nm,e⟩:=(hR.d4 k (y_ h1)).1
   rw[e]at h3
   injection h3 with h3
   rw[<- h3]
   exact(hT t ht).2 v (y_ h2)) hc' (by rw[hvl];exact hB')
  rw[hvl]at w
  exact w
 have wor:=fun(u:St) (K':OB) (ns':Td) (N' i:Nat) (t:TW) (ht:T[i]?=some t) (hO:OMem u K' n B ns') (m1:treeT n (orK o D (T.take i))∈ns') (m2:treeT n (gZ o D t)∈ns') (hc':CntN ns' N') (hB':N'+2 ^ (2 * D.length)<=B)=>
  show OpFC 49 [.ptr K'.o 0,.int .i64 (ixF n ns' (orK o D (T.take i)):Nat),.int .i64 (ixF n ns' (gZ o D t):Nat)] u K' n B ns' (N'+2 ^ (2 * D.length)) (orK o D (T.take (i+1))) from by
  have e:(fun y=>orK o D (T.take i) y || gZ o D t y)=orK o D (T.take (i+1)):=by rw[Ex,List.take_add_one,ht];rfl
  have w:=Ca hO ((hdep i).hang hvn) ((zB o).hang hvn) m1 m2 hc' (by rw[e];exact(di hvn (hdep (i+1)) (by rw[hvl];exact Nat.le_refl _)).mono (Nat.sub_le _ _)) hB'
  rw[e]at w
  exact w
 have hI0:∀(u:St) (m':Nat),RMem u KK x m' q c n B ns ds o->RKeep s u KK KK x m m'->RelR s KK x m q c n B ns ds o (N+0 * R) (orK o D (T.take 0)) (u,KK,m',ns):=fun u m' h1 h2=>by
  rw[List.take_zero,hor0]
  exact .win h1 h2 c0.1 (by simpa using hc)
 have hk0:ixF n ns (orK o D (T.take 0))=0:=by rw[List.take_zero,hor0];exact c0.2
 have WM:=o_ wm
 have WTU:=o_ wtu
 have WOR:=o_ wor
 have HI0:=o_ hI0
 have HTC:=o_ hTC
 have HM:=o_ hM
 have HC:=o_ hc
 have HRE:=o_ hRe
 have WCS:=o_ wcs
 have WCN:=o_ wcn
 clear wm wtu wor hI0 hTC hM hdep hor0 c0 hR hT hvl hvn hlt hc wcs wcn
 generalize az A=SA at *
 generalize hSV:ak D=V at *
 have HSV:=o_ hSV
 clear hSV
 refine am Tryz.func19 rfl Tryz.ntmps19 rfl fun Q hQ hQe=>?_
 (repeat'(first|refine Ctl ?_|((with_reducible refine k_ hK ?_);clear hK hE K E)|((first|(with_reducible first|refine ab fun K E hK hE=>?_|refine ae lV (WCS.out _) ?_|refine ae ft (WCN.out _) ?_)|((with_reducible refine au (fun b hb=>?_));(repeat(obtain⟨_,hb⟩:=hb))))<;>(try simp(disch:=omega) only[go_sem,seval, *]))))
 rename_i b8 hb8 nba nab
 obtain⟨b0,hb0e⟩:∃z,z=b:=⟨_,rfl⟩
 subst hb0e
 have hb0:s b0=.free:=hb
 obtain⟨u0,hu0⟩:∃u,u=(s.set b8 (.obj 30 [.lst [] .full,.lst [] .full,.int .i64 0])).set b0 (.obj 30 [.lst SA .no,.lst V .no,.int .i64 0]):=⟨_,rfl⟩
 rw[<- hu0]
 have g0:∀z,s z≠.free->u0 z=s z:=fun z hz=>by rw[hu0,j_ _ _ (nef hb0 hz).1,j_ _ _ (nef hb8 hz).1]
 have k0:u0 b0=.obj 30 [.lst SA .no,.lst V .no,.int .i64 0]:=by rw[hu0,q_]
 have k8:u0 b8=.obj 30 [.lst [] .full,.lst [] .full,.int .i64 0]:=by rw[hu0,j_ _ _ (‹_›),q_]
 have wm:=WM.out u0 g0
 have G0:=o_ g0
 have HB0:=o_ (And.intro hb0 hb8)
 clear hu0 hb g0 WM hb0 hb8 WCS WCN
 refine ao oY wm (fun a h=>?_)
 obtain⟨u1,m1⟩:=a
 obtain⟨M1,K1⟩:=h
 dsimp only at M1 K1 ⊢
 have R1:=HI0.out u1 m1 M1 ((RKeep.new G0.out).trans K1)
 have R1':=RelR.win (n:=n) (N:=N) (f:=fun _=>false) M1 K1 (HM.out.C.om.c0.1.1) HC.out
 have j0:=R1'.own (HM.out.more G0.out) k0 (by decide) (by decide) (by decide) (by decide)
 have j8:=R1'.own (HM.out.more G0.out) k8 (by decide) (by decide) (by decide) (by decide)
 dsimp only at j0 j8
 have HR1:=o_ R1
 clear wm M1 K1 R1 R1' k0 k8 HI0 G0
 simp only[go_sem,seval]
 (repeat'(first|refine Ctl ?_|((with_reducible refine k_ hK ?_);clear hK hE K E)|((with_reducible refine bZ (fun h=>?_) (fun h=>?_))<;>(try(exfalso;assumption)))|(((with_reducible refine ab fun K E hK hE=>?_))<;>(try simp(disch:=omega) only[go_sem,seval,hTl, *]))))
 refine aY (fun fu env s'=>∃(i:Nat) (K':OB) (m':Nat) (ns':Td),i<=T.length/\fu+i=T.length/\Hid (RelR s KK x m q c n B ns ds o (N+i * R) (orK o D (T.take i)) (s',K',m',ns'))/\s' b0=.obj 30 [.lst SA .no,.lst V .no,.int .i64 ((ixF n ns' (orK o D (T.take i)):Nat):Int)]/\s' b8=.obj 30 [.lst [] .full,.lst [] .full,.int .i64 0]/\env 0=.ptr x 0/\env 2=.lst V o2/\env 8=.ptr b8 0/\env 10=.ptr b0 0/\env 26=.lst TC o3/\env 27=.int .i64 T.length/\env 28=.int .i64 i) T.length
  ⟨0,KK,m1,ns,by omega,by omega,HR1,by rw[hk0];exact j0,j8,ac,ac,ac,ac,ac,ac,ac⟩ ?_
 clear HR1 j0 j8 hk0
 rintro fu env s' ⟨i,K',m',ns',hi,hmi,HI,k0,k8,e0,e2,e8,e10,e26,e27,e28⟩
 by_cases h2:i<T.length
 ·obtain⟨t,ht⟩:∃t,T[i]?=some t:=⟨_,m_ h2⟩
  obtain⟨oi,hv⟩:=HTC.out _ _ ht
  have hN:N+i * R+R<=B:=by
   have:=Nat.mul_le_mul_right R (show i+1<=T.length by omega)
   rw[Nat.add_mul,Nat.one_mul]at this
   omega
  have hI:=HI.out
  have hRR:2 * D.length+2 ^ (2 * D.length)=R:=HRE.out.symm
  have hR2:2 * D.length<=R:=by rw[HRE.out];exact Nat.le_add_right _ _
  obtain⟨a1,hx⟩:=hI.M.xf
  unfold spC at hx
  have wt:=WTU.out s' K' ns' _ t oi (y_ ht) hI.M.C hI.cnt (by omega)
  have HN:=o_ hN
  have HTT:=o_ ht
  have HRR:=o_ hRR
  unfold OpFC at wt
  dsimp only at hx
  clear hN hI hRR ht
  generalize szC ds=SZ at *
  (repeat'(first|refine Ctl ?_|((with_reducible refine k_ hK ?_);clear hK hE K E)|((with_reducible refine bZ (fun h=>?_) (fun h=>?_))<;>(try(exfalso;assumption)))|(((with_reducible refine ab fun K E hK hE=>?_))<;>(try simp(disch:=omega) only[go_sem,seval,hv, *]))))
  refine ao Qc wt (fun a h=>?_)
  obtain⟨u1,K1,ns1⟩:=a
  have hR1:=HI.out.then (RelR.op HI.out.M h)
  have hsub:=bn h.pre HI.out.mem
  have j0:=(h.k.out b0 (by rw[k0];simp) (HI.out.M.C.om.types k0 (by decide) (by decide) (by decide))).trans k0
  have j8:=(h.k.out b8 (by rw[k8];simp) (HI.out.M.C.om.types k8 (by decide) (by decide) (by decide))).trans k8
  have wo:=WOR.out u1 K1 ns1 _ i t HTT.out hR1.M.C.om hsub.1 h.mem hR1.cnt (by have:=HN.out;have:=HRR.out;omega)
  have e1:ixF n ns1 (orK o D (T.take i))=ixF n ns' (orK o D (T.take i)):=hsub.2
  rw[e1]at wo
  have wq:=dD u1 q K1.o K1.s.p hR1.M.C.qo
  obtain⟨a2,hx1⟩:=hR1.M.xf
  unfold spC at hx1
  have HR1:=o_ hR1
  unfold OpFC at wo
  dsimp only at hx1 j0 j8 ⊢
  clear h hR1 hsub wt e1 k0 k8 hx
  generalize szC ds=SZ at *
  generalize ixF n ns' (orK o D (T.take i))=ki at *
  generalize ixF n ns1 (gZ o D t)=kt at *
  simp only[go_sem,seval]
  (repeat'(first|refine Ctl ?_|(with_reducible first|(refine k_ hK ?_;clear hK hE K E)|(refine k_ hKh ?_;clear hKh Kh)|(refine k_ hKb (aC ?_);clear hKb Kb)|refine ax 9 [([0,1,2,3,5,6,7],4,[[5,6,7]]),([],8,[[],[]]),([9,10,11,12],13,[[11],[],[]])] [14] hQe fun K E hK hE=>?_)|((with_reducible refine bZ (fun h=>?_) (fun h=>?_))<;>(try(exfalso;assumption)))|(((with_reducible first|refine ab fun K E hK hE=>?_|refine ae dK (wq) ?_|refine ay fun Kh hKh=>?_|refine aB fun Kb hKb=>?_))<;>(try simp(disch:=omega) only[go_sem,seval, *]))))
  refine ao xH wo (fun a h=>?_)
  obtain⟨u2,K2,ns2⟩:=a
  have hR3:=HR1.out.then (RelR.op HR1.out.M h)
  have l0:=(h.k.out b0 (by rw[j0];simp) (HR1.out.M.C.om.types j0 (by decide) (by decide) (by decide))).trans j0
  have l8:=(h.k.out b8 (by rw[j8];simp) (HR1.out.M.C.om.types j8 (by decide) (by decide) (by decide))).trans j8
  dsimp only at l0 l8 ⊢
  have HF:=o_ fun y=>((hR3.set (y:=y) l0 HB0.out.1).mono (N2:=N+(i+1) * R) (by have:=HRR.out;rw[Nat.add_mul,Nat.one_mul];omega))
  have n80:b8≠b0:=by assumption
  clear h hR3 wo wq j0 j8 hx1
  generalize hkn:ixF n ns2 (orK o D (T.take (i+1)))=kn at *
  have HKN:=o_ hkn
  clear hkn
  simp only[go_sem,seval,l0]
  (repeat'(first|refine Ctl ?_|(with_reducible first|(refine k_ hK ?_;clear hK hE K E)|(refine k_ hKh ?_;clear hKh Kh)|(refine k_ hKb (aC ?_);clear hKb Kb))|((with_reducible refine bZ (fun h=>?_) (fun h=>?_))<;>(try(exfalso;assumption)))|(((with_reducible first|refine ab fun K E hK hE=>?_|refine ay fun Kh hKh=>?_|refine aG fun Kh hKh=>?_|refine aB fun Kb hKb=>?_))<;>(try simp(disch:=omega) only[go_sem,seval, *]))))
  all_goals exact⟨fu - 1,by omega,i+1,K2,m',ns2,by omega,by omega,o_ (HF.out _),by rw[HKN.out];exact q_ _ _ _,(j_ _ _ n80).trans l8,ac,ac,ac,ac,ac,ac,ac⟩
 ·have hin:i=T.length:=by omega
  have h1:=HI.out
  rw[hin,b_]at h1 k0
  have HF:=o_ fun y=>h1.set (y:=y) k8 HB0.out.2
  clear h1
  generalize hkn:ixF n ns' (orK o D T)=kn at *
  have HKN:=o_ hkn
  clear hkn
  (repeat'(first|refine Ctl ?_|((with_reducible refine k_ hK ?_);clear hK hE K E)|((with_reducible refine bZ (fun h=>?_) (fun h=>?_))<;>(try(exfalso;omega)))|(((with_reducible refine ab fun K E hK hE=>?_))<;>(try simp(disch:=omega) only[go_sem,seval, *]))))
  all_goals(refine aq Gs hQ ?_)
  all_goals exact⟨_,_,Wk.refl _,Fg.refl _,(_,K',m',ns'),congrArg (fun z:Nat=>SEnd.ret (.tup [.agg [.lst SA .no,.lst V .no,.int .i64 (z:Int)],.int .i64 0])) HKN.out.symm,rfl,HF.out _⟩
end Go.Proofs.YtohnaepcgnbaiaaGreatDoor
namespace Go.Proofs.YtohnaepcgnbaiaaGreatDoor
open Go.RowKit
attribute [-go_sem] bJ cX bH bG aT cU cT
end Go.Proofs.YtohnaepcgnbaiaaGreatDoor
namespace Go.Proofs.YtohnaepcgnbaiaaGreatDoor
open Go.RowKit Go.Lib Go.Shelf
theorem zm (s:St)(l:TV)(ow:Own)(hne:l≠[])(hl:l.length<=1000000) :
  SCalls Tryz.prog 33 [.lst (az l) ow] s fun w u=>∃a:St×Nat,w=.ret (.mrw a.2 l.length)/\u=a.1/\s a.2=.free/\a.1=s.set a.2 (.row 9 1 (l.map fun x=>.str x)):=by
 intro w0 G w vs hS hA
 obtain⟨v,rfl,hr⟩:=d7 hA
 have hne2:az l≠[]:=fun e=>hne (by cases l;rfl;cases e)
 have hx:∀x,x∈az l->x.length=1:=fun x hx=>by obtain⟨y,_,rfl⟩:=A_.1 hx;rfl
 have hl2:(az l).length<=1000000:=by rw[dj];exact hl
 have hll:(az l).length=l.length:=dj l
 have hys0:∀(i:Nat) (y:VV),(l.map fun x=>VV.str x)[i]?=some y->(az l)[i]?=some [y]/\y.one=true:=fun i y hy=>by
  rw[n_]at hy
  obtain⟨k,hk,rfl⟩:=Option.map_eq_some_iff.1 hy
  exact⟨iD hk,rfl⟩
 generalize az l=xs at *
 generalize hq:VV.lst xs ow=q at hr
 cases hr with
 |emp a cap o ho=>
  injection hq with hq1 hq2
  exact absurd hq1 hne2
 |lst b off len cap sz xs' o f h1 h2 h3 h4 h5 h6 h7=>
  injection hq with hq1 hq2
  subst hq1 hq2
  have hsz:sz=1:=by
   obtain⟨x,r,rfl⟩:=List.exists_cons_of_ne_nil hne2
   rw[<- h3 x (by simp),hx x (by simp)]
  subst hsz
  obtain⟨news,hnews⟩:∃news:List Value,news=(List.range len).map fun j=>f j 0:=⟨_,rfl⟩
  have hnl:news.length=len * 1:=by rw[hnews];simp
  have hna:∀j u,news[j]?=some u->j<len/\u=f j 0:=fun j u h=>by
   have hj:j<len:=by have:=(x_.1 h).1;omega
   refine⟨hj,?_⟩
   rw[hnews,n_,List.getElem?_range hj]at h
   injection h with h
   exact h.symm
  have hfo:∀j,j<len->(f j 0).oneCell'=true:=fun j hj=>by
   have h8:=m_ (show j<xs.length by omega)
   have hm:=List.getElem_mem (l:=xs) (n:=j) (by omega)
   have h9:=m_ (show 0<xs[j].length by rw[hx _ hm];omega)
   rw[(h6 _ _ _ _ h8 h9).one]
   exact h4 _ hm _ (List.getElem_mem _)
  refine(oT b off len cap news w hnl (by omega) (fun j u h=>?_) (fun u h=>?_)).mono ?_
  ·obtain⟨hj,rfl⟩:=hna j u h
   have:=hS.K _ _ _ (h5 j 0 (by omega) (by omega))
   rw[show j * 1+0=j by omega]at this
   exact this
  ·obtain⟨j,hj⟩:=d_.1 h
   obtain⟨hj2,rfl⟩:=hna j u hj
   exact hfo j hj2
  ·rintro e w' ⟨v',rfl,hown,_,hb⟩
   rcases hown.2 with ⟨_,h0⟩|⟨g,c2,cur,rfl,hge,hh,hcap,hm,hcs,hcur⟩
   ·exact absurd (l_ (h1.trans h0)) hne2
   ·have hys:∀(i:Nat) (y:VV),(l.map fun x=>VV.str x)[i]?=some y->y.one=true/\∃v,cur[i]?=some v/\R G v y:=fun i y hy=>by
     obtain⟨e1,e2⟩:=hys0 i y hy
     have hi:i<len:=by have:=(x_.1 e1).1;omega
     refine⟨e2,f i 0,?_,h6 i 0 _ _ e1 rfl⟩
     have hi2:(cur.toList.take (len * 1))[i]?=some (f i 0):=by
      rw[hcur,hnews,n_,List.getElem?_range (by omega)];rfl
     rw[List.getElem?_take_of_lt (by omega),Array.getElem?_toList]at hi2
     exact hi2
    obtain⟨G',a1,a2,a3⟩:=hS.knowR hb hge hh hm hcs (ys:=l.map fun x=>VV.str x) (by rw[z_];omega) hys
    refine⟨G',_,.ret (.mrw g l.length),a1,a2,?_,(_,g),rfl,rfl,hS.at_free hge,rfl⟩
    rw[show len=l.length by omega]
    exact .mrw g l.length c2 1 a3 (by omega)
 |_=>cases hq
def iX (T:TW)(sz:Nat):Nat->TN->Option Nat
 |_,[]=>none
 |j,d::l=>if d.2=sz/\j∉T then some j else iX T sz (j+1) l
def TakenM (T:TW)(e:List (Int×Bool)):Prop:=∀k:Nat,(lkZ (k:Int) e).getD false=decide (k∈T)
theorem TakenM.nil:TakenM [] []:=fun k=>by simp[lkZ]
theorem TakenM.add {T:TW}{e:List (Int×Bool)}(h:TakenM T e)(d:Nat):TakenM (T++[d]) (ptZ (d:Int) true e):=fun k=>by
 rw[nZ]
 by_cases hk:k=d
 ·subst hk;simp
 ·rw[if_neg (by omega),h k]
  simp[hk]
theorem EO {T:TW}{sz k:Nat}{ds:TN}{j:Nat}(h:iX T sz j (ds.drop j)=some k)(hj:j<=ds.length) :
  j<ds.length/\∃d,ds[j]?=some d/\((d.2=sz/\j∉T/\k=j)\/(¬ (d.2=sz/\j∉T)/\iX T sz (j+1) (ds.drop (j+1))=some k)):=by
 by_cases hlt:j<ds.length
 ·refine⟨hlt,_,m_ hlt,?_⟩
  rw[c_ hlt,iX]at h
  by_cases hc:ds[j].2=sz/\j∉T
  ·rw[if_pos hc]at h
   injection h with h
   exact .inl ⟨hc.1,hc.2,h.symm⟩
  ·rw[if_neg hc]at h
   exact .inr ⟨hc,h⟩
 ·rw[List.drop_eq_nil_of_le (by omega),iX]at h
  cases h
theorem M8 (s:St)(x c q bt:Nat)(a:VV)(ds:TN)(hx:s x=.obj 73 (spC c q ds a))(hl:ds.length<=1000){T:TW}{e:List (Int×Bool)}(hT:TakenM T e)(hbt:s bt=.map (mpZ bP e))(sz k:Nat)(hk:iX T sz 0 ds=some k) :
  SRet Tryz.prog 38 [.ptr x 0,.int .i64 (sz:Int),.mp bt] s (.tup [.int .i64 (k:Int),.bool true]) s:=by
 unfold spC at hx
 have hsl:(szC ds).length=ds.length:=by simp[szC]
 have hat:=fun(i:Nat) (d:TT×Nat) (h:ds[i]?=some d)=>kT h
 have HAT:=o_ hat
 have HT:=o_ hT
 have HK0:iX T sz 0 (ds.drop 0)=some k:=hk
 have HK:=o_ HK0
 clear hat hT hk HK0
 generalize szC ds=SZ at *
 refine am Tryz.func38 rfl Tryz.ntmps38 rfl fun Q hQ hQe=>?_
 (repeat'(first|refine Ctl ?_|((with_reducible refine k_ hK ?_);clear hK hE K E)|(((with_reducible refine ab fun K E hK hE=>?_))<;>(try simp(disch:=omega) only[go_sem,seval,hsl, *]))))
 refine aY (fun f env s'=>∃(i:Nat),i<=ds.length/\f+i=ds.length/\Hid (iX T sz i (ds.drop i)=some k)/\s'=s/\env 0=.ptr x 0/\env 1=.int .i64 (sz:Int)/\env 2=.mp bt/\env 13=.lst SZ .no/\env 14=.int .i64 ds.length/\env 15=.int .i64 i) ds.length
  ⟨0,by omega,by omega,HK,rfl,ac,ac,ac,ac,ac,ac⟩ ?_
 rintro f env s' ⟨i,hi,hfi,HI,rfl,e0,e1,e2,e13,e14,e15⟩
 obtain⟨hlt,d,hd,hcase⟩:=EO HI.out hi
 have hx1:=HAT.out _ _ hd
 have hm:=HT.out i
 obtain⟨nm,dz⟩:=d
 dsimp only at hx1 hcase
 rcases hcase with ⟨h1,h2,h3⟩|⟨h1,h2⟩
 ·have c1:((dz:Int)=(sz:Int))=True:=by rw[h1];simp
  rw[decide_eq_false h2]at hm
  have HK3:=o_ h3
  clear hd h1 h2 h3 HI
  (repeat'(first|refine Ctl ?_|((with_reducible refine k_ hK ?_);clear hK hE K E)|((with_reducible refine bZ (fun h=>?_) (fun h=>?_))<;>(try(exfalso;assumption)))|(((with_reducible refine ab fun K E hK hE=>?_))<;>(try simp(disch:=omega) only[go_sem,seval,hsl,hx1,c1,hm, *]))))
  all_goals(refine aq Gg hQ ?_)
  all_goals exact⟨_,_,Wk.refl _,Fg.refl _,congrArg (fun z:Nat=>SEnd.ret (.tup [.int .i64 (z:Int),.bool true])) HK3.out.symm,rfl⟩
 ·have HN:=o_ h2
  by_cases h3:dz=sz
  ·have c1:((dz:Int)=(sz:Int))=True:=by rw[h3];simp
   have h4:i∈T:=Decidable.byContradiction fun h4=>h1 ⟨h3,h4⟩
   rw[decide_eq_true h4]at hm
   clear hd h1 h2 h3 h4 HI
   (repeat'(first|refine Ctl ?_|((with_reducible refine k_ hK ?_);clear hK hE K E)|((with_reducible refine bZ (fun h=>?_) (fun h=>?_))<;>(try(exfalso;assumption)))|(((with_reducible refine ab fun K E hK hE=>?_))<;>(try simp(disch:=omega) only[go_sem,seval,hsl,hx1,c1,hm, *]))))
   all_goals exact⟨f - 1,by omega,i+1,by omega,by omega,HN,rfl,ac,ac,ac,ac,ac,ac⟩
  ·have c1:¬ (dz:Int)=(sz:Int):=by omega
   clear hd h1 h2 h3 HI hm
   (repeat'(first|refine Ctl ?_|((with_reducible refine k_ hK ?_);clear hK hE K E)|((with_reducible refine bZ (fun h=>?_) (fun h=>?_))<;>(try(exfalso;assumption)))|(((with_reducible refine ab fun K E hK hE=>?_))<;>(try simp(disch:=omega) only[go_sem,seval,hsl,hx1,c1, *]))))
   all_goals exact⟨f - 1,by omega,i+1,by omega,by omega,HN,rfl,ac,ac,ac,ac,ac,ac⟩
end Go.Proofs.YtohnaepcgnbaiaaGreatDoor
namespace Go.Proofs.YtohnaepcgnbaiaaGreatDoor
open Go.RowKit
attribute [-go_sem] bJ cX bH bG
theorem iH {A A' B B':TW}(hA:A'.length=A.length)(hB:B'.length=B.length)(hn:(A++B).Nodup):A.map (aX (A++B) (A'++B'))=A':=by
 apply List.ext_getElem (by simp[hA])
 intro i h1 h2
 rw[List.getElem_map]
 have h3:i<A.length:=by simpa using h1
 exact qZ (by simp[hA,hB]) hn (i:=i) (by rw[g_ h3];exact m_ h3) (by rw[g_ h2];exact m_ h2)
theorem uJ {A A' B B':TW}(hA:A'.length=A.length)(hB:B'.length=B.length)(hn:(A++B).Nodup){v:Nat}(hv:v∈B):aX (A++B) (A'++B') v=aX B B' v:=by
 obtain⟨j,hj,rfl⟩:=List.mem_iff_getElem.1 hv
 have hj2:j<B'.length:=by omega
 have e1:aX B B' B[j]=B'[j]:=qZ hB (List.nodup_append.1 hn).2.1 (i:=j) (m_ hj) (m_ hj2)
 rw[e1]
 exact qZ (by simp[hA,hB]) hn (i:=A.length+j) (by rw[h_ (by omega),Nat.add_sub_cancel_left];exact m_ hj) (by rw[<- hA,h_ (by omega),Nat.add_sub_cancel_left];exact m_ hj2)
theorem fd (o:TU)(k:Nat)(ks:TW):aj o (k::ks)=o.getD k []++aj o ks:=by simp[aj]
theorem sI {o:TU}:∀{fr tt:TW},tt.length=fr.length->(∀k,k∈fr->(o.getD k []).length=2)->(∀k,k∈tt->(o.getD k []).length=2)->(aj o fr).Nodup->fr.map (fun k=>(o.getD k []).map (aX (aj o fr) (aj o tt)))=tt.map fun k=>o.getD k []
 |[],[],_,_,_,_=>rfl
 |[],_::_,h,_,_,_=>by cases h
 |_::_,[],h,_,_,_=>by cases h
 |a::fr,b::tt,hl,h1,h2,hn=>by
  have hl':tt.length=fr.length:=by simpa using hl
  have ha:=h1 a (List.mem_cons_self ..)
  have hb:=h2 b (List.mem_cons_self ..)
  have w1:∀l:TW,(∀k,k∈l->(o.getD k []).length=2)->(aj o l).length=2 * l.length:=by
   intro l
   induction l with
   |nil=>intro _;simp[aj]
   |cons k l ih=>
    intro h
    have e1:=ih fun q hq=>h q (List.mem_cons_of_mem _ hq)
    have e2:=h k (List.mem_cons_self ..)
    rw[fd,p_,List.length_cons]
    omega
  have hf:=w1 fr fun k hk=>h1 k (List.mem_cons_of_mem _ hk)
  have ht:=w1 tt fun k hk=>h2 k (List.mem_cons_of_mem _ hk)
  rw[fd]at hn
  have ih:=sI (o:=o) hl' (fun k hk=>h1 k (List.mem_cons_of_mem _ hk)) (fun k hk=>h2 k (List.mem_cons_of_mem _ hk)) (List.nodup_append.1 hn).2.1
  rw[fd,fd,List.map_cons,List.map_cons,iH (by omega) (by omega) hn,<- ih]
  congr 1
  refine List.map_congr_left fun k hk=>List.map_congr_left fun v hv=>uJ (by omega) (by omega) hn (List.mem_flatMap.2 ⟨k,hk,hv⟩)
theorem Tells.turn {n:Nat}{ds:TN}{o:TU}(hD:DOk n ds o){fr tt:TW}{S:TW->Prop}{g:Tf}(h:Tells o fr S g)(hl:tt.length=fr.length)(h1:∀k,k∈fr->k<ds.length/\(o.getD k []).length=2)(h2:∀k,k∈tt->(o.getD k []).length=2)(hn:fr.Nodup) :
  Tells o tt S (rnF (aX (aj o fr) (aj o tt)) g):=
 h.ren (sI hl (fun k hk=>(h1 k hk).2) h2 (cr hD hn fun k hk=>(h1 k hk).1))
end Go.Proofs.YtohnaepcgnbaiaaGreatDoor
namespace Go.Proofs.YtohnaepcgnbaiaaGreatDoor
open Go.RowKit
structure JS where
 T:TW
 t:TW
 D:TW
 A:TV
def lQ (ds:TN)(aA:TV)(aD:TW)(q:JS)(p:TT×Nat):Option JS:=
 if ixA p.1 aA<0 then
  (if p.2∈aD then(iX q.T 4 0 ds).map fun k=>⟨q.T++[k],q.t++[k],q.D++[k],q.A++[p.1]⟩
  else some ⟨q.T,q.t++[p.2],q.D++[p.2],q.A++[p.1]⟩)
 else some ⟨q.T,q.t++[aD.getD (ixA p.1 aA).toNat 0],q.D,q.A⟩
def lS (ds:TN)(aA:TV)(aD:TW):TN->JS->Option JS
 |[],q=>some q
 |p::l,q=>(lQ ds aA aD q p).bind (lS ds aA aD l)
theorem EG {ds:TN}{aA bA:TV}{aD bD:TW}{i:Nat}{q qF:JS}{x:TT}{d:Nat}(hx:bA[i]?=some x)(hd:bD[i]?=some d)(h:lS ds aA aD ((bA.zip bD).drop i) q=some qF) :
  ∃q',lQ ds aA aD q (x,d)=some q'/\lS ds aA aD ((bA.zip bD).drop (i+1)) q'=some qF:=by
 have hz:(bA.zip bD)[i]?=some (x,d):=by rw[List.getElem?_zip_eq_some];exact⟨hx,hd⟩
 have hlt:i<(bA.zip bD).length:=(x_.1 hz).1
 rw[c_ hlt]at h
 have e:(bA.zip bD)[i]=(x,d):=by rw[m_ hlt]at hz;injection hz
 rw[e,lS]at h
 exact Option.bind_eq_some_iff.1 h
theorem A5 {ds:TN}{aA:TV}{aD:TW}{q q':JS}{x:TT}{d k:Nat}(h:lQ ds aA aD q (x,d)=some q')(hk:ixA x aA=(k:Int)):q'=⟨q.T,q.t++[aD.getD k 0],q.D,q.A⟩:=by
 unfold lQ at h
 dsimp only at h
 rw[hk,if_neg (by omega),Int.toNat_natCast]at h
 injection h with h
 exact h.symm
theorem yA {ds:TN}{aA:TV}{aD:TW}{q q':JS}{x:TT}{d:Nat}(h:lQ ds aA aD q (x,d)=some q')(hk:ixA x aA=-1)(hd:d∉aD):q'=⟨q.T,q.t++[d],q.D++[d],q.A++[x]⟩:=by
 unfold lQ at h
 dsimp only at h
 rw[hk,if_pos (by omega),if_neg hd]at h
 injection h with h
 exact h.symm
theorem ve {ds:TN}{aA:TV}{aD:TW}{q q':JS}{x:TT}{d:Nat}(h:lQ ds aA aD q (x,d)=some q')(hk:ixA x aA=-1)(hd:d∈aD):∃k,iX q.T 4 0 ds=some k/\q'=⟨q.T++[k],q.t++[k],q.D++[k],q.A++[x]⟩:=by
 unfold lQ at h
 dsimp only at h
 rw[hk,if_pos (by omega),if_pos hd]at h
 obtain⟨k,h1,h2⟩:=Option.map_eq_some_iff.1 h
 exact⟨k,h1,h2.symm⟩
theorem lk {α:Type}[DecidableEq α](n:α)(l:List α):(ixA n l=-1/\n∉l)\/∃k:Nat,ixA n l=(k:Int)/\l[k]?=some n:=by
 induction l with
 |nil=>exact .inl ⟨rfl,by simp⟩
 |cons x l ih=>
  by_cases hx:n=x
  ·subst hx
   exact .inr ⟨0,by simp[ixA],rfl⟩
  ·simp only[ixA,if_neg hx]
   rcases ih with ⟨h,hn⟩|⟨k,h,hk⟩
   ·exact .inl ⟨by rw[h];rfl,by simp[hx,hn]⟩
   ·refine .inr ⟨k+1,?_,by simpa using hk⟩
    rw[h,if_neg (by omega)];omega
def dsR:TN:=[([80,48],4),([80,49],4),([80,50],4),([80,51],4),([81,48],3),([81,49],3),([81,50],3)]
def dmR:List Dm:=dsR.map fun d=>(d.1,(d.2:Int))
def mj:Nat->TT
 |0=>[80,48,95,80,49,95,80,50,95,80,51,95,81,48,95,81,49,95,81,50]
 |1=>[80,48,42,80,49,42,80,50,42,80,51,42,81,48,42,81,49,42,81,50]
 |_=>[81,48,42,81,49,95,80,51,95,80,50,42,80,48,95,81,50,42,80,49]
def oR:Nat->TU
 |0=>[[1,0],[3,2],[5,4],[7,6],[9,8],[11,10],[13,12]]
 |1=>[[7,0],[8,1],[9,2],[10,3],[11,4],[12,5],[13,6]]
 |_=>[[9,7],[13,11],[8,6],[5,4],[2,0],[3,1],[12,10]]
theorem Py:jo 14 dmR (mj 0)=.ok (oR 0):=by kernel_rfl
theorem Pw:jo 14 dmR (mj 1)=.ok (oR 1):=by kernel_rfl
theorem Pv:jo 14 dmR (mj 2)=.ok (oR 2):=by kernel_rfl
theorem newR {i:Nat}(h:i<3):jo 14 dmR (mj i)=.ok (oR i):=by
 match i,h with
 |0,_=>exact Py
 |1,_=>exact Pw
 |2,_=>exact Pv
theorem uX {i d:Nat}(h:i<3)(hd:d<7):((oR i).getD d []).length=2:=by
 have:∀i,i<3->∀d,d<7->((oR i).getD d []).length=2:=by decide
 exact this i h d hd
theorem Pt {i:Nat}(h:i<3):DOk 14 dsR (oR i):=by
 have h1:∀i,i<3->(oR i).length=7:=by decide
 have h2:∀i,i<3->∀l,l∈oR i->∀v,v∈l->v<14:=by decide
 have h3:∀i,i<3->(oR i).flatten.Nodup:=by decide
 refine⟨h1 i h,h2 i h,h3 i h,fun d x l e1 e2=>?_,by decide⟩
 have hd:d<7:=(x_.1 e1).1
 have e3:=uX h hd
 rw[List.getD_eq_getElem?_getD,e2]at e3
 have e3:l.length=2:=e3
 have h4:∀y,y∈dsR->1<=y.2/\y.2<=4:=by decide
 have h5:=h4 x (y_ e1)
 rw[e3]
 omega
theorem xB {i:Nat}(h:i<3){D:TW}(hD:∀d,d∈D->d<4):Dom4 dsR (oR i) D:=fun d hd=>by
 have h4:=hD d hd
 refine⟨?_,uX h (by omega)⟩
 match d,h4 with
 |0,_=>exact⟨_,rfl⟩
 |1,_=>exact⟨_,rfl⟩
 |2,_=>exact⟨_,rfl⟩
 |3,_=>exact⟨_,rfl⟩
theorem PO:cH dmR=dx dsR:=rfl
attribute [-go_sem] bJ cX bH bG aT cU cT
theorem Cs (s:St)(c:Nat)(Q A:VV)(ds:TN)(hl:ds.length<=1000000)(h:s c=.obj 132 [Q,.lst (dx ds) .no,A]):SRet Tryz.prog 28 [.ptr c 0] s (.lst (dx ds) .no) s:=by
 have w:=t6 s (dx ds) .no (fun x hx=>by obtain⟨y,_,rfl⟩:=A_.1 hx;rfl) (by rw[fZ];exact hl)
 generalize dx ds=D at *
 refine am Tryz.func28 rfl Tryz.ntmps28 rfl fun Q hQ hQe=>?_
 (repeat'(first|refine Ctl ?_|((with_reducible refine k_ hK ?_);clear hK hE K E)|((with_reducible refine bZ (fun h=>?_) (fun h=>?_))<;>(try(exfalso;assumption)))|(((with_reducible first|refine ab fun K E hK hE=>?_|refine ae GN (w) ?_))<;>(try simp(disch:=omega) only[go_sem,seval, *]))))
 all_goals(refine aq Gl hQ ?_)
 all_goals exact⟨_,_,Wk.refl _,Fg.refl _,rfl,rfl⟩
def szV (ds:TN)(i:Nat):Tb:=(ds.take i).map fun d=>.int .i64 (d.2:Int)
theorem CJ {ds:TN}{i:Nat}{d:TT×Nat}(h:ds[i]?=some d):szV ds (i+1)=szV ds i++[.int .i64 (d.2:Int)]:=by
 unfold szV
 rw[List.take_add_one,h];simp
theorem wE {ds:TN}{i:Nat}(h:i<=ds.length):(szV ds i).length=i:=by simp[szV,Nat.min_eq_left h]
structure NewI (s s':St) (x c q i:Nat) (ds:TN):Prop where
 fr:∀z,s z≠.free->s' z=s z
 ob:(i=0/\s' x=.obj 73 [.ptr c 0,.ptr q 0,.raw (.slice none 0 0),.raw (.map none),.int .i64 0])\/∃g,s' x=.obj 73 [.ptr c 0,.ptr q 0,.mrw g i,.raw (.map none),.int .i64 0]/\s' g=.row 3 1 (szV ds i)/\s g=.free
theorem NewI.mk1 {s S1:St}{x c q i bM:Nat}{ds:TN}{vals:Tb}(h1:∀z,s z≠.free->S1 z=s z)(hM:S1 bM=.free)(hx:s x=.free)(hxM:¬ x=bM)(hv:szV ds i=vals) :
  NewI s ((S1.set bM (.row 3 1 vals)).set x (.obj 73 [.ptr c 0,.ptr q 0,.mrw bM i,.raw (.map none),.int .i64 0])) x c q i ds:=by
 have hMs:s bM=.free:=by
  by_cases e:s bM=.free
  ·exact e
  ·exact absurd ((h1 bM e).symm.trans hM) e
 refine⟨fun z hz=>?_,.inr ⟨bM,q_ _ _ _,?_,hMs⟩⟩
 ·rw[j_ _ _ (fun e=>hz (by rw[e];exact hx)),j_ _ _ (fun e=>hz (by rw[e];exact hMs)),h1 z hz]
 ·rw[j_ _ _ (fun e=>hxM e.symm),q_,hv]
theorem My {s:St}{KK:OB}{q c n B:Nat}{ns:Td}{ds:TN}{o:TU}(hC:CMem s KK q c n B ns ds o)(hl:ds.length<=1000)(hne:0<ds.length) :
  SCalls Tryz.prog 26 [.ptr c 0] s fun w u=>∃a:St×Nat,w=.ret (.tup [.ptr a.2 0,.int .i64 0])/\u=a.1/\RMem a.1 KK a.2 a.2 q c n B ns ds o/\s a.2=.free/\∀z,s z≠.free->a.1 z=s z:=by
 have wq:=FE s c q _ _ hC.co
 have wd:=fun(u:St) (h:∀z,s z≠.free->u z=s z)=>Cs u c _ _ ds (by omega) ((h c (by rw[hC.co];simp)).trans hC.co)
 have hdl:=fZ (ds:=ds)
 have hat:=fun(i:Nat) (d:TT×Nat) (h:ds[i]?=some d)=>oO h
 have WD:=o_ wd
 have HAT:=o_ hat
 have HC:=o_ hC
 clear wd hat hC
 generalize dx ds=D at *
 refine am Tryz.func26 rfl Tryz.ntmps26 rfl fun Q hQ hQe=>?_
 (repeat'(first|refine Ctl ?_|((with_reducible refine k_ hK ?_);clear hK hE K E)|((with_reducible refine bZ (fun h=>?_) (fun h=>?_))<;>(try(exfalso;assumption)))|((first|(with_reducible first|refine ab fun K E hK hE=>?_|refine ae Qa (wq) ?_|refine iY ?_)|((with_reducible refine au (fun b hb=>?_))))<;>(try simp(disch:=omega) only[go_sem,seval, *]))))
 obtain⟨x,hxe⟩:∃z,z=b:=⟨_,rfl⟩
 subst hxe
 obtain⟨u0,hu0⟩:∃u,u=s.set x (.obj 73 [.ptr c 0,.ptr q 0,.lst [] .full,.raw (.map none),.int .i64 0]):=⟨_,rfl⟩
 rw[<- hu0]
 have g0:∀z,s z≠.free->u0 z=s z:=fun z hz=>by rw[hu0,j_ _ _ (nef hb hz).1]
 have k0:u0 x=.obj 73 [.ptr c 0,.ptr q 0,.lst [] .full,.raw (.map none),.int .i64 0]:=by rw[hu0,q_]
 have wd:=WD.out u0 g0
 have HX:Hid (s x=.free):=o_ hb
 clear hu0 hb WD wq
 (repeat'(first|refine Ctl ?_|((with_reducible refine k_ hK ?_);clear hK hE K E)|(((with_reducible refine ae GV (wd) ?_))<;>(try simp(disch:=omega) only[go_sem,seval,hdl, *]))))
 refine Cj (GS.rawnil (i:=2) k0 rfl) ?_
 simp only[List.set_cons_succ,List.set_cons_zero]
 have hI:NewI s (u0.set x (.obj 73 [.ptr c 0,.ptr q 0,.raw (.slice none 0 0),.raw (.map none),.int .i64 0])) x c q 0 ds:=⟨fun z hz=>(j_ _ _ (nef HX.out hz).1).trans (g0 z hz),.inl ⟨rfl,q_ _ _ _⟩⟩
 have HI:=o_ hI
 clear g0 k0 wd hI
 refine aY (fun fu env s'=>∃(i:Nat),i<=ds.length/\fu+i=ds.length/\Hid (NewI s s' x c q i ds)/\env 4=.ptr x 0/\env 16=.lst D .no/\env 17=.int .i64 ds.length/\env 18=.int .i64 i) ds.length
  ⟨0,by omega,by omega,HI,ac,ac,ac,ac⟩ ?_
 clear HI
 rintro fu env s' ⟨i,hi,hmi,HI,e4,e16,e17,e18⟩
 by_cases h2:i<ds.length
 ·obtain⟨d,hd⟩:∃d,ds[i]?=some d:=⟨_,m_ h2⟩
  have hx:=HAT.out _ _ hd
  have hadd:=CJ hd
  rcases HI.out.ob with ⟨rfl,k⟩|⟨g,k,kg,hg⟩
  ·have hxl:s' x≠.free:=by rw[k];simp
   have HADD:=o_ hadd
   clear hadd
   (repeat'(first|refine Ctl ?_|(with_reducible first|(refine k_ hK ?_;clear hK hE K E)|(refine k_ hKh ?_;clear hKh Kh)|(refine k_ hKb (aC ?_);clear hKb Kb)|refine ax 7 [([0,1,2,3,4,5,6,7],8,[[0]]),([9,10],11,[[],[]])] [] hQe fun K E hK hE=>?_)|((with_reducible refine bZ (fun h=>?_) (fun h=>?_))<;>(try(exfalso;omega)))|((first|(with_reducible first|refine ab fun K E hK hE=>?_|refine ay fun Kh hKh=>?_|refine aG fun Kh hKh=>?_|refine aB fun Kb hKb=>?_)|((with_reducible refine au (fun b hb=>?_));(try(obtain⟨_,_⟩:=nef hb hxl)))|((with_reducible refine fG (fun bM hM=>?_));(try(obtain⟨_,_⟩:=nef hM (a:=x) (by rw[j_ _ _ (‹_›)];exact hxl)))))<;>(try simp(disch:=omega) only[go_sem,seval,hx,List.flatten_cons,List.flatten_nil,List.append_nil, *]))))
   have hb':s' b=.free:=by assumption
   have H1:=NewI.mk1 (ds:=ds) (i:=1) (c:=c) (q:=q) (S1:=s'.set b (.obj 52 [.str d.1,.int .i64 (d.2:Int)])) (fun z hz=>(j_ _ _ (nef hb' (by rw[HI.out.fr z hz];exact hz)).1).trans (HI.out.fr z hz)) hM HX.out (‹_›) (vals:=[.int .i64 (d.2:Int)]) HADD.out
   have HN:=o_ H1
   clear H1
   all_goals exact⟨fu - 1,by omega,1,by omega,by omega,HN,ac,ac,ac,ac⟩
  ·have hxl:s' x≠.free:=by rw[k];simp
   have hgl:s' g≠.free:=by rw[kg];simp
   have hxg:¬ x=g:=fun e=>by rw[e,kg]at k;cases k
   have hgx:¬ g=x:=fun e=>hxg e.symm
   have hsl:(szV ds i).length=i:=wE hi
   have HADD:=o_ hadd
   clear hadd
   generalize szV ds i=SZ at *
   (repeat'(first|refine Ctl ?_|(with_reducible first|(refine k_ hK ?_;clear hK hE K E)|(refine k_ hKh ?_;clear hKh Kh)|(refine k_ hKb (aC ?_);clear hKb Kb)|refine ax 7 [([0,1,2,3,4,5,6,7],8,[[0]]),([9,10],11,[[],[]])] [] hQe fun K E hK hE=>?_)|((with_reducible refine bZ (fun h=>?_) (fun h=>?_))<;>(try(exfalso;assumption)))|((first|(with_reducible first|refine ab fun K E hK hE=>?_|refine ay fun Kh hKh=>?_|refine aG fun Kh hKh=>?_|refine aB fun Kb hKb=>?_)|((with_reducible refine au (fun b hb=>?_));(try(obtain⟨_,_⟩:=nef hb hxl;obtain⟨_,_⟩:=nef hb hgl)))|((with_reducible refine cJ (fun bM hM=>?_));(try(obtain⟨_,_⟩:=nef hM (a:=x) (by rw[j_ _ _ (‹_›),j_ _ _ (‹_›)];exact hxl)))))<;>(try simp(disch:=omega) only[go_sem,seval,hx,hsl,List.flatten_cons,List.flatten_nil,List.append_nil, *]))))
   have hb':s' b=.free:=by assumption
   have H1:=NewI.mk1 (ds:=ds) (i:=i+1) (c:=c) (q:=q) (S1:=(s'.set b (.obj 52 [.str d.1,.int .i64 (d.2:Int)])).set g .free) (fun z hz=>(j_ _ _ (fun e=>hz (by rw[e];exact hg))).trans ((j_ _ _ (nef hb' (by rw[HI.out.fr z hz];exact hz)).1).trans (HI.out.fr z hz))) hM HX.out (‹_›) (vals:=SZ++[.int .i64 (d.2:Int)]) HADD.out
   have HN:=o_ H1
   clear H1
   all_goals exact⟨fu - 1,by omega,i+1,by omega,by omega,HN,ac,ac,ac,ac⟩
 ·have hin:i=ds.length:=by omega
  rcases HI.out.ob with ⟨h0,_⟩|⟨g,k,kg,hg⟩
  ·exfalso;omega
  ·have hsl:(szV ds i).length=i:=wE hi
   refine lD (GSg.frz (i:=2) k rfl kg hsl) ?_
   simp only[List.set_cons_succ,List.set_cons_zero]
   have hmap:(szV ds i).map (fun y=>[y])=szC ds:=by rw[hin,szV,b_,szC,List.map_map];rfl
   rw[hmap]
   have hfr:∀z,s z≠.free->((s'.set g .free).set x (.obj 73 [.ptr c 0,.ptr q 0,.lst (szC ds) .no,.raw (.map none),.int .i64 0])) z=s z:=fun z hz=>by
    rw[j_ _ _ (fun e=>hz (by rw[e];exact HX.out)),j_ _ _ (fun e=>hz (by rw[e];exact hg)),HI.out.fr z hz]
   have hfx:((s'.set g .free).set x (.obj 73 [.ptr c 0,.ptr q 0,.lst (szC ds) .no,.raw (.map none),.int .i64 0])) x=.obj 73 [.ptr c 0,.ptr q 0,.lst (szC ds) .no,.raw (.map none),.int .i64 0]:=q_ _ _ _
   obtain⟨uF,hF⟩:∃u,u=((s'.set g .free).set x (.obj 73 [.ptr c 0,.ptr q 0,.lst (szC ds) .no,.raw (.map none),.int .i64 0])):=⟨_,rfl⟩
   rw[<- hF]at hfr hfx ⊢
   have hC:=HC.out
   have HFIN:=o_ (show RMem uF KK x x q c n B ns ds o from ⟨⟨hC.om.keep fun z hz=>hfr z (hC.om.live hz),(hfr q (by rw[hC.qo];simp)).trans hC.qo,(hfr c (by rw[hC.co];simp)).trans hC.co⟩,.inl ⟨rfl,hfx⟩⟩)
   have HFR:=o_ hfr
   clear hF hfr hfx hC hmap k kg
   (repeat'(first|refine Ctl ?_|((with_reducible refine k_ hK ?_);clear hK hE K E)|((with_reducible refine bZ (fun h=>?_) (fun h=>?_))<;>(try(exfalso;omega)))|(((with_reducible refine ab fun K E hK hE=>?_))<;>(try simp(disch:=omega) only[go_sem,seval, *]))))
   all_goals(refine aq Gn hQ ?_)
   all_goals exact⟨_,_,Wk.refl _,Fg.refl _,(uF,x),rfl,rfl,HFIN.out,HX.out,HFR.out⟩
end Go.Proofs.YtohnaepcgnbaiaaGreatDoor
namespace Go.Proofs.YtohnaepcgnbaiaaGreatDoor
open Go.RowKit
attribute [-go_sem] bJ cX bH bG aT cU cT
theorem Nb (s:St)(x c q:Nat)(a:VV)(ds:TN)(h:s x=.obj 73 (spC c q ds a)):SRet Tryz.prog 27 [.ptr x 0] s (.ptr c 0) s:=by
 unfold spC at h
 generalize szC ds=SZ at *
 refine am Tryz.func27 rfl Tryz.ntmps27 rfl fun Q hQ hQe=>?_
 (repeat'(first|refine Ctl ?_|((with_reducible refine k_ hK ?_);clear hK hE K E)|((with_reducible refine bZ (fun h=>?_) (fun h=>?_))<;>(try(exfalso;assumption)))|(((with_reducible refine ab fun K E hK hE=>?_))<;>(try simp(disch:=omega) only[go_sem,seval, *]))))
 all_goals(refine aq Gm hQ ?_)
 all_goals exact⟨_,_,Wk.refl _,Fg.refl _,rfl,rfl⟩
abbrev Ng:=St×OB×Nat×Nat×Nat
structure Begun (s:St) (i:Nat) (a:Ng):Prop where
 M:RMem a.1 a.2.1 a.2.2.2.2 a.2.2.2.2 a.2.2.1 a.2.2.2.1 14 65536 [.lf false,.lf true] dsR (oR i)
 fr:∀z,s z≠.free->a.1 z=s z/\¬ kF a.2.1 a.2.2.2.2 a.2.2.2.2 z
theorem pj (s:St)(od:Int):∃i,i<3/\SCalls Tryz.prog 8 [.int .i64 od] s fun w u=>∃a:Ng,w=.ret (.tup [.ptr a.2.2.2.2 0,.bool true])/\u=a.1/\Begun s i a:=by
 refine⟨jw 8 od % 3,Nat.mod_lt _ (by omega),?_⟩
 have f1:bF .and .i64 od 255=some (.int .i64 ((jw 8 od:Nat):Int)):=by
  have h:=rI (w:=8) (by omega) od
  have e:IntKind.i64.wrap (((2 ^ 8:Nat):Int) - 1)=255:=by decide
  rwa [e]at h
 have f2:bF .rem .i64 ((jw 8 od:Nat):Int) 3=some (.int .i64 ((jw 8 od % 3:Nat):Int)):=by
  have e:=C1 (k:=jw 8 od) (m:=3)
  simp only[bF]
  rw[if_pos (by decide)]
  exact congrArg (fun z=>some (VV.int .i64 z)) e
 have hi3:jw 8 od % 3<3:=Nat.mod_lt _ (by omega)
 generalize jw 8 od % 3=i at *
 generalize jw 8 od=p at *
 have hlit:([[.str (mj 0)],[.str (mj 1)],[.str (mj 2)]]:Ta)[i]?=some [.str (mj i)]:=by
  match i,hi3 with
  |0,_=>rfl
  |1,_=>rfl
  |2,_=>rfl
 have w1:=ML s 14 65536 (by omega) (by omega) (by omega)
 have hnew:=fun(u:St) (KK:OB) (q:Nat) (hO:OMem u KK 14 65536 [.lf false,.lf true]) (hq:u q=.obj 126 [.ptr KK.o 0,.ptr KK.s.p 0])=>FF hO hq dmR .full (mj i) (by decide) (by decide) (by
  have:∀i,i<3->(mj i).length<=10000:=by decide
  exact this i hi3)
 rw[newR hi3]at hnew
 have hdm:cH dmR=[[.str [80,48],.int .i64 4],[.str [80,49],.int .i64 4],[.str [80,50],.int .i64 4],[.str [80,51],.int .i64 4],[.str [81,48],.int .i64 3],[.str [81,49],.int .i64 3],[.str [81,50],.int .i64 3]]:=rfl
 rw[hdm]at hnew
 obtain⟨OR,hOR⟩:∃z,z=mj i:=⟨_,rfl⟩
 rw[<- hOR]at hlit
 simp only[<- hOR]at hnew
 simp only[mj]at hlit
 have HNEW:=o_ hnew
 clear hnew hdm hOR
 refine am Tryz.func8 rfl Tryz.ntmps8 rfl fun Q hQ hQe=>?_
 (repeat'(first|refine Ctl ?_|((with_reducible refine k_ hK ?_);clear hK hE K E)|(((with_reducible refine ab fun K E hK hE=>?_))<;>(try simp(disch:=omega) only[go_sem,seval, *]))))
 refine ao Qq w1 (fun a h=>?_)
 obtain⟨u1,KS⟩:=a
 obtain⟨hS1,hf1⟩:=h
 dsimp only at hS1 hf1 ⊢
 have w2:=ME hS1
 have HF1:=o_ hf1
 clear w1 hS1 hf1
 simp only[go_sem,seval]
 (repeat'(first|refine Ctl ?_|((with_reducible refine k_ hK ?_);clear hK hE K E)|(((with_reducible refine ab fun K E hK hE=>?_))<;>(try simp(disch:=omega) only[go_sem,seval, *]))))
 refine ao Qp w2 (fun a h=>?_)
 obtain⟨u2,o2⟩:=a
 obtain⟨hO2,hof,hf2⟩:=h
 dsimp only at hO2 hof hf2 ⊢
 obtain⟨d,cc,hoo⟩:=hO2.op
 dsimp only at hoo
 have w3:=MB u2 o2 KS.p d cc hoo
 have HF2:=o_ hf2
 have HOF:=o_ hof
 have HO2:=o_ hO2
 clear w2 hof hf2 hO2 hoo
 simp only[go_sem,seval]
 (repeat'(first|refine Ctl ?_|((with_reducible refine k_ hK ?_);clear hK hE K E)|(((with_reducible refine ab fun K E hK hE=>?_))<;>(try simp(disch:=omega) only[go_sem,seval, *]))))
 have w3':SCalls Tryz.prog 24 [.ptr o2 0] u2 fun w u=>∃a:zn,w=.ret (.tup [.ptr a.2 0,.int .i64 0])/\u=a.1/\u2 a.2=.free/\a.1=u2.set a.2 (.obj 126 [.ptr o2 0,.ptr KS.p 0]):=by
  refine SCalls.mono (h:=w3) ?_
  rintro w u ⟨q,rfl,rfl,hq⟩
  exact⟨(_,q),rfl,rfl,hq,rfl⟩
 refine ao Qo w3' (fun a h=>?_)
 obtain⟨u3,q⟩:=a
 obtain⟨hqf,hu3⟩:=h
 dsimp only at hqf hu3 ⊢
 have hf3:∀z,u2 z≠.free->u3 z=u2 z:=fun z hz=>by rw[hu3,j_ _ _ (nef hqf hz).1]
 have hO3:OMem u3 ⟨KS,o2,o2⟩ 14 65536 [.lf false,.lf true]:=HO2.out.keep fun z hz=>hf3 z (HO2.out.live hz)
 have hq3:u3 q=.obj 126 [.ptr o2 0,.ptr KS.p 0]:=by rw[hu3,q_]
 have w4:=HNEW.out u3 ⟨KS,o2,o2⟩ q hO3 hq3
 have HF3:=o_ hf3
 have HO3:=o_ hO3
 have HQ3:=o_ hq3
 clear w3 w3' hqf hu3 hf3 hO3 hq3
 simp only[go_sem,seval]
 (repeat'(first|refine Ctl ?_|((with_reducible refine k_ hK ?_);clear hK hE K E)|(((with_reducible refine ab fun K E hK hE=>?_))<;>(try simp(disch:=omega) only[go_sem,seval,f1,f2,hlit, *]))))
 refine ao Qn w4 (fun a h=>?_)
 obtain⟨u4,c⟩:=a
 obtain⟨hcf,hu4⟩:=h
 dsimp only at hcf hu4 ⊢
 simp only[Lw]
 have hf4:∀z,u3 z≠.free->u4 z=u3 z:=fun z hz=>by rw[hu4,j_ _ _ (nef hcf hz).1]
 have hC4:CMem u4 ⟨KS,o2,o2⟩ q c 14 65536 [.lf false,.lf true] dsR (oR i):=⟨HO3.out.keep fun z hz=>hf4 z (HO3.out.live hz),(hf4 q (by rw[HQ3.out];simp)).trans HQ3.out,by rw[hu4,q_,PO]⟩
 have w5:=My hC4 (by decide) (by decide)
 have HF4:=o_ hf4
 clear w4 hcf hu4 hf4 hC4
 simp only[go_sem,seval]
 (repeat'(first|refine Ctl ?_|((with_reducible refine k_ hK ?_);clear hK hE K E)|(((with_reducible refine ab fun K E hK hE=>?_))<;>(try simp(disch:=omega) only[go_sem,seval, *]))))
 refine ao Qm w5 (fun a h=>?_)
 obtain⟨u5,x⟩:=a
 obtain⟨hM,hxf,hf5⟩:=h
 dsimp only at hM hxf hf5 ⊢
 obtain⟨a5,hx⟩:=hM.xf
 have wc:=Nb u5 x c q a5 dsR hx
 have wd:=Cs u5 c _ _ dsR (by decide) hM.C.co
 have hdl:=fZ (ds:=dsR)
 have hfin:Begun s i (u5,⟨KS,o2,o2⟩,q,c,x):=by
  refine⟨hM,fun z hz=>?_⟩
  obtain⟨e1,e1'⟩:=HF1.out z hz
  have e2:=HF2.out z (by rw[e1];exact hz)
  have e3:=HF3.out z (by rw[e2,e1];exact hz)
  have e4:=HF4.out z (by rw[e3,e2,e1];exact hz)
  have e5:=hf5 z (by rw[e4,e3,e2,e1];exact hz)
  refine⟨by dsimp only;rw[e5,e4,e3,e2,e1],?_⟩
  rintro((hh|hh|hh)|hh|hh)
  ·exact e1' hh
  ·dsimp only at hh;subst hh;exact hz (by rw[<- e1];exact HOF.out)
  ·dsimp only at hh;subst hh;exact hz (by rw[<- e1];exact HOF.out)
  ·dsimp only at hh;subst hh;exact hz (by rw[<- e1,<- e2,<- e3,<- e4];exact hxf)
  ·dsimp only at hh;subst hh;exact hz (by rw[<- e1,<- e2,<- e3,<- e4];exact hxf)
 have HFIN:=o_ hfin
 clear w5 hM hxf hf5 hx hfin HF1 HF2 HF3 HF4 HOF HO2 HO3 HQ3 HNEW
 have h7:dsR.length=7:=rfl
 rw[h7]at hdl
 generalize dx dsR=D at *
 simp only[go_sem,seval]
 (repeat'(first|refine Ctl ?_|((with_reducible refine k_ hK ?_);clear hK hE K E)|(((with_reducible first|refine ab fun K E hK hE=>?_|refine ae Ql (wc) ?_|refine ae GV (wd) ?_))<;>(try simp(disch:=omega) only[go_sem,seval,hdl, *]))))
 all_goals(refine aq NA hQ ?_)
 all_goals exact⟨_,_,Wk.refl _,Fg.refl _,(u5,⟨KS,o2,o2⟩,q,c,x),rfl,rfl,HFIN.out⟩
structure Nod (ns:Td) (f:Tf) (k:Nat):Prop where
 mem:treeT 14 f∈ns
 ix:ixF 14 ns f=k
theorem Nod.app {ns ns':Td}{f:Tf}{k:Nat}(h:Nod ns f k)(hp:∃l,ns'=ns++l):Nod ns' f k:=
 ⟨(bn hp h.mem).1,(bn hp h.mem).2.trans h.ix⟩
structure RLaw (s u:St) (K:OB) (x m q c:Nat) (ns:Td) (i N:Nat):Prop where
 M:RMem u K x m q c 14 65536 ns dsR (oR i)
 n:CntN ns N
 fr:∀z,s z≠.free->u z=s z/\¬ kF K x m z
 i3:i<3
theorem RLaw.of {s:St}{i:Nat}{a:Ng}(h:Begun s i a)(hi:i<3):RLaw s a.1 a.2.1 a.2.2.2.2 a.2.2.2.2 a.2.2.1 a.2.2.2.1 [.lf false,.lf true] i 2:=
 ⟨h.M,⟨_,Nat.le_refl _,fun t h=>h⟩,h.fr,hi⟩
abbrev tU:=(St×OB×Nat×Td×Nat)×(Tf)
structure ResT (s u:St) (ns:Td) (x q c i N:Nat) (D:TW) (S:TW->Prop) (a:tU):Prop where
 L:RLaw s a.1.1 a.1.2.1 x a.1.2.2.1 q c a.1.2.2.2.1 i N
 pre:∃l,a.1.2.2.2.1=ns++l
 nd:Nod a.1.2.2.2.1 a.2 a.1.2.2.2.2
 T:Tells (oR i) D S a.2
 own:∀(b:Nat) (xs:Tb),u b=.obj 30 xs->a.1.1 b=.obj 30 xs
section
variable {s u : St} {K : OB} {x m q c : Nat} {ns : Td} {i N : Nat}
theorem RLaw.step (h:RLaw s u K x m q c ns i N){N':Nat}{g:Tf}{a:gI}(k:RelR u K x m q c 14 65536 ns dsR (oR i) N' g a):RLaw s a.1 a.2.1 x a.2.2.1 q c a.2.2.2 i N':=
 ⟨k.M,k.cnt,fun z hz=>by
  obtain⟨e1,e2⟩:=h.fr z hz
  refine⟨by rw[<- e1];exact k.k.out z (by rw[e1];exact hz) e2,fun e3=>?_⟩
  rcases k.k.nw z e3 with e|e
  ·exact e2 e
  ·rw[e1]at e;exact hz e,h.i3⟩
theorem RLaw.res (h:RLaw s u K x m q c ns i N){N':Nat}{g:Tf}{a:gI}(k:RelR u K x m q c 14 65536 ns dsR (oR i) N' g a){N2:Nat}(hN:N'<=N2){D:TW}{S:TW->Prop}(hT:Tells (oR i) D S g):ResT s u ns x q c i N2 D S ((a.1,a.2.1,a.2.2.1,a.2.2.2,ixF 14 a.2.2.2 g),g):=
 ⟨h.step (k.mono hN),k.pre,⟨k.mem,rfl⟩,hT,fun b xs hb=>k.own h.M hb (by decide) (by decide) (by decide) (by decide)⟩
theorem RLaw.more (h:RLaw s u K x m q c ns i N){u':St}(hk:∀z,u z≠.free->u' z=u z):RLaw s u' K x m q c ns i N:=
 ⟨h.M.more hk,h.n,fun z hz=>by
  obtain⟨e1,e2⟩:=h.fr z hz
  exact⟨(hk z (by rw[e1];exact hz)).trans e1,e2⟩,h.i3⟩
theorem RLaw.fg (h:RLaw s u K x m q c ns i N):Fg u s:=fun z=>by
 by_cases hz:s z=.free
 ·exact .inl hz
 ·exact .inr (h.fr z hz).1.symm
theorem RLaw.w2 (h:RLaw s u K x m q c ns i N){d:Nat}(hd:d<7):((oR i).getD d []).length=2:=uX h.i3 hd
theorem RLaw.D (h:RLaw s u K x m q c ns i N):DOk 14 dsR (oR i):=Pt h.i3
theorem RLaw.free (h:RLaw s u K x m q c ns i N){b:Nat}(hb:u b=.free):s b=.free:=by
 by_cases e:s b=.free
 ·exact e
 ·exact absurd ((h.fr b e).1.symm.trans hb) e
theorem RLaw.fin (h:RLaw s u K x m q c ns i N){u':St}(hu:∀z,u z≠.free->u' z=u z\/((∃xs,u z=.obj 30 xs)/\s z=.free)):RLaw s u' K x m q c ns i N:=by
 have k:∀z,(kF K x m z\/z=q\/z=c)->u' z=u z:=fun z hz=>by
  have hl:u z≠.free:=by
   rcases hz with e|rfl|rfl
   ·exact h.M.live e
   ·rw[h.M.C.qo];simp
   ·rw[h.M.C.co];simp
  rcases hu z hl with e|⟨⟨xs,e⟩,_⟩
  ·exact e
  ·obtain⟨h1,h2,h3⟩:=h.M.rel e
   rcases hz with e|e|e
   ·exact absurd e h1
   ·exact absurd e h2
   ·exact absurd e h3
 refine⟨⟨⟨h.M.C.om.keep fun z hz=>k z (.inl (.inl hz)),(k q (.inr (.inl rfl))).trans h.M.C.qo,(k c (.inr (.inr rfl))).trans h.M.C.co⟩,?_⟩,h.n,fun z hz=>?_,h.i3⟩
 ·rcases h.M.sp with ⟨e,e1⟩|⟨me,e1,e2,e3⟩
  ·exact .inl ⟨e,(k x (.inl (.inr (.inl rfl)))).trans e1⟩
  ·exact .inr ⟨me,(k x (.inl (.inr (.inl rfl)))).trans e1,(k m (.inl (.inr (.inr rfl)))).trans e2,e3⟩
 ·obtain⟨e1,e2⟩:=h.fr z hz
  rcases hu z (by rw[e1];exact hz)with e|⟨_,e⟩
  ·exact⟨e.trans e1,e2⟩
  ·exact absurd e hz
theorem RLaw.r4 (h:RLaw s u K x m q c ns i N){A:TV}{D:TW}(hn:bi A)(hl:A.length=D.length)(hd:D.Nodup)(h4:∀d,d∈D->d<4):Rel4 dsR (oR i) A D:=⟨hn,hl,hd,xB h.i3 h4⟩
end
theorem dE {i:Nat}(h:i<3){D:TW}(hD:∀d,d∈D->d<4):(aj (oR i) D).length=2 * D.length:=(xB h hD).vl
section
variable {s u : St} {K : OB} {x m q c : Nat} {ns : Td} {i N N' : Nat} {A : TV} {D : TW}
theorem RLaw.make (L:RLaw s u K x m q c ns i N)(o1 o2:Own)(hn:bi A)(hl:A.length=D.length)(hd:D.Nodup)(h4:∀d,d∈D->d<4)(T:TU)(TC:Ta)(o3:Own)(hT:∀t,t∈T->t.length=D.length/\∀v,v∈t->v<4)(hTC:∀(i:Nat) (t:TW),T[i]?=some t->∃oi,TC[i]?=some [.lst (ak t) oi])(hTl:TC.length=T.length)(hT8:T.length<=1000000)
  (hN:N+T.length * (2 * D.length+2 ^ (2 * D.length))<=N') (hB:N'<=65536) :
  SCalls Tryz.prog 19 [.ptr x 0,.lst (az A) o1,.lst (ak D) o2,.lst TC o3] u fun w u'=>∃a:tU,w=.ret (.tup [.agg [.lst (az A) .no,.lst (ak D) .no,.int .i64 (a.1.2.2.2.2:Nat)],.int .i64 0])/\u'=a.1.1/\ResT s u ns x q c i N' D (·∈T) a:=by
 refine SCalls.mono (h:=Fm (by omega) L.M L.D A o1 D o2 (L.r4 hn hl hd h4) T TC o3 hT hTC hTl hT8 L.n (by omega)) ?_
 rintro w u' ⟨a,rfl,rfl,h⟩
 exact⟨_,rfl,rfl,L.res h hN (qj fun t ht=>(hT t ht).1)⟩
theorem RLaw.tuples (L:RLaw s u K x m q c ns i N){T:TU}{f:Tf}{k:Nat}(hT:Tells (oR i) D (·∈T) f)(hk:Nod ns f k)(o1 o2:Own)(hn:bi A)(hl:A.length=D.length)(hd:D.Nodup)(h4:∀d,d∈D->d<4)(hTo:∀t,t∈T->t.length=D.length/\∀v,v∈t->v<4){most:Nat}(hmo:most<=16384)(hm:(br T).length<=most)
  (hN:N+D.length * (20+2 ^ (2 * D.length))<=N') (hB:N'<=65536) :
  SCalls Tryz.prog 11 [.ptr x 0,.agg [.lst (az A) o1,.lst (ak D) o2,.int .i64 (k:Nat)],.int .i64 most] u fun w u'=>∃a:gI,w=.ret (.tup [.lst (cu (br T)) .no,.int .i64 0])/\u'=a.1/\RLaw s a.1 a.2.1 x a.2.2.1 q c a.2.2.2 i N'/\(∃l,a.2.2.2=ns++l)/\∀(b:Nat) (xs:Tb),u b=.obj 30 xs->a.1 b=.obj 30 xs:=by
 have hr:=CI L.D (fun k hk=>by have:=h4 k hk;show k<7;omega) (fun k hk=>L.w2 (by have:=h4 k hk;omega)) hd hT hTo
 have h:=y5 (by omega) L.M L.D A o1 D o2 (L.r4 hn hl hd h4) hT.dep hk.mem L.n (by omega) hmo hr hm
 rw[hk.ix]at h
 refine SCalls.mono (h:=h) ?_
 rintro w u' ⟨a,rfl,rfl,h⟩
 exact⟨_,rfl,rfl,L.step (h.mono hN),h.pre,fun b xs hb=>h.own L.M hb (by decide) (by decide) (by decide) (by decide)⟩
end
end Go.Proofs.YtohnaepcgnbaiaaGreatDoor
namespace Go.Proofs.YtohnaepcgnbaiaaGreatDoor
open Go.RowKit
attribute [-go_sem] bJ cX bH bG aT cU cT
def eX (T:TU)(o:Own):Ta:=T.map fun t=>[.lst (ak t) o]
theorem sP {T:TU}{o:Own}:(eX T o).length=T.length:=by simp[eX]
theorem mz {T:TU}{o:Own}{i:Nat}{t:TW}(h:T[i]?=some t):(eX T o)[i]?=some [.lst (ak t) o]:=by simp[eX,h]
abbrev Qv:=(St×OB×Nat×Td×Nat×Nat)×(Tf)×(Tf)
structure TwoR (s u:St) (x q c i N:Nat) (A B:List Par) (a:Qv):Prop where
 L:RLaw s a.1.1 a.1.2.1 x a.1.2.2.1 q c a.1.2.2.2.1 i N
 n1:Nod a.1.2.2.2.1 a.2.1 a.1.2.2.2.2.1
 n2:Nod a.1.2.2.2.1 a.2.2 a.1.2.2.2.2.2
 T1:Tells (oR i) [0,1] (·∈A.map pN) a.2.1
 T2:Tells (oR i) [2,0] (·∈B.map pN) a.2.2
theorem ee:bi [[120],[121]]:=⟨by decide,by decide,by decide⟩
theorem qn:bi [[121],[122]]:=⟨by decide,by decide,by decide⟩
def dM (A:TV)(D:TW)(k:Nat):Tb:=[.lst (az A) .no,.lst (ak D) .no,.int .i64 (k:Int)]
end Go.Proofs.YtohnaepcgnbaiaaGreatDoor
