/- Walks of functions that the claim reaches, and plain facts of them. Conditions: those in the statements. -/
import Derived.Test.YtohnaepcgnbaiaaGreatDoorJjElj
import Derived.Test.YtohnaepcgnbaiaaGreatDoorJjSuj
import Derived.Test.YtohnaepcgnbaiaaGreatDoorJjRnj
import Derived.Test.YtohnaepcgnbaiaaGreatDoorJjPkj
import Derived.Test.YtohnaepcgnbaiaaGreatDoorJjSaj
set_option linter.unusedSimpArgs false
set_option linter.unusedVariables false
set_option maxRecDepth 100000
namespace Go.Proofs.YtohnaepcgnbaiaaGreatDoor
open Go.RowKit
attribute [-go_sem] p_and p_or p_shl p_shr p_andNot p_quo p_rem
def Dom4 (ds:List (List UInt8×Nat))(o:List (List Nat))(D:List Nat):Prop:=∀d,d∈D→(∃nm,ds[d]?=some (nm,4))∧(o.getD d []).length=2
theorem Dom4.lt {ds:List (List UInt8×Nat)}{o:List (List Nat)}{D:List Nat}(h:Dom4 ds o D):∀d,d∈D→d<ds.length:=fun d hd=>by
 obtain⟨nm,e⟩:=(h d hd).1
 exact(List.getElem?_eq_some_iff.1 e).1
theorem Dom4.vl {ds:List (List UInt8×Nat)}{o:List (List Nat)}:∀{D:List Nat},Dom4 ds o D→(varsOf o D).length=2 * D.length
 |[],_=>by simp[varsOf]
 |d::D,h=>by
  have ih:=Dom4.vl (D:=D) fun k hk=>h k (List.mem_cons_of_mem _ hk)
  have h2:=(h d (List.mem_cons_self ..)).2
  have e:varsOf o (d::D)=o.getD d []++varsOf o D:=by simp[varsOf]
  rw[e,List.length_append,List.length_cons]
  omega
theorem szC_at {ds:List (List UInt8×Nat)}{d:Nat}{x:List UInt8×Nat}(h:ds[d]?=some x):(szC ds)[d]?=some [.int .i64 (x.2:Int)]:=by simp[szC,h]
theorem btw_all {vs:List Nat}(h:vs.length=2)(x:Nat→Bool):btwF vs 0 3 x=true:=by
 have:=numA_lt vs x
 rw[h]at this
 simp[btwF]
 omega
theorem OpF.then {s:St}{K:OB}{n B N N2:Nat}{ns:List Tr}{f g:(Nat→Bool)→Bool}{a b:IteA}(h:OpF s K n B ns N f a)(k:OpF a.1 a.2.1 n B a.2.2 N2 g b):OpF s K n B ns N2 g b:=by
 obtain⟨x,hx⟩:=h.pre
 obtain⟨y,hy⟩:=k.pre
 exact⟨k.m,⟨x++y,by rw[hy,hx,List.append_assoc]⟩,k.mem,k.cnt,h.k.trans k.k⟩
theorem OpF.also {s:St}{K:OB}{n B N:Nat}{ns:List Tr}{f g:(Nat→Bool)→Bool}{a:IteA}(h:OpF s K n B ns N g a)(hf:treeT n f∈ns):OpF s K n B ns N f a∧ixF n a.2.2 f=ixF n ns f:=
 ⟨⟨h.m,h.pre,(sub_of h.pre hf).1,h.cnt,h.k⟩,(sub_of h.pre hf).2⟩
theorem OpF.new {s u u':St}{K K':OB}{n B N:Nat}{ns ns':List Tr}{f:(Nat→Bool)→Bool}(h:OpF s K n B ns N f (u,K',ns'))(hu:∀z,u z≠.free→u' z=u z):OpF s K n B ns N f (u',K',ns'):=
 ⟨h.m.keep fun z hz=>hu z (h.m.live hz),h.pre,h.mem,h.cnt,⟨h.k.p,h.k.q,h.k.o,h.k.nw,fun z hz hn=>by
  have e:=h.k.out z hz hn
  dsimp only at e ⊢
  rw[hu z (by rw[e];exact hz),e]⟩⟩
theorem OpF.set {s u:St}{K K':OB}{n B N b:Nat}{ns ns':List Tr}{f:(Nat→Bool)→Bool}{x:Cell}(h:OpF s K n B ns N f (u,K',ns'))(hb:¬ K'.has b)(hs:s b=.free):OpF s K n B ns N f (u.set b x,K',ns'):=
 ⟨h.m.keep fun z hz=>St.set_other _ _ fun e=>hb (e ▸ hz),h.pre,h.mem,h.cnt,⟨h.k.p,h.k.q,h.k.o,h.k.nw,fun z hz hn=>(St.set_other _ _ fun e=>hz (by rw[e];exact hs)).trans (h.k.out z hz hn)⟩⟩
set_option maxHeartbeats 8000000 in
theorem Clean_S {s:St}{KK:OB}{x m q c n B N:Nat}{ns:List Tr}{ds:List (List UInt8×Nat)}{o:List (List Nat)}(hM:RMem s KK x m q c n B ns ds o)(hD:DOk n ds o){f:(Nat→Bool)→Bool}(X:List (List VV))(oA:Own)(D:List Nat)(o2:Own)(h4:Dom4 ds o D)(hl:D.length≤8)(hf:DepF (varsOf o D) f)(mf:treeT n f∈ns)
  (hc:CntN ns N) (hB:N+D.length * (20+2 ^ (2 * D.length))≤B) :
  SCalls Tryz.prog 35 [.ptr x 0,.agg [.lst X oA,.lst (natsL D) o2,.int .i64 (ixF n ns f:Nat)]] s fun w u=>∃a:IteA,w=.ret (.tup [.agg [.lst X oA,.lst (natsL D) o2,.int .i64 (ixF n ns f:Nat)],.int .i64 0])∧u=a.1∧OpF s KK n B ns (N+D.length * (20+2 ^ (2 * D.length))) f a:=by
 obtain⟨R,hR⟩:∃R,R=20+2 ^ (2 * D.length):=⟨_,rfl⟩
 rw[← hR]at hB ⊢
 have hvl:=h4.vl
 obtain⟨kf,hkf⟩:∃k,k=ixF n ns f:=⟨_,rfl⟩
 rw[← hkf]
 have hdl:=natsL_len (ks:=D)
 have hat:=fun(i k:Nat) (h:D[i]?=some k)=>natsL_at h
 have hlt:=h4.lt
 obtain⟨a0,hx⟩:=hM.xf
 unfold spC at hx
 have wrng:=fun(u:St) (K:OB) (ns1:List Tr) (N1 d:Nat) (h:OpF s KK n B ns N1 f (u,K,ns1)) (hd:d∈D) (hN:N1+20≤B)=>show OpFC 68 [.ptr c 0,.int .i64 (d:Int),.int .i64 0,.int .i64 3] u K n B ns1 (N1+20) (btwF (o.getD d []) 0 3) from by
  obtain⟨⟨nm,e⟩,e2⟩:=h4 d hd
  have w:=Crng_S (lo:=0) (hi:=3) (hM.C.keep h.m h.k) hD e (hD.getD (hlt d hd)).1 (by omega) (by omega) h.cnt (by rw[e2];omega)
  rw[e2]at w
  exact w
 have wand:=fun(u:St) (K:OB) (ns1:List Tr) (N1 d:Nat) (h:OpF s KK n B ns N1 f (u,K,ns1)) (hd:d∈D) (u1:St) (K1:OB) (ns2:List Tr) (h1:OpF u K n B ns1 (N1+20) (btwF (o.getD d []) 0 3) (u1,K1,ns2)) (hN:N1+R≤B)=>
  show SCalls Tryz.prog 40 [.ptr KK.o 0,.int .i64 (kf:Int),.int .i64 (ixF n ns2 (btwF (o.getD d []) 0 3):Nat)] u1 (fun w u=>∃a:IteA,w=.ret (.tup [.int .i64 (kf:Int),.int .i64 0])∧u=a.1∧OpF s KK n B ns (N1+R) f a∧OKeep u1 a.1 K1 a.2.1) from by
  have h2:=h.then h1
  have hfS:=hf.hang (varsOf_lt hD hlt)
  have hgS:Hang n (btwF (o.getD d []) 0 3):=(btwF_dep _ _ _).hang (hD.getD (hlt d hd)).2.2
  have hfg:(fun y=>f y && btwF (o.getD d []) 0 3 y)=f:=by funext y;rw[btw_all (h4 d hd).2,Bool.and_true]
  obtain⟨h3,h3e⟩:=h2.also (f:=f) mf
  dsimp only at h3e
  have hs:SubN (treeT n fun y=>f y && btwF (o.getD d []) 0 3 y) (2 ^ (2 * D.length)):=by rw[hfg];exact(subN_tree (varsOf_lt hD hlt) hf (by rw[hvl];exact Nat.le_refl _)).mono (Nat.sub_le _ _)
  have w:=OAnd_F h2.m hfS hgS h3.mem h2.mem h2.cnt hs (by omega)
  rw[hfg]at w
  dsimp only at w
  rw[h3e,← hkf,h2.k.o]at w
  refine SCalls.mono (h:=w) ?_
  rintro v u ⟨a,rfl,rfl,h5⟩
  have h6:=h3.then h5
  have e7:=(h6.also (f:=f) mf).2
  refine⟨a,by rw[e7,← hkf],rfl,⟨h6.m,h6.pre,h6.mem,?_,h6.k⟩,h5.k⟩
  have:=h6.cnt
  rwa [show N1+20+2 ^ (2 * D.length)=N1+R by omega]at this
 have wq:=fun(u:St) (K:OB) (ns1:List Tr) (N1:Nat) (g:(Nat→Bool)→Bool) (h:OpF s KK n B ns N1 g (u,K,ns1))=>Qops_S u q KK.o KK.s.p (by have:=(hM.C.keep h.m h.k).qo;dsimp only at this;rw[h.k.o,h.k.p]at this;exact this)
 have hxo:=fun(u:St) (K:OB) (ns1:List Tr) (N1:Nat) (g:(Nat→Bool)→Bool) (h:OpF s KK n B ns N1 g (u,K,ns1))=>(h.k.out x hM.xl hM.xk).trans hx
 have hsz:=fun d (hd:d∈D)=>show (szC ds)[d]?=some [.int .i64 4] from by obtain⟨nm,e⟩:=(h4 d hd).1;exact szC_at e
 have hI0:OpF s KK n B ns (N+0 * R) f (s,KK,ns):=⟨hM.C.om,⟨[],by simp⟩,mf,by simpa using hc,.refl _ _⟩
 have HAT:=Lib.hid hat
 have WR:=Lib.hid wrng
 have WA:=Lib.hid wand
 have WQ:=Lib.hid wq
 have HX:=Lib.hid hxo
 have HS:=Lib.hid hsz
 have HI0:=Lib.hid hI0
 have HM:=Lib.hid hM
 clear hat wrng wand wq hxo hsz hI0 hM h4 hf mf hc hlt hx hkf hvl
 generalize natsL D=V at *
 generalize szC ds=SZ at *
 refine G_enter Tryz.func35 rfl Tryz.ntmps35 rfl fun Q hQ hQe=>?_
 (repeat'(first|refine Ctl ?_|((with_reducible refine Kof.use hK ?_);clear hK hE K E)|((first|(with_reducible refine G_region fun K E hK hE=>?_)|((with_reducible refine W_fresh (fun b hb=>?_));(repeat(obtain⟨_,hb⟩:=hb))))<;>(try simp(disch:=omega) only[go_sem,seval,hdl, *]))))
 rename_i b3 hb3 n34 n43
 obtain⟨b4,hb4e⟩:∃z,z=b:=⟨_,rfl⟩
 subst hb4e
 have hb4:s b4=.free:=hb
 obtain⟨u0,hu0⟩:∃u,u=(s.set b3 (.obj 30 [.lst X oA,.lst V o2,.int .i64 (kf:Int)])).set b4 (.obj 30 [.lst [] .full,.lst [] .full,.int .i64 0]):=⟨_,rfl⟩
 rw[← hu0]
 have g0:∀z,s z≠.free→u0 z=s z:=fun z hz=>by rw[hu0,St.set_other _ _ (nef hb4 hz).1,St.set_other _ _ (nef hb3 hz).1]
 have k3:u0 b3=.obj 30 [.lst X oA,.lst V o2,.int .i64 (kf:Int)]:=by rw[hu0,St.set_other _ _ n43,St.set_same]
 have k4:u0 b4=.obj 30 [.lst [] .full,.lst [] .full,.int .i64 0]:=by rw[hu0,St.set_same]
 have hI:=Lib.hid (HI0.out.new g0)
 have HB4:=Lib.hid hb4
 clear hu0 g0 hb HI0 hb3 hb4
 refine L_loop (fun fu env s'=>∃(i:Nat) (K':OB) (ns':List Tr),i≤D.length∧fu+i=D.length∧Hid (OpF s KK n B ns (N+i * R) f (s',K',ns'))∧s' b3=.obj 30 [.lst X oA,.lst V o2,.int .i64 (kf:Int)]∧s' b4=.obj 30 [.lst [] .full,.lst [] .full,.int .i64 0]∧env 0=.ptr x 0∧env 3=.ptr b3 0∧env 4=.ptr b4 0∧env 11=.lst V o2∧env 12=.int .i64 D.length∧env 13=.int .i64 i) D.length
  ⟨0,KK,ns,by omega,by omega,hI,k3,k4,z_sl,z_sl,z_sl,z_sl,z_sl,z_sl⟩ ?_
 clear hI k3 k4
 rintro fu env s' ⟨i,K',ns',hi,hmi,HI,k3,k4,e0,e3,e4,e11,e12,e13⟩
 by_cases h2:i<D.length
 ·have hk:=List.getElem?_eq_getElem h2
  have hdm:=List.getElem_mem h2
  have hv:=HAT.out _ _ hk
  have hs4:=HS.out _ hdm
  have hN:N+i * R+R≤B:=by
   have:=Nat.mul_le_mul_right R (show i+1≤D.length by omega)
   rw[Nat.add_mul,Nat.one_mul]at this
   omega
  have hR20:20≤R:=by rw[hR];exact Nat.le_add_right 20 _
  have hxx:=HX.out _ _ _ _ _ HI.out
  dsimp only at hxx
  have wr:=WR.out _ _ _ _ _ HI.out hdm (by omega)
  have WA2:=Lib.hid (fun u1 K1 ns2 h1=>WA.out _ _ _ _ _ HI.out hdm u1 K1 ns2 h1 hN)
  have HN:=Lib.hid hN
  generalize D[i]=d at *
  have hw3:IntKind.i64.wrap (4 - 1)=3:=by decide
  unfold OpFC at wr
  clear hk hdm hN hR20
  (repeat'(first|refine Ctl ?_|(with_reducible first|(refine Kof.use hK ?_;clear hK hE K E)|(refine Kof.use hKh ?_;clear hKh Kh)|refine G_plan 4 [([0,1,2,3,4,5,6,7,8,9,10,11,12],13,[[]])] [14,15,16,17,18] hQe fun K E hK hE=>?_)|((with_reducible refine W_cond (fun h=>?_) (fun h=>?_))<;>(try(exfalso;assumption)))|(((with_reducible first|refine G_region fun K E hK hE=>?_|refine P_heads fun Kh hKh=>?_|refine P_each fun Kb hKb=>?_))<;>(try simp(disch:=omega) only[go_sem,seval,hv,hs4,hw3, *]))))
  refine call_ex can68 wr (fun a h=>?_)
  obtain⟨u1,K1,ns1⟩:=a
  have wa:=WA2.out _ _ _ h
  have h12:=HI.out.then h
  have wq:=WQ.out _ _ _ _ _ h12
  have hx1:=HX.out _ _ _ _ _ h12
  have j3:=(h.k.out b3 (by rw[k3];simp) (HI.out.m.types k3 (by decide) (by decide) (by decide))).trans k3
  have j4:=(h.k.out b4 (by rw[k4];simp) (HI.out.m.types k4 (by decide) (by decide) (by decide))).trans k4
  have HO1:=Lib.hid h.m
  dsimp only at hx1 j3 j4 HO1 ⊢
  clear h wr h12 WA2 k3 k4 hxx
  generalize ixF n ns1 (btwF (o.getD d []) 0 3)=kz at *
  simp only[go_sem,seval]
  (repeat'(first|refine Ctl ?_|(with_reducible first|(refine Kof.use hK ?_;clear hK hE K E)|(refine Kof.use hKh ?_;clear hKh Kh)|(refine Kof.use hKb (P_next ?_);clear hKb Kb)|refine G_plan 6 [([0,1,2,3,5,6,7],4,[[5,6,7]]),([],8,[[],[]]),([9,10,11,12],13,[[11],[],[]])] [14] hQe fun K E hK hE=>?_)|((with_reducible refine W_cond (fun h=>?_) (fun h=>?_))<;>(try(exfalso;assumption)))|(((with_reducible first|refine G_region fun K E hK hE=>?_|refine call_ret can39 (wq) ?_|refine P_heads fun Kh hKh=>?_|refine P_fin fun Kh hKh=>?_|refine P_each fun Kb hKb=>?_))<;>(try simp(disch:=omega) only[go_sem,seval, *]))))
  refine call_ex can40 wa (fun a h=>?_)
  obtain⟨u2,K2,ns2⟩:=a
  obtain⟨hF,hKp⟩:=h
  have l3:=(hKp.out b3 (by rw[j3];simp) (HO1.out.types j3 (by decide) (by decide) (by decide))).trans j3
  have l4:=(hKp.out b4 (by rw[j4];simp) (HO1.out.types j4 (by decide) (by decide) (by decide))).trans j4
  dsimp only at l3 l4 ⊢
  have HF:Hid (OpF s KK n B ns (N+(i+1) * R) f (u2.set b3 (.obj 30 [.lst X oA,.lst V o2,.int .i64 (kf:Int)]),K2,ns2)):=Lib.hid (by rw[St.set_self _ _ _ l3,Nat.add_mul,Nat.one_mul,← Nat.add_assoc];exact hF)
  clear hF hKp wa wq hx1 j3 j4
  simp only[go_sem,seval]
  (repeat'(first|refine Ctl ?_|(with_reducible first|(refine Kof.use hK ?_;clear hK hE K E)|(refine Kof.use hKh ?_;clear hKh Kh)|(refine Kof.use hKb (P_next ?_);clear hKb Kb))|((with_reducible refine W_cond (fun h=>?_) (fun h=>?_))<;>(try(exfalso;assumption)))|(((with_reducible first|refine G_region fun K E hK hE=>?_|refine P_heads fun Kh hKh=>?_|refine P_fin fun Kh hKh=>?_|refine P_each fun Kb hKb=>?_))<;>(try simp(disch:=omega) only[go_sem,seval, *]))))
  all_goals exact⟨fu - 1,by omega,i+1,K2,ns2,by omega,by omega,HF,St.set_same _ _ _,(St.set_other _ _ n34).trans l4,z_sl,z_sl,z_sl,z_sl,z_sl,z_sl⟩
 ·have hin:i=D.length:=by omega
  have h1:=HI.out
  rw[hin]at h1
  have HF:=Lib.hid fun c=>h1.set (x:=c) (HI.out.m.types k4 (by decide) (by decide) (by decide)) HB4.out
  clear h1
  (repeat'(first|refine Ctl ?_|((with_reducible refine Kof.use hK ?_);clear hK hE K E)|((with_reducible refine W_cond (fun h=>?_) (fun h=>?_))<;>(try(exfalso;omega)))|(((with_reducible refine G_region fun K E hK hE=>?_))<;>(try simp(disch:=omega) only[go_sem,seval, *]))))
  all_goals(refine W_ret res35 hQ ?_)
  all_goals exact⟨_,_,Wk.refl _,Fg.refl _,(_,K',ns'),rfl,rfl,HF.out _⟩
end Go.Proofs.YtohnaepcgnbaiaaGreatDoor
namespace Go.Proofs.YtohnaepcgnbaiaaGreatDoor
open Go.RowKit
attribute [-go_sem] p_and p_or p_shl p_shr p_andNot p_quo p_rem
abbrev RelA:=St×OB×Nat×List Tr
structure RelR (s:St) (K:OB) (x m q c n B:Nat) (ns:List Tr) (ds:List (List UInt8×Nat)) (o:List (List Nat)) (N':Nat) (g:(Nat→Bool)→Bool) (a:RelA):Prop where
 M:RMem a.1 a.2.1 x a.2.2.1 q c n B a.2.2.2 ds o
 pre:∃l,a.2.2.2=ns++l
 mem:treeT n g∈a.2.2.2
 cnt:CntN a.2.2.2 N'
 k:RKeep s a.1 K a.2.1 x m a.2.2.1
section
variable {s u : St} {K K' : OB} {x m m' q c n B N N2 : Nat} {ns ns' : List Tr} {ds : List (List UInt8 × Nat)} {o : List (List Nat)} {f g : (Nat → Bool) → Bool}
theorem RelR.op {a:IteA}(hM:RMem s K x m q c n B ns ds o)(h:OpF s K n B ns N f a):RelR s K x m q c n B ns ds o N f (a.1,a.2.1,m,a.2.2):=
 ⟨hM.op h.m h.pre h.k,h.pre,h.mem,h.cnt,hM.kp h.k⟩
theorem RelR.win (hM:RMem u K x m' q c n B ns ds o)(hk:RKeep s u K K x m m')(mf:treeT n f∈ns)(hc:CntN ns N):RelR s K x m q c n B ns ds o N f (u,K,m',ns):=
 ⟨hM,⟨[],by simp⟩,mf,hc,hk⟩
theorem RelR.then {a b:RelA}(h:RelR s K x m q c n B ns ds o N f a)(k:RelR a.1 a.2.1 x a.2.2.1 q c n B a.2.2.2 ds o N2 g b):RelR s K x m q c n B ns ds o N2 g b:=by
 obtain⟨l1,e1⟩:=h.pre
 obtain⟨l2,e2⟩:=k.pre
 exact⟨k.M,⟨l1++l2,by rw[e2,e1,List.append_assoc]⟩,k.mem,k.cnt,h.k.trans k.k⟩
theorem RelR.also {a:RelA}(h:RelR s K x m q c n B ns ds o N g a)(hf:treeT n f∈ns):RelR s K x m q c n B ns ds o N f a∧ixF n a.2.2.2 f=ixF n ns f:=
 ⟨⟨h.M,h.pre,(sub_of h.pre hf).1,h.cnt,h.k⟩,(sub_of h.pre hf).2⟩
theorem RelR.mono {a:RelA}(h:RelR s K x m q c n B ns ds o N f a)(hN:N≤N2):RelR s K x m q c n B ns ds o N2 f a:=⟨h.M,h.pre,h.mem,h.cnt.mono hN,h.k⟩
theorem RelR.new {a:RelA}{u':St}(h:RelR s K x m q c n B ns ds o N f a)(hu:∀z,a.1 z≠.free→u' z=a.1 z):RelR s K x m q c n B ns ds o N f (u',a.2):=
 ⟨h.M.more hu,h.pre,h.mem,h.cnt,⟨h.k.p,h.k.q,h.k.o,h.k.nw,fun z hz hn=>by
  have e:=h.k.out z hz hn
  show u' z=s z
  rw[hu z (by rw[e];exact hz),e]⟩⟩
theorem RelR.own {a:RelA}{b:Nat}{T:TypeId}{xs:List VV}(h:RelR s K x m q c n B ns ds o N f a)(hM:RMem s K x m q c n B ns ds o)(hb:s b=.obj T xs)(h1:T≠107)(h2:T≠161)(h3:T≠123)(h4:T≠73):a.1 b=.obj T xs:=by
 refine(h.k.out b (by rw[hb];simp) ?_).trans hb
 rintro(e|e|e)
 ·exact hM.C.om.types hb h1 h2 h3 e
 ·obtain⟨y,hy⟩:=hM.xf
  rw[e,hy]at hb
  injection hb with hb
  exact h4 hb.symm
 ·rcases hM.sp with ⟨e1,hy⟩|⟨me,_,hy,_⟩
  ·rw[e,e1,hy]at hb
   injection hb with hb
   exact h4 hb.symm
  ·rw[e,hy]at hb;cases hb
end
structure Rel4 (ds:List (List UInt8×Nat)) (o:List (List Nat)) (A:List (List UInt8)) (D:List Nat):Prop where
 nm:NamesOk A
 ln:A.length=D.length
 nd:D.Nodup
 d4:Dom4 ds o D
theorem Rel4.l8 {ds:List (List UInt8×Nat)}{o:List (List Nat)}{A:List (List UInt8)}{D:List Nat}(h:Rel4 ds o A D):D.length≤8:=by rw[← h.ln];exact h.nm.2.2
theorem Rel4.ok {n:Nat}{ns:List Tr}{ds:List (List UInt8×Nat)}{o:List (List Nat)}{A:List (List UInt8)}{D:List Nat}(hD:DOk n ds o)(h:Rel4 ds o A D){f:(Nat→Bool)→Bool}(hf:DepF (varsOf o D) f)(mf:treeT n f∈ns):RelOk ns ds o ⟨A,D,treeT n f⟩:=
 ⟨h.nm,h.ln,h.nd,h.d4.lt,mf,treeT_inV (varsOf_lt hD h.d4.lt) hf⟩
set_option maxHeartbeats 8000000 in
theorem RTuples_S {s:St}{KK:OB}{x m q c n B N:Nat}{ns:List Tr}{ds:List (List UInt8×Nat)}{o:List (List Nat)}(hn64:n≤64)(hM:RMem s KK x m q c n B ns ds o)(hD:DOk n ds o){f:(Nat→Bool)→Bool}(A:List (List UInt8))(o1:Own)(D:List Nat)(o2:Own)(hR:Rel4 ds o A D)(hf:DepF (varsOf o D) f)(mf:treeT n f∈ns)
  (hc:CntN ns N) (hB:N+D.length * (20+2 ^ (2 * D.length))≤B) {most:Nat} (hmo:most≤16384) {rows:List (List Int)} (hr:sortR (tupR (treeT n f) o D)=rows) (hrl:rows.length≤most) :
  SCalls Tryz.prog 11 [.ptr x 0,.agg [.lst (strs A) o1,.lst (natsL D) o2,.int .i64 (ixF n ns f:Nat)],.int .i64 most] s fun w u=>∃a:RelA,w=.ret (.tup [.lst (rwsC rows) .no,.int .i64 0])∧u=a.1∧RelR s KK x m q c n B ns ds o (N+D.length * (20+2 ^ (2 * D.length))) f a:=by
 have hl8:=hR.l8
 have hlen:(tupR (treeT n f) o D).length≤most:=by
  have e1:=((List.perm_ext_iff_of_nodup (sortR_rising (tupR (treeT n f) o D)).nodup (tupR_nodup _ _ _)).2 fun r=>sortR_mem).length_eq
  rw[← e1,hr]
  exact hrl
 have hvl:=hR.d4.vl
 have wm:=fun(u:St) (hu:∀z,s z≠.free→u z=s z)=>May_S hn64 (hM.more hu) hD [[.lst (strs A) o1,.lst (natsL D) o2,.int .i64 ((ixF n ns f:Nat):Int)]] .full (fun z hz=>by
  rw[List.mem_singleton]at hz
  exact⟨⟨A,D,treeT n f⟩,o1,o2,hz,hR.ok hD hf mf⟩) (by simp)
 have wc:=fun(u:St) (m':Nat) (h:RMem u KK x m' q c n B ns ds o)=>Clean_S h hD (strs A) o1 D o2 hR.d4 hl8 hf mf hc hB
 have wt:=fun(u:St) (K':OB) (ns':List Tr) (hC:CMem u K' q c n B ns' ds o) (hm:treeT n f∈ns')=>Ctuples_S hC hD (by omega) D o2 hR.d4.lt (by omega) hR.nd hm (occ_tree (varsOf_lt hD hR.d4.lt) hf) (by omega) hmo hlen
 rw[hr]at wt
 have WM:=Lib.hid wm
 have WC:=Lib.hid wc
 have WT:=Lib.hid wt
 have HM:=Lib.hid hM
 have HMF:=Lib.hid mf
 have HC:=Lib.hid hc
 clear wm wc wt hr hrl hlen hR hf mf hc hB hl8 hvl
 generalize rwsC rows=RW at *
 generalize hkf:ixF n ns f=kf at *
 have HKF:=Lib.hid hkf
 clear hkf
 generalize strs A=SA at *
 generalize hSV:natsL D=V at *
 clear hSV
 refine G_enter Tryz.func11 rfl Tryz.ntmps11 rfl fun Q hQ hQe=>?_
 (repeat'(first|refine Ctl ?_|((with_reducible refine Kof.use hK ?_);clear hK hE K E)|((first|(with_reducible refine G_region fun K E hK hE=>?_)|((with_reducible refine W_fresh (fun b hb=>?_))))<;>(try simp(disch:=omega) only[go_sem,seval, *]))))
 obtain⟨b4,hb4e⟩:∃z,z=b:=⟨_,rfl⟩
 subst hb4e
 obtain⟨u0,hu0⟩:∃u,u=s.set b4 (.obj 30 [.lst SA o1,.lst V o2,.int .i64 (kf:Int)]):=⟨_,rfl⟩
 rw[← hu0]
 have g0:∀z,s z≠.free→u0 z=s z:=fun z hz=>by rw[hu0,St.set_other _ _ (nef hb hz).1]
 have k0:u0 b4=.obj 30 [.lst SA o1,.lst V o2,.int .i64 (kf:Int)]:=by rw[hu0,St.set_same]
 have wm:=WM.out u0 g0
 have G0:=Lib.hid g0
 have HB4:Hid (s b4=.free):=Lib.hid hb
 clear hu0 hb g0 WM
 refine call_ex can29 wm (fun a h=>?_)
 obtain⟨u1,m1⟩:=a
 obtain⟨M1,K1⟩:=h
 dsimp only at M1 K1 ⊢
 have R1:=RelR.win M1 K1 HMF.out HC.out
 have k1:=R1.own (HM.out.more G0.out) k0 (by decide) (by decide) (by decide) (by decide)
 dsimp only at k1
 have wc:=WC.out u1 m1 M1
 have HM1:=Lib.hid M1
 have HR1:=Lib.hid R1
 clear wm M1 K1 R1 WC k0
 simp only[go_sem,seval]
 (repeat'(first|refine Ctl ?_|((with_reducible refine Kof.use hK ?_);clear hK hE K E)|((with_reducible refine W_cond (fun h=>?_) (fun h=>?_))<;>(try(exfalso;assumption)))|(((with_reducible refine G_region fun K E hK hE=>?_))<;>(try simp(disch:=omega) only[go_sem,seval, *]))))
 refine call_ex can35 wc (fun a h=>?_)
 obtain⟨u2,K2,ns2⟩:=a
 have k2:=(h.k.out b4 (by rw[k1];simp) (HM1.out.C.om.types k1 (by decide) (by decide) (by decide))).trans k1
 have R2:=(RelR.win (HM.out.more G0.out) (.new G0.out) HMF.out HC.out).then (HR1.out.then (RelR.op HM1.out h))
 have e:ixN ns2 (treeT n f)=kf:=(sub_of R2.pre HMF.out).2.trans HKF.out
 have wt:=WT.out u2 K2 ns2 R2.M.C R2.mem
 rw[e]at wt
 obtain⟨a2,hx2⟩:=R2.M.xf
 unfold spC at hx2
 dsimp only at k2 hx2 ⊢
 have HR2:=Lib.hid R2
 have nbx:¬ x=b4:=fun e=>by rw[e,k2]at hx2;injection hx2 with e1;exact absurd e1 (by decide)
 clear h wc WT R2 e k1
 generalize szC ds=SZ at *
 simp only[go_sem,seval,k2]
 (repeat'(first|refine Ctl ?_|(with_reducible first|(refine Kof.use hK ?_;clear hK hE K E)|(refine Kof.use hKh ?_;clear hKh Kh)|refine G_plan 6 [([0,1,2,3,4,5,6,7,8],9,[[]])] [10,11,12,13] hQe fun K E hK hE=>?_)|((with_reducible refine W_cond (fun h=>?_) (fun h=>?_))<;>(try(exfalso;assumption)))|(((with_reducible first|refine G_region fun K E hK hE=>?_|refine P_heads fun Kh hKh=>?_|refine P_each fun Kb hKb=>?_))<;>(try simp(disch:=omega) only[go_sem,seval, *]))))
 rw[St.set_self _ _ _ k2]
 (repeat'(first|refine Ctl ?_|(with_reducible first|(refine Kof.use hK ?_;clear hK hE K E)|(refine Kof.use hKh ?_;clear hKh Kh)|(refine Kof.use hKb (P_next ?_);clear hKb Kb))|(((with_reducible first|refine call_ret can36 (wt) ?_|refine P_fin fun Kh hKh=>?_))<;>(try simp(disch:=omega) only[go_sem,seval, *]))))
 all_goals(refine W_ret res11 hQ ?_)
 all_goals exact⟨_,_,Wk.refl _,Fg.refl _,(u2,K2,m1,ns2),rfl,rfl,HR2.out⟩
end Go.Proofs.YtohnaepcgnbaiaaGreatDoor
namespace Go.Proofs.YtohnaepcgnbaiaaGreatDoor
open Go.RowKit Go.Lib Go.Shelf
theorem str_info:(Tryz.prog.info? 9).map (fun i=>((i.zero.map fun z=>z.cells.size),i.size,i.bytes))=some (some 1,1,16):=by kernel_rfl
theorem cloneS_raw (b off n c:Nat)(news:List Value)(w:World)(hl:news.length=n * 1)(hn:n≤1000000)(hc:∀j u,news[j]?=some u→w.cell? ⟨b,off+j,none⟩=some u)(h1:∀u∈news,u.oneCell'=true) :
  Calls Tryz.prog 33 #[.slice (some ⟨b,off,none⟩) n c] w fun e w'=>∃v',e=.returned v'∧w'.ownsRow w.heap.size 9 1 v' n news∧v'≠.slice none 0 0∧Below w.heap.size w w':=by
 have hi:=str_info
 cases hi0:Tryz.prog.info? 9 with
 |none=>rw[hi0]at hi;cases hi
 |some i0=>
  rw[hi0]at hi
  simp only[Option.map_some,Option.some.injEq,Prod.mk.injEq]at hi
  obtain⟨a1,a2,a3⟩:=hi
  obtain⟨z,hz,hz2⟩:=Option.map_eq_some_iff.1 a1
  exact Tryz.slices_Clone_f33 i0 z 1 16 hi0 hz a2 a3 hz2 (by omega) Tryz.sizeOf9 b off n c news w hl (by unfold maxLen;omega) (by omega) hc h1
theorem CloneS_S (s:St)(l:List (List UInt8))(ow:Own)(hl:l.length≤1000000):SRet Tryz.prog 33 [.lst (strs l) ow] s (.lst (strs l) .no) s:=by
 intro w0 G w vs hS hA
 obtain⟨v,rfl,hr⟩:=RL_one hA
 by_cases hne:l=[]
 ·subst hne
  have key:∃(a:Option Addr) (cap:Nat),v=.slice a 0 cap:=by
   generalize hq:VV.lst (strs []) ow=q at hr
   cases hr with
   |emp a cap o ho=>exact⟨a,cap,rfl⟩
   |lst b off len cap sz xs o f hl hc hz h1 hK hR ho=>
    injection hq with hq1 hq2
    subst hq1
    simp[strs]at hl
    subst hl
    exact⟨_,_,rfl⟩
   |_=>cases hq
  obtain⟨a,cap,rfl⟩:=key
  cases a with
  |none=>
   refine(Tryz.slices_Clone_string_nil 0 cap w).mono ?_
   rintro e w' ⟨rfl,rfl⟩
   exact⟨G,s,.ret (.lst [] .no),Gh.le.refl G,hS,R.emp none 0 .no (.inl rfl),rfl,rfl⟩
  |some a=>
   refine(Tryz.slices_Clone_string_zero a cap w).mono ?_
   rintro e w' ⟨v',rfl,hown,_,hb⟩
   have hv:∃a' c',v'=.slice a' 0 c':=by
    rcases hown.2 with ⟨rfl,_⟩|⟨g,c2,cur,rfl,_⟩<;>exact⟨_,_,rfl⟩
   obtain⟨a',c',rfl⟩:=hv
   exact⟨G,s,.ret (.lst [] .no),Gh.le.refl G,hS.world hb,R.emp a' c' .no (.inl rfl),rfl,rfl⟩
 ·have hne2:strs l≠[]:=fun e=>hne (by cases l;rfl;cases e)
  have hx:∀x,x∈strs l→x.length=1:=fun x hx=>by obtain⟨y,_,rfl⟩:=List.mem_map.1 hx;rfl
  have hl2:(strs l).length≤1000000:=by rw[strs_ln];exact hl
  generalize strs l=xs at *
  generalize hq:VV.lst xs ow=q at hr
  cases hr with
  |emp a cap o ho=>
   injection hq with hq1 hq2
   exact absurd hq1 hne2
  |lst b off len cap sz xs' o f h1 h2 h3 h4 h5 h6 h7=>
   injection hq with hq1 hq2
   subst hq1 hq2
   have hsz:sz=1:=by
    obtain⟨x,r,rfl⟩:=List.exists_cons_of_ne_nil hne2
    rw[← h3 x (by simp),hx x (by simp)]
   subst hsz
   obtain⟨news,hnews⟩:∃news:List Value,news=(List.range len).map fun j=>f j 0:=⟨_,rfl⟩
   have hnl:news.length=len * 1:=by rw[hnews];simp
   have hna:∀j u,news[j]?=some u→j<len∧u=f j 0:=fun j u h=>by
    have hj:j<len:=by have:=(List.getElem?_eq_some_iff.1 h).1;omega
    refine⟨hj,?_⟩
    rw[hnews,List.getElem?_map,List.getElem?_range hj]at h
    injection h with h
    exact h.symm
   have hfo:∀j,j<len→(f j 0).oneCell'=true:=fun j hj=>by
    have h8:=List.getElem?_eq_getElem (show j<xs.length by omega)
    have hm:=List.getElem_mem (l:=xs) (n:=j) (by omega)
    have h9:=List.getElem?_eq_getElem (show 0<xs[j].length by rw[hx _ hm];omega)
    rw[(h6 _ _ _ _ h8 h9).one]
    exact h4 _ hm _ (List.getElem_mem _)
   refine(cloneS_raw b off len cap news w hnl (by omega) (fun j u h=>?_) (fun u h=>?_)).mono ?_
   ·obtain⟨hj,rfl⟩:=hna j u h
    have:=hS.K _ _ _ (h5 j 0 (by omega) (by omega))
    rw[show j * 1+0=j by omega]at this
    exact this
   ·obtain⟨j,hj⟩:=List.mem_iff_getElem?.1 h
    obtain⟨hj2,rfl⟩:=hna j u hj
    exact hfo j hj2
   ·rintro e w' ⟨v',rfl,hown,_,hb⟩
    rcases hown.2 with ⟨_,h0⟩|⟨g,c2,cur,rfl,hge,hh,hcap,hm,hcs,hcur⟩
    ·exact absurd (List.eq_nil_of_length_eq_zero (h1.trans h0)) hne2
    ·obtain⟨G',k1,k2,k3⟩:=hS.know hb g hge (fun i=>if i<len * 1 then cur[i]? else none) fun i v hv=>by
      split at hv
      ·simp only[World.cell?,hh];exact hv
      ·cases hv
     refine⟨G',s,.ret (.lst xs .no),k1,k2,?_,rfl,rfl⟩
     refine .lst g 0 len c2 1 xs .no f h1 hcap h3 h4 (fun i j hi hj=>?_) (fun i j x y hx hy=>(h6 i j x y hx hy).mono k1) (.inl rfl)
     refine k3 _ _ ?_
     rw[Nat.zero_add,if_pos (by omega)]
     have hj0:j=0:=by omega
     subst hj0
     have hi2:(cur.toList.take (len * 1))[i]?=some (f i 0):=by
      rw[hcur,hnews,List.getElem?_map,List.getElem?_range (by omega)];rfl
     rw[List.getElem?_take_of_lt (by omega),Array.getElem?_toList]at hi2
     rw[show i * 1+0=i by omega]
     exact hi2
  |_=>cases hq
theorem CloneN_S (s:St)(l:List Nat)(ow:Own)(hl:l.length≤1000000):SRet Tryz.prog 34 [.lst (natsL l) ow] s (.lst (natsL l) .no) s:=by
 have h:=Clone_S (l.map fun(k:Nat)=>(k:Int)) ow s (by rw[List.length_map];omega)
 rw[← natsL_ints]at h
 unfold rowV at h
 rw[← natsL_ints]at h
 exact h
end Go.Proofs.YtohnaepcgnbaiaaGreatDoor
namespace Go.Proofs.YtohnaepcgnbaiaaGreatDoor
open Go.RowKit Go.Lib Go.Shelf
section
variable {w0 w w' : World} {G : Gh} {s : St} {g n cap : Nat} {cur : Array Value} {T : TypeId}
theorem Sim.at_free (h:Sim w0 G w s)(hge:w.heap.size≤g):s g=.free:=by
 by_cases e:s g=.free
 ·exact e
 ·exact absurd (h.lt e) (by omega)
theorem Sim.knowR (h:Sim w0 G w s)(hb:Below w.heap.size w w')(hge:w.heap.size≤g)(hh:w'.heap[g]?=some (.cells cur T (0,0)))(hm:cap≤maxLen)(hs:cur.size=cap * 1){ys:List VV}(hl:ys.length≤cap)(hy:∀(i:Nat) (y:VV),ys[i]?=some y→y.one=true∧∃v,cur[i]?=some v∧R G v y) :
  ∃G',G.le G'∧Sim w0 G' w' (s.set g (.row T 1 ys))∧G'.cap g=some (cap,1):=by
 have hK0:∀i,G.K g i=none:=fun i=>by
  cases hk:G.K g i with
  |none=>rfl
  |some v=>exact absurd (h.K_lt hk) (by omega)
 have hc0:G.cap g=none:=by
  cases hk:G.cap g with
  |none=>rfl
  |some v=>exact absurd (h.cap _ _ hk) (by omega)
 have hle:G.le ⟨G.K,fun b'=>if b'=g then some (cap,1)else G.cap b'⟩:=⟨fun b' i v hv=>hv,fun b' c hv=>by
  by_cases e:b'=g
  ·subst e;rw[hc0]at hv;cases hv
  ·simp only[if_neg e];exact hv⟩
 have h1:=h.world hb
 have hgl:g<w'.heap.size:=(Array.getElem?_eq_some_iff.1 hh).1
 refine⟨_,hle,⟨h1.below,fun b' i v hv=>h1.K b' i v hv,fun b' c hv=>?_,fun b'=>?_,h.gl,?_⟩,by simp⟩
 ·by_cases e:b'=g
  ·subst e;exact hgl
  ·simp only[if_neg e]at hv
   exact h1.cap b' c hv
 ·by_cases e:b'=g
  ·subst e
   rw[St.set_same]
   exact⟨Nat.le_trans h.size_le hge,hK0,cur,cap,hh,by simp,hs,by omega,hm,fun i y hi=>let ⟨a,v,b,c⟩:=hy i y hi;⟨a,v,b,c.mono hle⟩⟩
  ·rw[St.set_other _ _ e]
   exact(h1.ok b').keep rfl hle fun i=>rfl
 ·exact h.rows.keep' hle hb.size (fun g' hl hg'=>⟨by rw[St.set_other _ _ (by omega)];exact hg',hb.block g' hl,fun i=>rfl⟩) fun x T xs rs hx=>by
   by_cases e:x=g
   ·subst e;rw[St.set_same]at hx;cases hx
   ·rw[St.set_other _ _ e]at hx
    exact⟨hx,hb.block x (h.lt (by rw[hx];simp))⟩
end
theorem CloneNM_S (s:St)(l:List Nat)(ow:Own)(hne:l≠[])(hl:l.length≤1000000) :
  SCalls Tryz.prog 34 [.lst (natsL l) ow] s fun w u=>∃a:St×Nat,w=.ret (.mrw a.2 l.length)∧u=a.1∧s a.2=.free∧a.1=s.set a.2 (.row 3 1 (l.map fun(k:Nat)=>.int .i64 (k:Int))):=by
 obtain⟨r,hr⟩:∃r,r=l.map fun(k:Nat)=>(k:Int):=⟨_,rfl⟩
 have hrl:r.length=l.length:=by rw[hr,List.length_map]
 rw[natsL_ints,← hr]
 intro w0 G w vs hS hA
 obtain⟨v,rfl,hrr⟩:=RL_one hA
 obtain⟨ba,b,off,c,rfl,g1,k1⟩:=row_read hrr
 rcases g1 with h0|rfl
 ·exact absurd (List.eq_nil_of_length_eq_zero (hrl.symm.trans h0)) hne
 ·refine(Tryz.slices_Clone_int b off r.length c r w (Nat.le_refl _) (by omega) fun j hj=>hS.K _ _ _ (k1 j _ (by rw[List.getElem?_eq_getElem hj,List.getD_eq_getElem?_getD,List.getElem?_eq_getElem hj];rfl))).mono ?_
  rintro e w' ⟨v',rfl,ho,_,hb⟩
  rw[List.take_length]at ho
  rcases ho.2 with ⟨_,h0⟩|⟨g,cap,cur,rfl,hge,hh,hcap,hm,hcs,hcur⟩
  ·exact absurd (List.eq_nil_of_length_eq_zero (hrl.symm.trans h0)) hne
  ·have hys:∀(i:Nat) (y:VV),(l.map fun(k:Nat)=>VV.int .i64 (k:Int))[i]?=some y→y.one=true∧∃v,cur[i]?=some v∧R G v y:=fun i y hy=>by
    rw[List.getElem?_map]at hy
    obtain⟨k,hk,rfl⟩:=Option.map_eq_some_iff.1 hy
    have hi:i<l.length:=(List.getElem?_eq_some_iff.1 hk).1
    refine⟨rfl,.int .i64 (k:Int),?_,.int _ _⟩
    have h4:(cur.toList.take (r.length * 1))[i]?=some (.int .i64 (k:Int)):=by
     rw[hcur,hr,List.map_map,List.getElem?_map,hk];rfl
    rw[List.getElem?_take_of_lt (by omega),Array.getElem?_toList]at h4
    exact h4
   obtain⟨G',a1,a2,a3⟩:=hS.knowR hb hge hh hm hcs (ys:=l.map fun(k:Nat)=>VV.int .i64 (k:Int)) (by rw[List.length_map];omega) hys
   refine⟨G',_,.ret (.mrw g l.length),a1,a2,?_,(_,g),rfl,rfl,hS.at_free hge,rfl⟩
   rw[hrl]
   exact .mrw g l.length cap 1 a3 (by omega)
end Go.Proofs.YtohnaepcgnbaiaaGreatDoor
namespace Go.Proofs.YtohnaepcgnbaiaaGreatDoor
open Go.RowKit
section
variable {G : Gh} {v : Value} {g n : Nat} {xs : List VV} {a c r : VV}
theorem R.frz2 (hn:xs.length=n)(hK:∀(i:Nat) (y:VV),xs[i]?=some y→y.one=true∧∃v,G.K g i=some v∧R G v y)(hr:R G v (.tup [.agg [a,.mrw g n,c],r])):R G v (.tup [.agg [a,.lst (xs.map fun y=>[y]) .no,c],r]):=by
 generalize hq:VV.tup [.agg [a,.mrw g n,c],r]=q at hr
 cases hr with
 |tup vs ys hs hR=>
  injection hq with hq
  subst hq
  refine .tup vs _ hs fun j v y hv hy=>?_
  match j with
  |0=>
   have hy:VV.agg [a,.lst (xs.map fun y=>[y]) .no,c]=y:=by simpa using hy
   subst hy
   have h0:=hR 0 v _ hv rfl
   generalize hq2:VV.agg [a,.mrw g n,c]=q2 at h0
   cases h0 with
   |agg us zs hs2 h1 hR2=>
    injection hq2 with hq2
    subst hq2
    refine .agg us _ hs2 (fun y hy=>?_) fun k w y hw hy=>?_
    ·simp only[List.mem_cons,List.not_mem_nil,or_false]at hy
     rcases hy with rfl|rfl|rfl
     ·exact h1 _ (by simp)
     ·rfl
     ·exact h1 _ (by simp)
    ·match k with
     |0=>exact hR2 0 w y hw hy
     |1=>
      have hy:VV.lst (xs.map fun y=>[y]) .no=y:=by simpa using hy
      subst hy
      exact R.frz hn hK (hR2 1 w _ hw rfl)
     |2=>exact hR2 2 w y hw hy
     |k+3=>simp at hy
   |_=>cases hq2
  |1=>exact hR 1 v y hv hy
  |j+2=>simp at hy
 |_=>cases hq
end
theorem SCalls.frz2 {P:Program}{s:St}{f:FuncId}{xs:List VV}{Q:SEnd→St→Prop}
  (h:SCalls P f xs s fun e t=>∃(a c r:VV) (g n:Nat) (T:TypeId) (ys:List VV),e=.ret (.tup [.agg [a,.mrw g n,c],r])∧t g=.row T 1 ys∧ys.length=n∧Q (.ret (.tup [.agg [a,.lst (ys.map fun y=>[y]) .no,c],r])) (t.set g .free)):SCalls P f xs s Q:=by
 intro w0 G w vs hS hR
 refine(h w0 G w vs hS hR).mono ?_
 rintro e w' ⟨G',s',x,hG,hS',hE,a,c,r,g,n,T,ys,rfl,hg,hn,hq⟩
 obtain⟨G2,hle,hS2,hK,_⟩:=hS'.frzR hg
 refine⟨G2,_,_,hG.trans hle,hS2,?_,hq⟩
 cases e with
 |returned v=>exact R.frz2 hn hK (R.mono hle hE)
 |_=>exact hE
attribute [-go_sem] p_and p_or p_shl p_shr p_andNot p_quo p_rem
section
variable {s u : St} {K K' : OB} {x m m' q c n B N N2 b : Nat} {ns ns' : List Tr} {ds : List (List UInt8 × Nat)} {o : List (List Nat)} {f g : (Nat → Bool) → Bool} {xs : List VV} {y : Cell}
theorem RMem.rel (h:RMem u K x m q c n B ns ds o)(hb:u b=.obj 30 xs):¬ RHas K x m b∧b≠q∧b≠c:=by
 refine⟨?_,(fun e=>by have:=h.C.qo;rw[← e,hb]at this;cases this),(fun e=>by have:=h.C.co;rw[← e,hb]at this;cases this)⟩
 rintro(e|e|e)
 ·exact h.C.om.types hb (by decide) (by decide) (by decide) e
 ·obtain⟨y,hy⟩:=h.xf
  rw[e,hy]at hb;cases hb
 ·rcases h.sp with ⟨e1,hy⟩|⟨me,_,hy,_⟩
  ·rw[e,e1,hy]at hb;cases hb
  ·rw[e,hy]at hb;cases hb
theorem RMem.set (h:RMem u K x m q c n B ns ds o)(hb:u b=.obj 30 xs):RMem (u.set b y) K x m q c n B ns ds o:=by
 obtain⟨h1,h2,h3⟩:=h.rel hb
 have k:∀z,RHas K x m z→(u.set b y) z=u z:=fun z hz=>St.set_other _ _ fun e=>h1 (e ▸ hz)
 refine⟨⟨h.C.om.keep fun z hz=>k z (.inl hz),(St.set_other _ _ fun e=>h2 e.symm).trans h.C.qo,(St.set_other _ _ fun e=>h3 e.symm).trans h.C.co⟩,?_⟩
 rcases h.sp with ⟨e,e1⟩|⟨me,e1,e2,e3⟩
 ·exact .inl ⟨e,(k x (.inr (.inl rfl))).trans e1⟩
 ·exact .inr ⟨me,(k x (.inr (.inl rfl))).trans e1,(k m (.inr (.inr rfl))).trans e2,e3⟩
theorem RelR.set (h:RelR s K x m q c n B ns ds o N f (u,K',m',ns'))(hb:u b=.obj 30 xs)(hs:s b=.free):RelR s K x m q c n B ns ds o N f (u.set b y,K',m',ns'):=
 ⟨h.M.set hb,h.pre,h.mem,h.cnt,⟨h.k.p,h.k.q,h.k.o,h.k.nw,fun z hz hn=>(St.set_other _ _ fun e=>hz (by rw[e];exact hs)).trans (h.k.out z hz hn)⟩⟩
end
set_option maxHeartbeats 8000000 in
theorem RMake_S {s:St}{KK:OB}{x m q c n B N:Nat}{ns:List Tr}{ds:List (List UInt8×Nat)}{o:List (List Nat)}(hn64:n≤64)(hM:RMem s KK x m q c n B ns ds o)(hD:DOk n ds o)(A:List (List UInt8))(o1:Own)(D:List Nat)(o2:Own)(hR:Rel4 ds o A D)(T:List (List Nat))(TC:List (List VV))(o3:Own)
  (hT:∀t,t∈T→t.length=D.length∧∀v,v∈t→v<4) (hTC:∀(i:Nat) (t:List Nat),T[i]?=some t→∃oi,TC[i]?=some [.lst (natsL t) oi]) (hTl:TC.length=T.length) (hT8:T.length≤1000000)
  (hc:CntN ns N) (hB:N+T.length * (2 * D.length+2 ^ (2 * D.length))≤B) :
  SCalls Tryz.prog 19 [.ptr x 0,.lst (strs A) o1,.lst (natsL D) o2,.lst TC o3] s fun w u=>∃a:RelA,w=.ret (.tup [.agg [.lst (strs A) .no,.lst (natsL D) .no,.int .i64 (ixF n a.2.2.2 (orK o D T):Nat)],.int .i64 0])∧u=a.1∧RelR s KK x m q c n B ns ds o (N+T.length * (2 * D.length+2 ^ (2 * D.length))) (orK o D T) a:=by
 obtain⟨R,hRe⟩:∃R,R=2 * D.length+2 ^ (2 * D.length):=⟨_,rfl⟩
 rw[← hRe]at hB ⊢
 have hl8:=hR.l8
 have hvl:=hR.d4.vl
 have hlt:=hR.d4.lt
 have hvn:=varsOf_lt hD hlt
 have hor0:orK o D []=fun _=>false:=by funext y;simp[orK]
 have hdep:∀i,DepF (varsOf o D) (orK o D (T.take i)):=fun i=>(orK_tells fun t ht=>(hT t (List.take_subset _ _ ht)).1).dep
 have c0:=hM.C.om.c0.1
 have wcs:=fun u=>CloneS_S u A o1 (by have:=hR.ln;omega)
 have wcn:=fun u=>CloneN_S u D o2 (by omega)
 have wm:=fun(u:St) (hu:∀z,s z≠.free→u z=s z)=>May_S hn64 (hM.more hu) hD [[.lst (strs A) .no,.lst (natsL D) .no,.int .i64 0]] .full (fun z hz=>by
  rw[List.mem_singleton]at hz
  refine⟨⟨A,D,treeT n fun _=>false⟩,.no,.no,?_,hR.ok hD (fun _ _ _=>rfl) c0.1⟩
  have e0:((ixN ns (treeT n fun _=>false):Nat):Int)=0:=by
   have:=c0.2
   unfold ixF at this
   rw[this];rfl
  rw[hz,relC]
  dsimp only
  rw[e0]) (by simp)
 have wtu:=fun(u:St) (K':OB) (ns':List Tr) (N':Nat) (t:List Nat) (oi:Own) (ht:t∈T) (hC:CMem u K' q c n B ns' ds o) (hc':CntN ns' N') (hB':N'+2 * D.length≤B)=>show OpFC 52 [.ptr c 0,.lst (natsL D) o2,.lst (natsL t) oi] u K' n B ns' (N'+2 * D.length) (tupF o D t) from by
  have w:=Ctuple_S hC hD D t o2 oi hlt (by omega) hR.nd (hT t ht).1 (fun i k v y h1 h2 h3=>by
   obtain⟨nm,e⟩:=(hR.d4 k (List.mem_of_getElem? h1)).1
   rw[e]at h3
   injection h3 with h3
   rw[← h3]
   exact(hT t ht).2 v (List.mem_of_getElem? h2)) hc' (by rw[hvl];exact hB')
  rw[hvl]at w
  exact w
 have wor:=fun(u:St) (K':OB) (ns':List Tr) (N' i:Nat) (t:List Nat) (ht:T[i]?=some t) (hO:OMem u K' n B ns') (m1:treeT n (orK o D (T.take i))∈ns') (m2:treeT n (tupF o D t)∈ns') (hc':CntN ns' N') (hB':N'+2 ^ (2 * D.length)≤B)=>
  show OpFC 49 [.ptr K'.o 0,.int .i64 (ixF n ns' (orK o D (T.take i)):Nat),.int .i64 (ixF n ns' (tupF o D t):Nat)] u K' n B ns' (N'+2 ^ (2 * D.length)) (orK o D (T.take (i+1))) from by
  have e:(fun y=>orK o D (T.take i) y || tupF o D t y)=orK o D (T.take (i+1)):=by rw[orK_add,List.take_add_one,ht];rfl
  have w:=OOr_F hO ((hdep i).hang hvn) ((tupF_dep o).hang hvn) m1 m2 hc' (by rw[e];exact(subN_tree hvn (hdep (i+1)) (by rw[hvl];exact Nat.le_refl _)).mono (Nat.sub_le _ _)) hB'
  rw[e]at w
  exact w
 have hI0:∀(u:St) (m':Nat),RMem u KK x m' q c n B ns ds o→RKeep s u KK KK x m m'→RelR s KK x m q c n B ns ds o (N+0 * R) (orK o D (T.take 0)) (u,KK,m',ns):=fun u m' h1 h2=>by
  rw[List.take_zero,hor0]
  exact .win h1 h2 c0.1 (by simpa using hc)
 have hk0:ixF n ns (orK o D (T.take 0))=0:=by rw[List.take_zero,hor0];exact c0.2
 have WM:=Lib.hid wm
 have WTU:=Lib.hid wtu
 have WOR:=Lib.hid wor
 have HI0:=Lib.hid hI0
 have HTC:=Lib.hid hTC
 have HM:=Lib.hid hM
 have HC:=Lib.hid hc
 have HRE:=Lib.hid hRe
 have WCS:=Lib.hid wcs
 have WCN:=Lib.hid wcn
 clear wm wtu wor hI0 hTC hM hdep hor0 c0 hR hT hvl hvn hlt hc wcs wcn
 generalize strs A=SA at *
 generalize hSV:natsL D=V at *
 have HSV:=Lib.hid hSV
 clear hSV
 refine G_enter Tryz.func19 rfl Tryz.ntmps19 rfl fun Q hQ hQe=>?_
 (repeat'(first|refine Ctl ?_|((with_reducible refine Kof.use hK ?_);clear hK hE K E)|((first|(with_reducible first|refine G_region fun K E hK hE=>?_|refine call_ret can33 (WCS.out _) ?_|refine call_ret can34 (WCN.out _) ?_)|((with_reducible refine W_fresh (fun b hb=>?_));(repeat(obtain⟨_,hb⟩:=hb))))<;>(try simp(disch:=omega) only[go_sem,seval, *]))))
 rename_i b8 hb8 nba nab
 obtain⟨b0,hb0e⟩:∃z,z=b:=⟨_,rfl⟩
 subst hb0e
 have hb0:s b0=.free:=hb
 obtain⟨u0,hu0⟩:∃u,u=(s.set b8 (.obj 30 [.lst [] .full,.lst [] .full,.int .i64 0])).set b0 (.obj 30 [.lst SA .no,.lst V .no,.int .i64 0]):=⟨_,rfl⟩
 rw[← hu0]
 have g0:∀z,s z≠.free→u0 z=s z:=fun z hz=>by rw[hu0,St.set_other _ _ (nef hb0 hz).1,St.set_other _ _ (nef hb8 hz).1]
 have k0:u0 b0=.obj 30 [.lst SA .no,.lst V .no,.int .i64 0]:=by rw[hu0,St.set_same]
 have k8:u0 b8=.obj 30 [.lst [] .full,.lst [] .full,.int .i64 0]:=by rw[hu0,St.set_other _ _ (by assumption),St.set_same]
 have wm:=WM.out u0 g0
 have G0:=Lib.hid g0
 have HB0:=Lib.hid (And.intro hb0 hb8)
 clear hu0 hb g0 WM hb0 hb8 WCS WCN
 refine call_ex can29 wm (fun a h=>?_)
 obtain⟨u1,m1⟩:=a
 obtain⟨M1,K1⟩:=h
 dsimp only at M1 K1 ⊢
 have R1:=HI0.out u1 m1 M1 ((RKeep.new G0.out).trans K1)
 have R1':=RelR.win (n:=n) (N:=N) (f:=fun _=>false) M1 K1 (HM.out.C.om.c0.1.1) HC.out
 have j0:=R1'.own (HM.out.more G0.out) k0 (by decide) (by decide) (by decide) (by decide)
 have j8:=R1'.own (HM.out.more G0.out) k8 (by decide) (by decide) (by decide) (by decide)
 dsimp only at j0 j8
 have HR1:=Lib.hid R1
 clear wm M1 K1 R1 R1' k0 k8 HI0 G0
 simp only[go_sem,seval]
 (repeat'(first|refine Ctl ?_|((with_reducible refine Kof.use hK ?_);clear hK hE K E)|((with_reducible refine W_cond (fun h=>?_) (fun h=>?_))<;>(try(exfalso;assumption)))|(((with_reducible refine G_region fun K E hK hE=>?_))<;>(try simp(disch:=omega) only[go_sem,seval,hTl, *]))))
 refine L_loop (fun fu env s'=>∃(i:Nat) (K':OB) (m':Nat) (ns':List Tr),i≤T.length∧fu+i=T.length∧Hid (RelR s KK x m q c n B ns ds o (N+i * R) (orK o D (T.take i)) (s',K',m',ns'))∧s' b0=.obj 30 [.lst SA .no,.lst V .no,.int .i64 ((ixF n ns' (orK o D (T.take i)):Nat):Int)]∧s' b8=.obj 30 [.lst [] .full,.lst [] .full,.int .i64 0]∧env 0=.ptr x 0∧env 2=.lst V o2∧env 8=.ptr b8 0∧env 10=.ptr b0 0∧env 26=.lst TC o3∧env 27=.int .i64 T.length∧env 28=.int .i64 i) T.length
  ⟨0,KK,m1,ns,by omega,by omega,HR1,by rw[hk0];exact j0,j8,z_sl,z_sl,z_sl,z_sl,z_sl,z_sl,z_sl⟩ ?_
 clear HR1 j0 j8 hk0
 rintro fu env s' ⟨i,K',m',ns',hi,hmi,HI,k0,k8,e0,e2,e8,e10,e26,e27,e28⟩
 by_cases h2:i<T.length
 ·obtain⟨t,ht⟩:∃t,T[i]?=some t:=⟨_,List.getElem?_eq_getElem h2⟩
  obtain⟨oi,hv⟩:=HTC.out _ _ ht
  have hN:N+i * R+R≤B:=by
   have:=Nat.mul_le_mul_right R (show i+1≤T.length by omega)
   rw[Nat.add_mul,Nat.one_mul]at this
   omega
  have hI:=HI.out
  have hRR:2 * D.length+2 ^ (2 * D.length)=R:=HRE.out.symm
  have hR2:2 * D.length≤R:=by rw[HRE.out];exact Nat.le_add_right _ _
  obtain⟨a1,hx⟩:=hI.M.xf
  unfold spC at hx
  have wt:=WTU.out s' K' ns' _ t oi (List.mem_of_getElem? ht) hI.M.C hI.cnt (by omega)
  have HN:=Lib.hid hN
  have HTT:=Lib.hid ht
  have HRR:=Lib.hid hRR
  unfold OpFC at wt
  dsimp only at hx
  clear hN hI hRR ht
  generalize szC ds=SZ at *
  (repeat'(first|refine Ctl ?_|((with_reducible refine Kof.use hK ?_);clear hK hE K E)|((with_reducible refine W_cond (fun h=>?_) (fun h=>?_))<;>(try(exfalso;assumption)))|(((with_reducible refine G_region fun K E hK hE=>?_))<;>(try simp(disch:=omega) only[go_sem,seval,hv, *]))))
  refine call_ex can52 wt (fun a h=>?_)
  obtain⟨u1,K1,ns1⟩:=a
  have hR1:=HI.out.then (RelR.op HI.out.M h)
  have hsub:=sub_of h.pre HI.out.mem
  have j0:=(h.k.out b0 (by rw[k0];simp) (HI.out.M.C.om.types k0 (by decide) (by decide) (by decide))).trans k0
  have j8:=(h.k.out b8 (by rw[k8];simp) (HI.out.M.C.om.types k8 (by decide) (by decide) (by decide))).trans k8
  have wo:=WOR.out u1 K1 ns1 _ i t HTT.out hR1.M.C.om hsub.1 h.mem hR1.cnt (by have:=HN.out;have:=HRR.out;omega)
  have e1:ixF n ns1 (orK o D (T.take i))=ixF n ns' (orK o D (T.take i)):=hsub.2
  rw[e1]at wo
  have wq:=Qops_S u1 q K1.o K1.s.p hR1.M.C.qo
  obtain⟨a2,hx1⟩:=hR1.M.xf
  unfold spC at hx1
  have HR1:=Lib.hid hR1
  unfold OpFC at wo
  dsimp only at hx1 j0 j8 ⊢
  clear h hR1 hsub wt e1 k0 k8 hx
  generalize szC ds=SZ at *
  generalize ixF n ns' (orK o D (T.take i))=ki at *
  generalize ixF n ns1 (tupF o D t)=kt at *
  simp only[go_sem,seval]
  (repeat'(first|refine Ctl ?_|(with_reducible first|(refine Kof.use hK ?_;clear hK hE K E)|(refine Kof.use hKh ?_;clear hKh Kh)|(refine Kof.use hKb (P_next ?_);clear hKb Kb)|refine G_plan 9 [([0,1,2,3,5,6,7],4,[[5,6,7]]),([],8,[[],[]]),([9,10,11,12],13,[[11],[],[]])] [14] hQe fun K E hK hE=>?_)|((with_reducible refine W_cond (fun h=>?_) (fun h=>?_))<;>(try(exfalso;assumption)))|(((with_reducible first|refine G_region fun K E hK hE=>?_|refine call_ret can39 (wq) ?_|refine P_heads fun Kh hKh=>?_|refine P_each fun Kb hKb=>?_))<;>(try simp(disch:=omega) only[go_sem,seval, *]))))
  refine call_ex can49 wo (fun a h=>?_)
  obtain⟨u2,K2,ns2⟩:=a
  have hR3:=HR1.out.then (RelR.op HR1.out.M h)
  have l0:=(h.k.out b0 (by rw[j0];simp) (HR1.out.M.C.om.types j0 (by decide) (by decide) (by decide))).trans j0
  have l8:=(h.k.out b8 (by rw[j8];simp) (HR1.out.M.C.om.types j8 (by decide) (by decide) (by decide))).trans j8
  dsimp only at l0 l8 ⊢
  have HF:=Lib.hid fun y=>((hR3.set (y:=y) l0 HB0.out.1).mono (N2:=N+(i+1) * R) (by have:=HRR.out;rw[Nat.add_mul,Nat.one_mul];omega))
  have n80:b8≠b0:=by assumption
  clear h hR3 wo wq j0 j8 hx1
  generalize hkn:ixF n ns2 (orK o D (T.take (i+1)))=kn at *
  have HKN:=Lib.hid hkn
  clear hkn
  simp only[go_sem,seval,l0]
  (repeat'(first|refine Ctl ?_|(with_reducible first|(refine Kof.use hK ?_;clear hK hE K E)|(refine Kof.use hKh ?_;clear hKh Kh)|(refine Kof.use hKb (P_next ?_);clear hKb Kb))|((with_reducible refine W_cond (fun h=>?_) (fun h=>?_))<;>(try(exfalso;assumption)))|(((with_reducible first|refine G_region fun K E hK hE=>?_|refine P_heads fun Kh hKh=>?_|refine P_fin fun Kh hKh=>?_|refine P_each fun Kb hKb=>?_))<;>(try simp(disch:=omega) only[go_sem,seval, *]))))
  all_goals exact⟨fu - 1,by omega,i+1,K2,m',ns2,by omega,by omega,Lib.hid (HF.out _),by rw[HKN.out];exact St.set_same _ _ _,(St.set_other _ _ n80).trans l8,z_sl,z_sl,z_sl,z_sl,z_sl,z_sl,z_sl⟩
 ·have hin:i=T.length:=by omega
  have h1:=HI.out
  rw[hin,List.take_length]at h1 k0
  have HF:=Lib.hid fun y=>h1.set (y:=y) k8 HB0.out.2
  clear h1
  generalize hkn:ixF n ns' (orK o D T)=kn at *
  have HKN:=Lib.hid hkn
  clear hkn
  (repeat'(first|refine Ctl ?_|((with_reducible refine Kof.use hK ?_);clear hK hE K E)|((with_reducible refine W_cond (fun h=>?_) (fun h=>?_))<;>(try(exfalso;omega)))|(((with_reducible refine G_region fun K E hK hE=>?_))<;>(try simp(disch:=omega) only[go_sem,seval, *]))))
  all_goals(refine W_ret res19 hQ ?_)
  all_goals exact⟨_,_,Wk.refl _,Fg.refl _,(_,K',m',ns'),congrArg (fun z:Nat=>SEnd.ret (.tup [.agg [.lst SA .no,.lst V .no,.int .i64 (z:Int)],.int .i64 0])) HKN.out.symm,rfl,HF.out _⟩
end Go.Proofs.YtohnaepcgnbaiaaGreatDoor
namespace Go.Proofs.YtohnaepcgnbaiaaGreatDoor
open Go.RowKit Go.Lib Go.Shelf
theorem CloneSM_S (s:St)(l:List (List UInt8))(ow:Own)(hne:l≠[])(hl:l.length≤1000000) :
  SCalls Tryz.prog 33 [.lst (strs l) ow] s fun w u=>∃a:St×Nat,w=.ret (.mrw a.2 l.length)∧u=a.1∧s a.2=.free∧a.1=s.set a.2 (.row 9 1 (l.map fun x=>.str x)):=by
 intro w0 G w vs hS hA
 obtain⟨v,rfl,hr⟩:=RL_one hA
 have hne2:strs l≠[]:=fun e=>hne (by cases l;rfl;cases e)
 have hx:∀x,x∈strs l→x.length=1:=fun x hx=>by obtain⟨y,_,rfl⟩:=List.mem_map.1 hx;rfl
 have hl2:(strs l).length≤1000000:=by rw[strs_ln];exact hl
 have hll:(strs l).length=l.length:=strs_ln l
 have hys0:∀(i:Nat) (y:VV),(l.map fun x=>VV.str x)[i]?=some y→(strs l)[i]?=some [y]∧y.one=true:=fun i y hy=>by
  rw[List.getElem?_map]at hy
  obtain⟨k,hk,rfl⟩:=Option.map_eq_some_iff.1 hy
  exact⟨strs_at hk,rfl⟩
 generalize strs l=xs at *
 generalize hq:VV.lst xs ow=q at hr
 cases hr with
 |emp a cap o ho=>
  injection hq with hq1 hq2
  exact absurd hq1 hne2
 |lst b off len cap sz xs' o f h1 h2 h3 h4 h5 h6 h7=>
  injection hq with hq1 hq2
  subst hq1 hq2
  have hsz:sz=1:=by
   obtain⟨x,r,rfl⟩:=List.exists_cons_of_ne_nil hne2
   rw[← h3 x (by simp),hx x (by simp)]
  subst hsz
  obtain⟨news,hnews⟩:∃news:List Value,news=(List.range len).map fun j=>f j 0:=⟨_,rfl⟩
  have hnl:news.length=len * 1:=by rw[hnews];simp
  have hna:∀j u,news[j]?=some u→j<len∧u=f j 0:=fun j u h=>by
   have hj:j<len:=by have:=(List.getElem?_eq_some_iff.1 h).1;omega
   refine⟨hj,?_⟩
   rw[hnews,List.getElem?_map,List.getElem?_range hj]at h
   injection h with h
   exact h.symm
  have hfo:∀j,j<len→(f j 0).oneCell'=true:=fun j hj=>by
   have h8:=List.getElem?_eq_getElem (show j<xs.length by omega)
   have hm:=List.getElem_mem (l:=xs) (n:=j) (by omega)
   have h9:=List.getElem?_eq_getElem (show 0<xs[j].length by rw[hx _ hm];omega)
   rw[(h6 _ _ _ _ h8 h9).one]
   exact h4 _ hm _ (List.getElem_mem _)
  refine(cloneS_raw b off len cap news w hnl (by omega) (fun j u h=>?_) (fun u h=>?_)).mono ?_
  ·obtain⟨hj,rfl⟩:=hna j u h
   have:=hS.K _ _ _ (h5 j 0 (by omega) (by omega))
   rw[show j * 1+0=j by omega]at this
   exact this
  ·obtain⟨j,hj⟩:=List.mem_iff_getElem?.1 h
   obtain⟨hj2,rfl⟩:=hna j u hj
   exact hfo j hj2
  ·rintro e w' ⟨v',rfl,hown,_,hb⟩
   rcases hown.2 with ⟨_,h0⟩|⟨g,c2,cur,rfl,hge,hh,hcap,hm,hcs,hcur⟩
   ·exact absurd (List.eq_nil_of_length_eq_zero (h1.trans h0)) hne2
   ·have hys:∀(i:Nat) (y:VV),(l.map fun x=>VV.str x)[i]?=some y→y.one=true∧∃v,cur[i]?=some v∧R G v y:=fun i y hy=>by
     obtain⟨e1,e2⟩:=hys0 i y hy
     have hi:i<len:=by have:=(List.getElem?_eq_some_iff.1 e1).1;omega
     refine⟨e2,f i 0,?_,h6 i 0 _ _ e1 rfl⟩
     have hi2:(cur.toList.take (len * 1))[i]?=some (f i 0):=by
      rw[hcur,hnews,List.getElem?_map,List.getElem?_range (by omega)];rfl
     rw[List.getElem?_take_of_lt (by omega),Array.getElem?_toList]at hi2
     exact hi2
    obtain⟨G',a1,a2,a3⟩:=hS.knowR hb hge hh hm hcs (ys:=l.map fun x=>VV.str x) (by rw[List.length_map];omega) hys
    refine⟨G',_,.ret (.mrw g l.length),a1,a2,?_,(_,g),rfl,rfl,hS.at_free hge,rfl⟩
    rw[show len=l.length by omega]
    exact .mrw g l.length c2 1 a3 (by omega)
 |_=>cases hq
def freeG (T:List Nat)(sz:Nat):Nat→List (List UInt8×Nat)→Option Nat
 |_,[]=>none
 |j,d::l=>if d.2=sz∧j∉T then some j else freeG T sz (j+1) l
def TakenM (T:List Nat)(e:List (Int×Bool)):Prop:=∀k:Nat,(lkZ (k:Int) e).getD false=decide (k∈T)
theorem TakenM.nil:TakenM [] []:=fun k=>by simp[lkZ]
theorem TakenM.add {T:List Nat}{e:List (Int×Bool)}(h:TakenM T e)(d:Nat):TakenM (T++[d]) (ptZ (d:Int) true e):=fun k=>by
 rw[lkZ_pt]
 by_cases hk:k=d
 ·subst hk;simp
 ·rw[if_neg (by omega),h k]
  simp[hk]
theorem free_at {T:List Nat}{sz k:Nat}{ds:List (List UInt8×Nat)}{j:Nat}(h:freeG T sz j (ds.drop j)=some k)(hj:j≤ds.length) :
  j<ds.length∧∃d,ds[j]?=some d∧((d.2=sz∧j∉T∧k=j)∨(¬ (d.2=sz∧j∉T)∧freeG T sz (j+1) (ds.drop (j+1))=some k)):=by
 by_cases hlt:j<ds.length
 ·refine⟨hlt,_,List.getElem?_eq_getElem hlt,?_⟩
  rw[List.drop_eq_getElem_cons hlt,freeG]at h
  by_cases hc:ds[j].2=sz∧j∉T
  ·rw[if_pos hc]at h
   injection h with h
   exact .inl ⟨hc.1,hc.2,h.symm⟩
  ·rw[if_neg hc]at h
   exact .inr ⟨hc,h⟩
 ·rw[List.drop_eq_nil_of_le (by omega),freeG]at h
  cases h
set_option maxHeartbeats 4000000 in
theorem Free_S (s:St)(x c q bt:Nat)(a:VV)(ds:List (List UInt8×Nat))(hx:s x=.obj 73 (spC c q ds a))(hl:ds.length≤1000){T:List Nat}{e:List (Int×Bool)}(hT:TakenM T e)(hbt:s bt=.map (mpZ encB e))(sz k:Nat)(hk:freeG T sz 0 ds=some k) :
  SRet Tryz.prog 38 [.ptr x 0,.int .i64 (sz:Int),.mp bt] s (.tup [.int .i64 (k:Int),.bool true]) s:=by
 unfold spC at hx
 have hsl:(szC ds).length=ds.length:=by simp[szC]
 have hat:=fun(i:Nat) (d:List UInt8×Nat) (h:ds[i]?=some d)=>szC_at h
 have HAT:=Lib.hid hat
 have HT:=Lib.hid hT
 have HK0:freeG T sz 0 (ds.drop 0)=some k:=hk
 have HK:=Lib.hid HK0
 clear hat hT hk HK0
 generalize szC ds=SZ at *
 refine G_enter Tryz.func38 rfl Tryz.ntmps38 rfl fun Q hQ hQe=>?_
 (repeat'(first|refine Ctl ?_|((with_reducible refine Kof.use hK ?_);clear hK hE K E)|(((with_reducible refine G_region fun K E hK hE=>?_))<;>(try simp(disch:=omega) only[go_sem,seval,hsl, *]))))
 refine L_loop (fun f env s'=>∃(i:Nat),i≤ds.length∧f+i=ds.length∧Hid (freeG T sz i (ds.drop i)=some k)∧s'=s∧env 0=.ptr x 0∧env 1=.int .i64 (sz:Int)∧env 2=.mp bt∧env 13=.lst SZ .no∧env 14=.int .i64 ds.length∧env 15=.int .i64 i) ds.length
  ⟨0,by omega,by omega,HK,rfl,z_sl,z_sl,z_sl,z_sl,z_sl,z_sl⟩ ?_
 rintro f env s' ⟨i,hi,hfi,HI,rfl,e0,e1,e2,e13,e14,e15⟩
 obtain⟨hlt,d,hd,hcase⟩:=free_at HI.out hi
 have hx1:=HAT.out _ _ hd
 have hm:=HT.out i
 obtain⟨nm,dz⟩:=d
 dsimp only at hx1 hcase
 rcases hcase with ⟨h1,h2,h3⟩|⟨h1,h2⟩
 ·have c1:((dz:Int)=(sz:Int))=True:=by rw[h1];simp
  rw[decide_eq_false h2]at hm
  have HK3:=Lib.hid h3
  clear hd h1 h2 h3 HI
  (repeat'(first|refine Ctl ?_|((with_reducible refine Kof.use hK ?_);clear hK hE K E)|((with_reducible refine W_cond (fun h=>?_) (fun h=>?_))<;>(try(exfalso;assumption)))|(((with_reducible refine G_region fun K E hK hE=>?_))<;>(try simp(disch:=omega) only[go_sem,seval,hsl,hx1,c1,hm, *]))))
  all_goals(refine W_ret res38 hQ ?_)
  all_goals exact⟨_,_,Wk.refl _,Fg.refl _,congrArg (fun z:Nat=>SEnd.ret (.tup [.int .i64 (z:Int),.bool true])) HK3.out.symm,rfl⟩
 ·have HN:=Lib.hid h2
  by_cases h3:dz=sz
  ·have c1:((dz:Int)=(sz:Int))=True:=by rw[h3];simp
   have h4:i∈T:=Decidable.byContradiction fun h4=>h1 ⟨h3,h4⟩
   rw[decide_eq_true h4]at hm
   clear hd h1 h2 h3 h4 HI
   (repeat'(first|refine Ctl ?_|((with_reducible refine Kof.use hK ?_);clear hK hE K E)|((with_reducible refine W_cond (fun h=>?_) (fun h=>?_))<;>(try(exfalso;assumption)))|(((with_reducible refine G_region fun K E hK hE=>?_))<;>(try simp(disch:=omega) only[go_sem,seval,hsl,hx1,c1,hm, *]))))
   all_goals exact⟨f - 1,by omega,i+1,by omega,by omega,HN,rfl,z_sl,z_sl,z_sl,z_sl,z_sl,z_sl⟩
  ·have c1:¬ (dz:Int)=(sz:Int):=by omega
   clear hd h1 h2 h3 HI hm
   (repeat'(first|refine Ctl ?_|((with_reducible refine Kof.use hK ?_);clear hK hE K E)|((with_reducible refine W_cond (fun h=>?_) (fun h=>?_))<;>(try(exfalso;assumption)))|(((with_reducible refine G_region fun K E hK hE=>?_))<;>(try simp(disch:=omega) only[go_sem,seval,hsl,hx1,c1, *]))))
   all_goals exact⟨f - 1,by omega,i+1,by omega,by omega,HN,rfl,z_sl,z_sl,z_sl,z_sl,z_sl,z_sl⟩
end Go.Proofs.YtohnaepcgnbaiaaGreatDoor
namespace Go.Proofs.YtohnaepcgnbaiaaGreatDoor
open Go.RowKit
attribute [-go_sem] p_and p_or p_shl p_shr
theorem renB_no {fr tt:List Nat}(hl:tt.length=fr.length){v:Nat}(h:v∉fr):renB fr tt v=v:=by
 have e:lkZ (v:Int) (byZ fr tt)=none:=by
  rw[lkZ_none,byZ_fst hl]
  intro hm
  obtain⟨a,ha,e⟩:=List.mem_map.1 hm
  have:a=v:=by omega
  exact h (this ▸ ha)
 unfold renB
 rw[e]
theorem map_renB_no {fr tt:List Nat}(hl:tt.length=fr.length){M:List Nat}(h:∀v,v∈M→v∉fr):M.map (renB fr tt)=M:=by
 conv=>rhs;rw[← List.map_id M]
 exact List.map_congr_left fun v hv=>renB_no hl (h v hv)
theorem renB_left {A A' B B':List Nat}(hA:A'.length=A.length)(hB:B'.length=B.length)(hn:(A++B).Nodup):A.map (renB (A++B) (A'++B'))=A':=by
 apply List.ext_getElem (by simp[hA])
 intro i h1 h2
 rw[List.getElem_map]
 have h3:i<A.length:=by simpa using h1
 exact renB_at (by simp[hA,hB]) hn (i:=i) (by rw[List.getElem?_append_left h3];exact List.getElem?_eq_getElem h3) (by rw[List.getElem?_append_left h2];exact List.getElem?_eq_getElem h2)
theorem renB_right {A A' B B':List Nat}(hA:A'.length=A.length)(hB:B'.length=B.length)(hn:(A++B).Nodup){v:Nat}(hv:v∈B):renB (A++B) (A'++B') v=renB B B' v:=by
 obtain⟨j,hj,rfl⟩:=List.mem_iff_getElem.1 hv
 have hj2:j<B'.length:=by omega
 have e1:renB B B' B[j]=B'[j]:=renB_at hB (List.nodup_append.1 hn).2.1 (i:=j) (List.getElem?_eq_getElem hj) (List.getElem?_eq_getElem hj2)
 rw[e1]
 exact renB_at (by simp[hA,hB]) hn (i:=A.length+j) (by rw[List.getElem?_append_right (by omega),Nat.add_sub_cancel_left];exact List.getElem?_eq_getElem hj) (by rw[← hA,List.getElem?_append_right (by omega),Nat.add_sub_cancel_left];exact List.getElem?_eq_getElem hj2)
theorem varsOf_cons (o:List (List Nat))(k:Nat)(ks:List Nat):varsOf o (k::ks)=o.getD k []++varsOf o ks:=by simp[varsOf]
theorem ren_doms {o:List (List Nat)}:∀{fr tt:List Nat},tt.length=fr.length→(∀k,k∈fr→(o.getD k []).length=2)→(∀k,k∈tt→(o.getD k []).length=2)→(varsOf o fr).Nodup→fr.map (fun k=>(o.getD k []).map (renB (varsOf o fr) (varsOf o tt)))=tt.map fun k=>o.getD k []
 |[],[],_,_,_,_=>rfl
 |[],_::_,h,_,_,_=>by cases h
 |_::_,[],h,_,_,_=>by cases h
 |a::fr,b::tt,hl,h1,h2,hn=>by
  have hl':tt.length=fr.length:=by simpa using hl
  have ha:=h1 a (List.mem_cons_self ..)
  have hb:=h2 b (List.mem_cons_self ..)
  have w1:∀l:List Nat,(∀k,k∈l→(o.getD k []).length=2)→(varsOf o l).length=2 * l.length:=by
   intro l
   induction l with
   |nil=>intro _;simp[varsOf]
   |cons k l ih=>
    intro h
    have e1:=ih fun q hq=>h q (List.mem_cons_of_mem _ hq)
    have e2:=h k (List.mem_cons_self ..)
    rw[varsOf_cons,List.length_append,List.length_cons]
    omega
  have hf:=w1 fr fun k hk=>h1 k (List.mem_cons_of_mem _ hk)
  have ht:=w1 tt fun k hk=>h2 k (List.mem_cons_of_mem _ hk)
  rw[varsOf_cons]at hn
  have ih:=ren_doms (o:=o) hl' (fun k hk=>h1 k (List.mem_cons_of_mem _ hk)) (fun k hk=>h2 k (List.mem_cons_of_mem _ hk)) (List.nodup_append.1 hn).2.1
  rw[varsOf_cons,varsOf_cons,List.map_cons,List.map_cons,renB_left (by omega) (by omega) hn,← ih]
  congr 1
  refine List.map_congr_left fun k hk=>List.map_congr_left fun v hv=>renB_right (by omega) (by omega) hn (List.mem_flatMap.2 ⟨k,hk,hv⟩)
theorem Tells.turn {n:Nat}{ds:List (List UInt8×Nat)}{o:List (List Nat)}(hD:DOk n ds o){fr tt:List Nat}{S:List Nat→Prop}{g:(Nat→Bool)→Bool}(h:Tells o fr S g)(hl:tt.length=fr.length)(h1:∀k,k∈fr→k<ds.length∧(o.getD k []).length=2)(h2:∀k,k∈tt→(o.getD k []).length=2)(hn:fr.Nodup) :
  Tells o tt S (rnF (renB (varsOf o fr) (varsOf o tt)) g):=
 h.ren (ren_doms hl (fun k hk=>(h1 k hk).2) h2 (varsOf_nd hD hn fun k hk=>(h1 k hk).1))
theorem Tells.move {n:Nat}{ds:List (List UInt8×Nat)}{o:List (List Nat)}(hD:DOk n ds o){ks:List Nat}{S:List Nat→Prop}{g:(Nat→Bool)→Bool}(h:Tells o ks S g){i d0 d1:Nat}(hi:ks[i]?=some d0)(hn:ks.Nodup)(hk:∀k,k∈ks→k<ds.length)(w0:(o.getD d0 []).length=2)(w1:(o.getD d1 []).length=2) :
  Tells o (ks.set i d1) S (rnF (renB (varsOf o [d0]) (varsOf o [d1])) g):=by
 have hil:i<ks.length:=(List.getElem?_eq_some_iff.1 hi).1
 have e0:∀k,varsOf o [k]=o.getD k []:=fun k=>by simp[varsOf]
 rw[e0,e0]
 refine h.ren ?_
 apply List.ext_getElem (by simp)
 intro j hj1 hj2
 simp only[List.getElem_map]
 have hj:j<ks.length:=by simpa using hj1
 by_cases e:j=i
 ·subst e
  have e3:ks[j]=d0:=by have:=List.getElem?_eq_getElem hj;rw[this]at hi;injection hi
  rw[e3,List.getElem_set_self]
  have hnd:=varsOf_nd hD (ks:=[d0]) (by simp) (by intro k hk2;rw[List.mem_singleton]at hk2;rw[hk2];exact hk _ (List.mem_of_getElem? hi))
  rw[e0]at hnd
  have:=renB_left (A:=o.getD d0 []) (A':=o.getD d1 []) (B:=[]) (B':=[]) (by omega) rfl (by simpa using hnd)
  simpa using this
 ·rw[List.getElem_set_ne (fun e2=>e e2.symm)]
  refine map_renB_no (by omega) fun v hv hv2=>?_
  have e3:ks[i]=d0:=by have:=List.getElem?_eq_getElem hil;rw[this]at hi;injection hi
  have hne:ks[j]≠d0:=fun e4=>e ((List.getElem_inj hn).1 (by rw[e4,e3]))
  have hnd:=varsOf_nd hD (ks:=[d0,ks[j]]) (by simp;exact fun e=>hne e.symm) (by
   intro k hk2
   simp at hk2
   rcases hk2 with rfl|rfl
   ·exact hk _ (List.mem_of_getElem? hi)
   ·exact hk _ (List.getElem_mem hj))
  rw[varsOf_two]at hnd
  exact(List.nodup_append.1 hnd).2.2 v hv2 v hv rfl
end Go.Proofs.YtohnaepcgnbaiaaGreatDoor
namespace Go.Proofs.YtohnaepcgnbaiaaGreatDoor
open Go.RowKit
def dsR:List (List UInt8×Nat):=[([80,48],4),([80,49],4),([80,50],4),([80,51],4),([81,48],3),([81,49],3),([81,50],3)]
def dmR:List Dm:=dsR.map fun d=>(d.1,(d.2:Int))
def ordR:Nat→List UInt8
 |0=>[80,48,95,80,49,95,80,50,95,80,51,95,81,48,95,81,49,95,81,50]
 |1=>[80,48,42,80,49,42,80,50,42,80,51,42,81,48,42,81,49,42,81,50]
 |_=>[81,48,42,81,49,95,80,51,95,80,50,42,80,48,95,81,50,42,80,49]
def oR:Nat→List (List Nat)
 |0=>[[1,0],[3,2],[5,4],[7,6],[9,8],[11,10],[13,12]]
 |1=>[[7,0],[8,1],[9,2],[10,3],[11,4],[12,5],[13,6]]
 |_=>[[9,7],[13,11],[8,6],[5,4],[2,0],[3,1],[12,10]]
theorem newR0:newF 14 dmR (ordR 0)=.ok (oR 0):=by kernel_rfl
theorem newR1:newF 14 dmR (ordR 1)=.ok (oR 1):=by kernel_rfl
theorem newR2:newF 14 dmR (ordR 2)=.ok (oR 2):=by kernel_rfl
theorem newR {i:Nat}(h:i<3):newF 14 dmR (ordR i)=.ok (oR i):=by
 match i,h with
 |0,_=>exact newR0
 |1,_=>exact newR1
 |2,_=>exact newR2
theorem oR_len {i d:Nat}(h:i<3)(hd:d<7):((oR i).getD d []).length=2:=by
 have:∀i,i<3→∀d,d<7→((oR i).getD d []).length=2:=by decide
 exact this i h d hd
theorem oR_ok {i:Nat}(h:i<3):DOk 14 dsR (oR i):=by
 have h1:∀i,i<3→(oR i).length=7:=by decide
 have h2:∀i,i<3→∀l,l∈oR i→∀v,v∈l→v<14:=by decide
 have h3:∀i,i<3→(oR i).flatten.Nodup:=by decide
 refine⟨h1 i h,h2 i h,h3 i h,fun d x l e1 e2=>?_,by decide⟩
 have hd:d<7:=(List.getElem?_eq_some_iff.1 e1).1
 have e3:=oR_len h hd
 rw[List.getD_eq_getElem?_getD,e2]at e3
 have e3:l.length=2:=e3
 have h4:∀y,y∈dsR→1≤y.2∧y.2≤4:=by decide
 have h5:=h4 x (List.mem_of_getElem? e1)
 rw[e3]
 omega
theorem dom4R {i:Nat}(h:i<3){D:List Nat}(hD:∀d,d∈D→d<4):Dom4 dsR (oR i) D:=fun d hd=>by
 have h4:=hD d hd
 refine⟨?_,oR_len h (by omega)⟩
 match d,h4 with
 |0,_=>exact⟨_,rfl⟩
 |1,_=>exact⟨_,rfl⟩
 |2,_=>exact⟨_,rfl⟩
 |3,_=>exact⟨_,rfl⟩
theorem domsR:domsI dmR=domsC dsR:=rfl
end Go.Proofs.YtohnaepcgnbaiaaGreatDoor
