/- Walks. Conditions: in the statements. -/
import Derived.Test.YtohnaepcgnbaiaaGreatDoorJlQkj
set_option maxHeartbeats 32000000
set_option linter.unusedSimpArgs false
set_option linter.unusedVariables false
set_option maxRecDepth 100000
namespace Go.Proofs.YtohnaepcgnbaiaaGreatDoor
open Go.RowKit
def byZ (fr tt:TW):TY:=(fr.zip tt).map fun p=>((p.1:Int),(p.2:Int))
def aX (fr tt:TW)(v:Nat):Nat:=match lkZ (v:Int) (byZ fr tt)with
 |some w=>w.toNat
 |none=>v
theorem rH {fr tt:TW}(h:tt.length=fr.length):(byZ fr tt).map (·.1)=fr.map fun(k:Nat)=>(k:Int):=by
 simp only[byZ,List.map_map]
 show (fr.zip tt).map (fun p=>((p.1:Nat):Int))=_
 have e2:=List.map_map (f:=Prod.fst) (g:=fun k:Nat=>(k:Int)) (l:=fr.zip tt)
 rw[List.map_fst_zip (by omega)]at e2
 exact e2.symm
theorem BQ {fr tt:TW}{i v w:Nat}(hl:tt.length=fr.length)(hn:fr.Nodup)(h1:fr[i]?=some v)(h2:tt[i]?=some w):ptZ (v:Int) (w:Int) (byZ (fr.take i) (tt.take i))=byZ (fr.take (i+1)) (tt.take (i+1)):=by
 have hno:lkZ (v:Int) (byZ (fr.take i) (tt.take i))=none:=by
  rw[fV,rH (by rw[r_,r_,hl])]
  intro h
  obtain⟨a,ha,e⟩:=A_.1 h
  have:a=v:=by omega
  subst this
  have h3:(fr.take (i+1)).Nodup:=hn.sublist (List.take_sublist _ _)
  rw[List.take_add_one,h1,List.nodup_append]at h3
  exact h3.2.2 a ha a (by simp) rfl
 have hi:i<fr.length:=(x_.1 h1).1
 rw[jI hno,List.take_add_one,List.take_add_one,h1,h2]
 simp only[byZ,Option.toList]
 rw[List.zip_append (by rw[r_,r_,hl])]
 simp
theorem s8 {k x:Int}:∀{l:TY},(l.map (·.1)).Nodup->(k,x)∈l->lkZ k l=some x
 |[],_,h=>by cases h
 |(a,y)::l,hn,h=>by
  simp only[List.map_cons,List.nodup_cons]at hn
  simp only[lkZ]
  rcases AT.1 h with h|h
  ·injection h with h1 h2
   rw[if_pos h1,h2]
  ·rw[if_neg fun e=>hn.1 (by rw[<- e];exact List.mem_map_of_mem (f:=(·.1)) h)]
   exact s8 hn.2 h
theorem qZ {fr tt:TW}(hl:tt.length=fr.length)(hn:fr.Nodup){i v w:Nat}(h1:fr[i]?=some v)(h2:tt[i]?=some w):aX fr tt v=w:=by
 have hm:((v:Int),(w:Int))∈byZ fr tt:=by
  refine A_.2 ⟨(v,w),?_,rfl⟩
  rw[d_]
  exact⟨i,by rw[List.getElem?_zip_eq_some];exact⟨h1,h2⟩⟩
 have hnd:((byZ fr tt).map (·.1)).Nodup:=by
  rw[rH hl]
  exact List.Pairwise.map _ (fun a b h e=>h (by omega)) hn
 unfold aX
 rw[s8 hnd hm]
 rfl
theorem mH {k x:Int}:∀{l:TY},lkZ k l=some x->(k,x)∈l
 |[],h=>by cases h
 |(a,y)::l,h=>by
  simp only[lkZ]at h
  split at h
  ·rename_i e;injection h with h;rw[e,h];exact List.mem_cons_self ..
  ·exact List.mem_cons_of_mem _ (mH h)
theorem wX {fr tt:TW}{n v:Nat}(ht:∀w,w∈tt->w<n)(hv:v<n):aX fr tt v<n:=by
 unfold aX
 cases h:lkZ (v:Int) (byZ fr tt)with
 |none=>exact hv
 |some w=>
  obtain⟨p,hp,e⟩:=A_.1 (mH h)
  injection e with e1 e2
  have:=ht _ (List.of_mem_zip hp).2
  show w.toNat<n
  omega
theorem jn {n:Nat}{S:TW}:∀{t:Tr} {m j:Nat},OkT n m t->j<=m->InV S t->InV (S.filter fun v=>decide (j<=v)) t
 |.lf _,_,_,_,_,_=>trivial
 |.nd v l h,m,j,⟨h1,h2,h3,h4,h5⟩,hj,⟨i1,i2,i3⟩=>⟨List.mem_filter.2 ⟨i1,by simp;omega⟩,jn h4 (by omega) i2,jn h5 (by omega) i3⟩
theorem zR {n m:Nat}{S:TW}{by_:Nat->Nat}(hb:∀v,v<n->by_ v<n){t:Tr}(ho:OkT n m t)(hi:InV S t):SubN (rnT n by_ t) (2 ^ kkS S m - 1):=by
 refine se (S:=(S.filter fun v=>decide (m<=v)).map by_) (nI (t:=t)) (oD (nI (t:=t)) ?_) ?_
 ·have e:evT (rnT n by_ t)=rnF by_ (evT t):=by
   funext x
   exact qS hb ho x
  rw[e]
  exact qT (mL (jn ho (Nat.le_refl _) hi))
 ·rw[z_,<- List.countP_eq_length_filter]
  exact Nat.le_refl _
theorem Mz {u:St}{K:OB}{n B N m q bq bg mg v:Nat}{ns:Td}{a b:Tr}{fr tt:TW}(hC:CloS u K q bq bg mg 146 (mpZ cL (byZ fr tt)))(hO:OMem u K n B ns)(ma:a∈ns)(mb:b∈ns)(hv:v<n)(htt:∀w,w∈tt->w<n)(hc:CntN ns N)
  (hm:SubN (rnP n (aX fr tt) v a b) m) (hB:N+(m+1)<=B) :
  k7 101 [.int .i64 (v:Int),.int .i64 (ixN ns a:Nat),.int .i64 (ixN ns b:Nat),.ptr bg 0,.ptr bq 0] u K n B ns (N+(m+1)) (rnP n (aX fr tt) v a b):=by
 obtain⟨c1,c2,c3,c4⟩:=hC
 have hrl:=wX (fr:=fr) htt hv
 have hN:=hO.st.ok
 have hs1:SubN (mkT (aX fr tt v) (.lf false) (.lf true)) 1:=by
  refine⟨[mkT (aX fr tt v) (.lf false) (.lf true)],by simp,fun t ht=>?_⟩
  simpa [mkT,aL]using ht
 have wm:=G3 hO (hN.lf false).1 (hN.lf true).1 (v:=aX fr tt v) (by trivial) (by trivial) hrl hc hs1 (by omega)
 rw[(hN.lf false).2,(hN.lf true).2]at wm
 have wi:=fun(u':St) (K':OB) (ns':Td) (h:OpT u K n B ns (N+1) (mkT (aX fr tt v) (.lf false) (.lf true)) (u',K',ns'))=>(rN h.m h.mem (bn h.pre mb).1 (bn h.pre ma).1 (.of h.cnt hm (by omega))).toT h.cnt hm
 have hixa:=fun(u':St) (K':OB) (ns':Td) (h:OpT u K n B ns (N+1) (mkT (aX fr tt v) (.lf false) (.lf true)) (u',K',ns'))=>And.intro (bn h.pre ma).2 (bn h.pre mb).2
 have hqk:¬ K.has q:=hO.types c1 (by decide) (by decide) (by decide)
 have hqk2:¬ K.has bq:=hO.types c2 (by decide) (by decide) (by decide)
 have WI:=o_ wi
 have HX:=o_ hixa
 have HQK:=o_ hqk
 have HQK2:=o_ hqk2
 have hlk:(lkZ (v:Int) (byZ fr tt)=none/\aX fr tt v=v)\/∃w:Nat,lkZ (v:Int) (byZ fr tt)=some (w:Int)/\aX fr tt v=w:=by
  unfold aX
  cases h:lkZ (v:Int) (byZ fr tt)with
  |none=>exact .inl ⟨rfl,rfl⟩
  |some w=>
   refine .inr ⟨w.toNat,?_,rfl⟩
   obtain⟨p,hp,e⟩:=A_.1 (mH h)
   injection e with e1 e2
   congr 1
   omega
 have rnP_def:rnP n (aX fr tt) v a b=iteT n (mkT (aX fr tt v) (.lf false) (.lf true)) b a:=rfl
 unfold k7 at wm ⊢
 clear hO ma mb hv htt hc hm hB wi hixa hqk hqk2 hN hs1 hrl
 rw[rnP_def]
 generalize hrb:aX fr tt v=rv at *
 generalize hka:ixN ns a=ka at *
 generalize hkb:ixN ns b=kb at *
 clear rnP_def
 generalize byZ fr tt=BZ at *
 have key:∀(u':St) (K':OB) (ns':Td) (h:OpT u K n B ns (N+1) (mkT rv (.lf false) (.lf true)) (u',K',ns')),u' q=.obj 126 [.ptr K.o 0,.ptr K.s.p 0]/\u' bq=.obj 60 [.ptr q 0] /\
   k7 72 [.ptr K.o 0,.int .i64 (ixN ns' (mkT rv (.lf false) (.lf true)):Nat),.int .i64 (kb:Int),.int .i64 (ka:Int)] u' K' n B ns' (N+1+m) (iteT n (mkT rv (.lf false) (.lf true)) b a):=fun u' K' ns' h=>by
  have w:=WI.out u' K' ns' h
  have hx:=HX.out u' K' ns' h
  dsimp only at w hx
  rw[hx.1,hx.2,h.k.o]at w
  exact⟨(h.k.out q (by rw[c1];simp) HQK.out).trans c1,(h.k.out bq (by rw[c2];simp) HQK2.out).trans c2,w⟩
 have HKEY:=o_ key
 clear WI HX key
 have fin:∀(u':St) (K':OB) (ns':Td) (h:OpT u K n B ns (N+1) (mkT rv (.lf false) (.lf true)) (u',K',ns')) (a3:gJ),OpT u' K' n B ns' (N+1+m) (iteT n (mkT rv (.lf false) (.lf true)) b a) a3->OpT u K n B ns (N+(m+1)) (iteT n (mkT rv (.lf false) (.lf true)) b a) a3:=fun u' K' ns' h a3 h3=>by
  obtain⟨x1,e1⟩:=h.pre
  obtain⟨x2,e2⟩:=h3.pre
  dsimp only at e1
  exact⟨h3.m,⟨x1++x2,by rw[e2,e1];simp⟩,h3.mem,h3.cnt.mono (by omega),h.k.trans h3.k⟩
 have HFIN:=o_ fin
 clear fin
 rcases hlk with ⟨l1,l2⟩|⟨w,l1,l2⟩
 ·have hi1:(lkZ (v:Int) BZ).isSome=false:=by rw[l1];rfl
  subst l2
  clear l1
  refine am Tryz.func101 rfl Tryz.ntmps101 rfl fun Q hQ hQe=>?_
  (repeat'(first|refine Ctl ?_|((with_reducible refine k_ hK ?_);clear hK hE K E)|((with_reducible refine bZ (fun h=>?_) (fun h=>?_))<;>(try(exfalso;assumption)))|(((with_reducible refine ab fun K E hK hE=>?_))<;>(try simp(disch:=omega) only[go_sem,seval,hi1, *]))))
  refine ao oW wm (fun a h=>?_)
  obtain⟨u1,K1,ns1⟩:=a
  obtain⟨k1,k2,wi⟩:=HKEY.out _ _ _ h
  have HF:=o_ (HFIN.out _ _ _ h)
  dsimp only
  unfold k7 at wi
  clear h wm HKEY HFIN
  generalize ixN ns1 (mkT rv (.lf false) (.lf true))=kx at *
  simp only[go_sem,seval]
  (repeat'(first|refine Ctl ?_|((with_reducible refine k_ hK ?_);clear hK hE K E)|((with_reducible refine bZ (fun h=>?_) (fun h=>?_))<;>(try(exfalso;assumption)))|(((with_reducible refine ab fun K E hK hE=>?_))<;>(try simp(disch:=omega) only[go_sem,seval, *]))))
  refine ao tK wi (fun a3 h3=>?_)
  have H:=o_ (HF.out _ h3)
  obtain⟨u3,K3,ns3⟩:=a3
  dsimp only
  clear h3 wi HF
  simp only[go_sem,seval]
  (repeat'(first|refine Ctl ?_|((with_reducible refine k_ hK ?_);clear hK hE K E)))
  (refine aq uI hQ ?_)
  exact⟨_,_,Wk.refl _,Fg.refl _,(u3,K3,ns3),rfl,rfl,H.out⟩
 ·have hi1:(lkZ (v:Int) BZ).isSome=true:=by rw[l1];rfl
  have hi2:(lkZ (v:Int) BZ).getD 0=(w:Int):=by rw[l1];rfl
  subst l2
  clear l1
  refine am Tryz.func101 rfl Tryz.ntmps101 rfl fun Q hQ hQe=>?_
  (repeat'(first|refine Ctl ?_|((with_reducible refine k_ hK ?_);clear hK hE K E)|((with_reducible refine bZ (fun h=>?_) (fun h=>?_))<;>(try(exfalso;assumption)))|(((with_reducible refine ab fun K E hK hE=>?_))<;>(try simp(disch:=omega) only[go_sem,seval,hi1,hi2, *]))))
  refine ao oW wm (fun a h=>?_)
  obtain⟨u1,K1,ns1⟩:=a
  obtain⟨k1,k2,wi⟩:=HKEY.out _ _ _ h
  have HF:=o_ (HFIN.out _ _ _ h)
  dsimp only
  unfold k7 at wi
  clear h wm HKEY HFIN
  generalize ixN ns1 (mkT rv (.lf false) (.lf true))=kx at *
  simp only[go_sem,seval]
  (repeat'(first|refine Ctl ?_|((with_reducible refine k_ hK ?_);clear hK hE K E)|((with_reducible refine bZ (fun h=>?_) (fun h=>?_))<;>(try(exfalso;assumption)))|(((with_reducible refine ab fun K E hK hE=>?_))<;>(try simp(disch:=omega) only[go_sem,seval, *]))))
  refine ao tK wi (fun a3 h3=>?_)
  have H:=o_ (HF.out _ h3)
  obtain⟨u3,K3,ns3⟩:=a3
  dsimp only
  clear h3 wi HF
  simp only[go_sem,seval]
  (repeat'(first|refine Ctl ?_|((with_reducible refine k_ hK ?_);clear hK hE K E)))
  (refine aq uI hQ ?_)
  exact⟨_,_,Wk.refl _,Fg.refl _,(u3,K3,ns3),rfl,rfl,H.out⟩
theorem y7 {s:St}{KK:OB}{n B N q:Nat}{ns:Td}{f:Tf}{S fr tt:TW}(hO:OMem s KK n B ns)(hq:s q=.obj 126 [.ptr KK.o 0,.ptr KK.s.p 0])(hf:DepF S f)(hS:∀v,v∈S->v<n)(mf:treeT n f∈ns)(ow ow2:Own)(hlen:tt.length=fr.length)(hfn:fr.Nodup)(hfl:∀v,v∈fr->v<n)(htl:∀v,v∈tt->v<n)(hl:fr.length<=256)(hc:CntN ns N)(hB:N+(S.length+2) * 2 ^ S.length<=B) :
  OpFC 67 [.ptr q 0,.int .i64 (ixF n ns f:Nat),.lst (ak fr) ow,.lst (ak tt) ow2] s KK n B ns (N+(S.length+2) * 2 ^ S.length) (rnF (aX fr tt) f):=by
 have hqf:s q≠.free:=by rw[hq];simp
 have hqk:¬ KK.has q:=hO.types hq (by decide) (by decide) (by decide)
 have hm0:=fun(u:St) (h:∀z,s z≠.free->u z=s z)=>vR (hO.keep fun z hz=>h z (hO.live hz)) ((h q hqf).trans hq) tt [ixF n ns f] ow2 .full htl (by omega) (fun k hk=>by rw[a_]at hk;subst hk;exact gD mf) (by simp)
 rw[show ak [ixF n ns f]=[[.int .i64 ((ixF n ns f:Nat):Int)]] from rfl]at hm0
 have hm1:=fun(u:St) (h:∀z,s z≠.free->u z=s z)=>vR (hO.keep fun z hz=>h z (hO.live hz)) ((h q hqf).trans hq) fr [] ow .full hfl hl (fun k hk=>by cases hk) (by simp)
 rw[show ak []=[] from rfl]at hm1
 have hll:(ak fr).length=fr.length:=natsL_len
 have hll2:(ak tt).length=fr.length:=by rw[natsL_len,hlen]
 have hsz:(mpZ bP (aS fr)).length=fr.length:=by simp[mpZ,aS]
 have hat:=fun i k (h:fr[i]?=some k)=>aH h
 have hat2:=fun i k (h:tt[i]?=some k)=>aH h
 have HAT:=o_ hat
 have HAT2:=o_ hat2
 have WM:=o_ hm0
 have WM1:=o_ hm1
 clear hm0 hm1 hat hat2
 refine am Tryz.func67 rfl Tryz.ntmps67 rfl fun Q hQ hQe=>?_
 (repeat'(first|refine Ctl ?_|((with_reducible refine k_ hK ?_);clear hK hE K E)|((first|(with_reducible refine ab fun K E hK hE=>?_)|((with_reducible refine au (fun b hb=>?_))))<;>(try simp(disch:=omega) only[go_sem,seval,hll,hll2, *]))))
 obtain⟨bq,hbq⟩:∃z,z=b:=⟨_,rfl⟩
 subst hbq
 obtain⟨u0,hu0⟩:∃u,u=s.set bq (.obj 60 [.ptr q 0]):=⟨_,rfl⟩
 rw[<- hu0]
 have g0:∀z,s z≠.free->u0 z=s z:=fun z hz=>by rw[hu0,j_ _ _ (nef hb hz).1]
 have k0:u0 bq=.obj 60 [.ptr q 0]:=by rw[hu0,q_]
 have ws:=B5 u0 fr ow hfn (by omega)
 have hbs:s bq=.free:=hb
 clear hu0 hb
 refine ao GJ ws (fun a h=>?_)
 obtain⟨u1,mg0⟩:=a
 obtain⟨hmf,hu1⟩:=h
 dsimp only at hmf hu1 ⊢
 have g1:∀z,u0 z≠.free->u1 z=u0 z:=fun z hz=>by rw[hu1,j_ _ _ (nef hmf hz).1]
 have m1:u1 mg0=.map (mpZ bP (aS fr)):=by rw[hu1,q_]
 have k1:u1 bq=.obj 60 [.ptr q 0]:=(g1 bq (by rw[k0];simp)).trans k0
 have gs:∀z,s z≠.free->u1 z=s z:=fun z hz=>(g1 z (by rw[g0 z hz];exact hz)).trans (g0 z hz)
 have wm:=WM.out u1 gs
 have wm1:=WM1.out u1 gs
 have hsl:(aS fr).length=fr.length:=by simp[aS]
 clear hu1 ws
 simp only[go_sem,seval,m1,hsz,hsl]
 have hbqf:u1 bq≠.free:=by rw[k1];simp
 (repeat'(first|refine Ctl ?_|((with_reducible refine k_ hK ?_);clear hK hE K E)|((with_reducible refine bZ (fun h=>?_) (fun h=>?_))<;>(try(exfalso;assumption)))|((first|(with_reducible first|refine ab fun K E hK hE=>?_|refine ae BC (wm1) ?_)|((with_reducible refine pH (fun h=>?_) (fun h=>?_))<;>(try(exfalso;omega))))<;>(try simp(disch:=omega) only[go_sem,seval,hll,hll2,m1,hsl,hsz, *]))))
 (repeat'(first|refine Ctl ?_|((with_reducible refine k_ hK ?_);clear hK hE K E)|((with_reducible refine bZ (fun h=>?_) (fun h=>?_))<;>(try(exfalso;assumption)))|((first|(with_reducible first|refine ab fun K E hK hE=>?_|refine ae BC (wm) ?_)|((with_reducible refine au (fun b hb=>?_));(repeat(obtain⟨_,hb⟩:=hb));(try(obtain⟨_,_⟩:=nef hb hbqf))))<;>(try simp(disch:=omega) only[go_sem,seval,hll,hll2, *]))))
 rename_i _ _ mg hbm n1 n1' n2 n2' n3 n3'
 obtain⟨bg,hbb⟩:∃z,z=b:=⟨_,rfl⟩
 subst hbb
 have hbg:u1 bg=.free:=hb
 have hst:(u1.set mg (.map [])).set bg (.obj 146 [.mp mg])=(u1.set bg (.obj 146 [.mp mg])).set mg (.map (mpZ cL (byZ (fr.take 0) (tt.take 0)))):=by
  funext z
  by_cases e1:z=bg
  ·subst e1;rw[q_,j_ _ _ n2,q_]
  ·rw[j_ _ _ e1]
   by_cases e2:z=mg
   ·subst e2;rw[q_,q_];rfl
   ·rw[j_ _ _ e2,j_ _ _ e2,j_ _ _ e1]
 rw[hst]
 obtain⟨uB,huB⟩:∃u,u=u1.set bg (.obj 146 [.mp mg]):=⟨_,rfl⟩
 rw[<- huB]
 have gB:∀z,u1 z≠.free->uB z=u1 z:=fun z hz=>by rw[huB,j_ _ _ (nef hbg hz).1]
 have fB:uB bg=.obj 146 [.mp mg]:=by rw[huB,q_]
 have fM:uB mg=.free:=by rw[huB,j_ _ _ (fun e=>n2 e.symm)];exact hbm
 have fQ:uB bq=.obj 60 [.ptr q 0]:=(gB bq (by rw[k1];simp)).trans k1
 have HG:=o_ (And.intro gs (And.intro gB (And.intro hbm hbg)))
 have HFN:=o_ hfn
 have HLEN:=o_ hlen
 clear hst huB gs gB hb hbm hbg wm wm1 m1 k1 g1 g0 k0 hbqf hsz hsl n3 n3' hmf
 refine aY (fun m env s'=>∃(i:Nat),i<=fr.length/\m+i=fr.length/\s'=uB.set mg (.map (mpZ cL (byZ (fr.take i) (tt.take i))))/\env 1=.int .i64 ((ixF n ns f:Nat):Int)/\env 3=.lst (ak tt) ow2/\env 4=.ptr bq 0/\env 11=.ptr bg 0/\env 42=.lst (ak fr) ow/\env 43=.int .i64 fr.length/\env 44=.int .i64 i) fr.length
  ⟨0,by omega,by omega,rfl,ac,ac,ac,ac,ac,ac,ac⟩ ?_
 rintro m env s' ⟨i,hi,hmi,rfl,e1,e3,e4,e11,e42,e43,e44⟩
 by_cases h2:i<fr.length
 ·have hk:=m_ h2
  have hk2:=m_ (show i<tt.length by have:=HLEN.out;omega)
  have hx:=HAT.out _ _ hk
  have hx2:=HAT2.out _ _ hk2
  have hpt:=BQ HLEN.out HFN.out hk hk2
  clear hk hk2
  generalize fr[i]=v at *
  generalize tt[i]=w at *
  generalize hF:byZ (fr.take i) (tt.take i)=BZ at *
  clear hF
  (repeat'(first|refine Ctl ?_|(with_reducible first|(refine k_ hK ?_;clear hK hE K E)|(refine k_ hKh ?_;clear hKh Kh)|(refine k_ hKb (aC ?_);clear hKb Kb)|refine ax 10 [([0,1,2,3,4,5],6,[[]])] [] hQe fun K E hK hE=>?_)|((with_reducible refine bZ (fun h=>?_) (fun h=>?_))<;>(try(exfalso;assumption)))|(((with_reducible first|refine ab fun K E hK hE=>?_|refine ay fun Kh hKh=>?_|refine aG fun Kh hKh=>?_|refine aB fun Kb hKb=>?_))<;>(try simp(disch:=omega) only[go_sem,seval,hx,hx2,hll2,hpt, *]))))
  all_goals exact⟨m - 1,by omega,i+1,by omega,by omega,rfl,ac,ac,ac,ac,ac,ac,ac⟩
 ·have hin:i=fr.length:=by omega
  have htl2:tt.take fr.length=tt:=by rw[<- HLEN.out,b_]
  rw[hin,b_,htl2]
  clear hmi e3 e42
  obtain⟨u2,hu2⟩:∃u,u=uB.set mg (.map (mpZ cL (byZ fr tt))):=⟨_,rfl⟩
  rw[<- hu2]
  have p1:∀z,uB z≠.free->u2 z=uB z:=fun z hz=>by rw[hu2,j_ _ _ (nef fM hz).1]
  have p2:u2 mg=.map (mpZ cL (byZ fr tt)):=by rw[hu2,q_]
  have p3:u2 bg=.obj 146 [.mp mg]:=(p1 bg (by rw[fB];simp)).trans fB
  have p4:u2 bq=.obj 60 [.ptr q 0]:=(p1 bq (by rw[fQ];simp)).trans fQ
  have hbqf:u2 bq≠.free:=by rw[p4];simp
  clear hu2
  (repeat'(first|refine Ctl ?_|((with_reducible refine k_ hK ?_);clear hK hE K E)|((with_reducible refine bZ (fun h=>?_) (fun h=>?_))<;>(try(exfalso;omega)))|((first|(with_reducible refine ab fun K E hK hE=>?_)|((with_reducible refine au (fun b hb=>?_));(try(obtain⟨_,_⟩:=nef hb hbqf))))<;>(try simp(disch:=omega) only[go_sem,seval, *]))))
  obtain⟨m,hmm⟩:∃z,z=b:=⟨_,rfl⟩
  subst hmm
  have hbm2:u2 m=.free:=hb
  obtain⟨u3,hu3⟩:∃u,u=u2.set m (.map []):=⟨_,rfl⟩
  rw[<- hu3]
  obtain⟨hgs,hgB,hbmm,hbgg⟩:=HG.out
  have q1:∀z,u2 z≠.free->u3 z=u2 z:=fun z hz=>by rw[hu3,j_ _ _ (nef hbm2 hz).1]
  have g2:∀z,s z≠.free->u2 z=s z:=fun z hz=>by
   have a1:=hgs z hz
   have a2:=hgB z (by rw[a1];exact hz)
   rw[p1 z (by rw[a2,a1];exact hz),a2,a1]
  have g3:∀z,s z≠.free->u3 z=s z:=fun z hz=>(q1 z (by rw[g2 z hz];exact hz)).trans (g2 z hz)
  have m2:u3 m=.map (mpZ cL []):=by rw[hu3,q_];rfl
  have c3:u3 bg=.obj 146 [.mp mg]:=(q1 bg (by rw[p3];simp)).trans p3
  have c2:u3 bq=.obj 60 [.ptr q 0]:=(q1 bq (by rw[p4];simp)).trans p4
  have c4:u3 mg=.map (mpZ cL (byZ fr tt)):=(q1 mg (by rw[p2];simp)).trans p2
  have c1:u3 q=.obj 126 [.ptr KK.o 0,.ptr KK.s.p 0]:=(g3 q hqf).trans hq
  have hO2:OMem u3 KK n B ns:=hO.keep fun z hz=>g3 z (hO.live hz)
  have hsm:s m=.free:=by
   by_cases e:s m=.free
   ·exact e
   ·exact absurd (g2 m e ▸ hbm2) e
  have hmne:m≠mg:=fun e=>by rw[e]at hbm2;rw[p2]at hbm2;cases hbm2
  have e1:¬ KK.has bq:=hO2.types c2 (by decide) (by decide) (by decide)
  have e2:¬ KK.has bg:=hO2.types c3 (by decide) (by decide) (by decide)
  have e3:¬ KK.has mg:=hO2.nomap c4
  have e4:¬ KK.has m:=hO2.nomap m2
  have n1:q≠m:=fun e=>by rw[<- e]at m2;rw[c1]at m2;cases m2
  have n2:bq≠m:=fun e=>by rw[<- e]at m2;rw[c2]at m2;cases m2
  have n3:bg≠m:=fun e=>by rw[<- e]at m2;rw[c3]at m2;cases m2
  have hby:∀v,v<n->aX fr tt v<n:=fun v hv=>wX htl hv
  have hput:Fq m 101 [.ptr bg 0,.ptr bq 0] (rnP n (aX fr tt)) (fun v=>2 ^ kkS S v - 1+1) (fun t=>∃j,OkT n j t/\InV S t) u3 KK n B:=by
   rintro u K ns N v l h ⟨j,ho,hi⟩ hk hO ml mh hc hB
   obtain⟨o1,o2,o3,o4,o5⟩:=ho
   have hCl:CloS u K q bq bg mg 146 (mpZ cL (byZ fr tt)):=⟨by rw[hk.out q (by rw[c1];simp) hqk n1,c1,hk.o,hk.p],by rw[hk.out bq (by rw[c2];simp) e1 n2,c2],by rw[hk.out bg (by rw[c3];simp) e2 n3,c3],by rw[hk.out mg (by rw[c4];simp) e3 fun e=>hmne e.symm,c4]⟩
   have ho2:OkT n v (.nd v l h):=⟨Nat.le_refl _,o2,o3,o4,o5⟩
   exact Mz hCl hO ml mh o2 htl hc (zR hby ho2 hi) hB
  have hto:OkT n 0 (treeT n f):=cQ
  have hti:InV S (treeT n f):=eH hS hf
  have hcost:du (fun v=>2 ^ kkS S v - 1+1) (treeT n f)<=(S.length+2) * 2 ^ S.length:=tG (fun v=>Nat.add_le_add_right (Nat.sub_le _ _) 1) hto hti
  have w:=mP (q:=q) (caps:=[.ptr bg 0,.ptr bq 0]) Ms hput c1 hqk n1 (by rw[m2];simp) e4 (fun v l h ⟨j,ho,hi⟩=>⟨⟨_,ho.2.2.2.1,hi.2.1⟩,⟨_,ho.2.2.2.2,hi.2.2⟩⟩) (treeT n f) (N:=N) (ns:=ns) (me:=[]) ⟨0,hto,hti⟩ hO2 (.refl _ _ _) m2 (fun k x hk=>by cases hk) hc mf (by omega)
  unfold WalkC at w
  have HE:=o_ (show walkT (rnP n (aX fr tt)) (treeT n f)=treeT n (rnF (aX fr tt) f) from zQ hby (hf.hang hS))
  have HF:=o_ (fun(a:xO) (h:WalkR u3 KK m n B ns (walkT (rnP n (aX fr tt))) (N+du (fun v=>2 ^ kkS S v - 1+1) (treeT n f)) (walkT (rnP n (aX fr tt)) (treeT n f)) a)=>show OpF s KK n B ns (N+(S.length+2) * 2 ^ S.length) (rnF (aX fr tt) f) (a.1,a.2.1,a.2.2.1) from
   ⟨h.om,h.pre,HE.out ▸ h.mem,h.cnt.mono (by omega),h.k.toO g3 hsm⟩)
  clear hput hto hti hcost hu3 g2 g3 m2 c1 c2 c3 c4 hO2 hsm hmne e2 e3 e4 n1 n2 n3 hby
  clear hO hq hf hS mf htl hfl hc hB HG hgs hgB hbmm hbgg p1 p2 p3 p4 q1 hbqf hbm2 hb fB fM fQ
  change SCalls Tryz.prog _ [.ptr q 0,.int .i64 ((ixF n ns f:Nat):Int),_,_] _ _ at w
  refine ao xF w (fun a h=>?_)
  obtain⟨u4,K4,ns4,me4⟩:=a
  have HF3:=o_ (HF.out _ h)
  dsimp only at HF3 ⊢
  rw[HE.out]
  clear h w HF
  simp only[go_sem,seval]
  (repeat'(first|refine Ctl ?_|((with_reducible refine k_ hK ?_);clear hK hE K E)))
  all_goals(refine aq FW hQ ?_)
  all_goals exact⟨_,_,Wk.refl _,Fg.refl _,(u4,K4,ns4),rfl,rfl,HF3.out⟩
abbrev CubA:=St×Own
def pI (s:St)(J:CubB)(n B:Nat)(ns:Td)(mk:Int)(most:Nat)(w:TZ)(rows:TX)(o:Own)(t:Tr):Prop:=
 SCalls Tryz.prog 129 [.int .i64 (ixN ns t:Nat),.ptr J.bf 0,.ptr J.bo 0,.ptr J.bm 0,.ptr J.bw 0,.ptr J.bs 0,.ptr J.bk 0] s fun x u=>∃a:CubA,x=.ret (.tup [])/\u=a.1/\CubS a.1 J n B ns mk most w (rows++cB t w) a.2/\CubF s a.1 J o a.2
abbrev CU:TypeId:=28
theorem sR {s:St}{o o2:Own}{n m sz z:Nat}{T:TypeId}(h:OwnOk (s.disown o) o2 n)(hz:s z≠.free)(hn:∀y,o=.at_ y->z≠y):((s.disown o).own o2 T sz m) z=s z:=by
 have e1:(s.disown o) z=s z:=by
  cases o with
  |at_ y=>exact j_ _ _ (hn y rfl)
  |_=>rfl
 cases o2 with
 |at_ y2=>
  have h2:(s.disown o) y2=.free:=h
  exact(j_ _ _ fun e=>hz (by rw[<- e1,e,h2])).trans e1
 |_=>exact e1
theorem CubS.add {s:St}{J:CubB}{n B:Nat}{ns:Td}{mk:Int}{most:Nat}{w:TZ}{rows:TX}{o:Own}(h:CubS s J n B ns mk most w rows o){u:St}{y2:Nat}
  (h1:u y2=.vec 28 1 (rows.length+1)) (h2:s y2=.free\/o=.at_ y2) (hu:∀z,s z≠.free->z≠J.bo->(∀y,o=.at_ y->z≠y)->u z=s z) (h3:u J.bo=.obj 36 [.lst (cu rows++[[cK w]]) (.at_ y2)]) :
  CubS u J n B ns mk most w (rows++[w]) (.at_ y2)/\CubF s u J o (.at_ y2):=by
 have hf:CubF s u J o (.at_ y2):=⟨fun z hz a _ b=>hu z hz a b,fun y hy=>by injection hy with hy;subst hy;exact h2⟩
 refine⟨h.types hf (by rw[zJ];exact h3) ?_ h.wl (.inr ⟨y2,rfl,by rw[p_];exact h1⟩),hf⟩
 rw[hu J.w (by rw[h.c];simp) h.d1.symm ?_]
 ·exact h.c
 ·rintro y hy rfl
  rcases h.own with ⟨_,e⟩|⟨y',e,e2⟩
  ·rw[e]at hy;cases hy
  ·rw[e]at hy
   injection hy with hy
   rw[hy,h.c]at e2
   cases e2
theorem zl {s:St}{J:CubB}{n B:Nat}{ns:Td}{mk:Int}{most:Nat}{w:TZ}{rows:TX}{o:Own}(hA:CubS s J n B ns mk most w rows o)(hN:NsOk n ns):pI s J n B ns mk most w rows o (.lf false):=by
 have hk:ixN ns (.lf false)=0:=(hN.lf false).2
 unfold pI
 have e:cB (.lf false) w=[]:=rfl
 rw[e,List.append_nil,hk]
 suffices hs:SRet Tryz.prog 129 [.int .i64 ((0:Nat):Int),.ptr J.bf 0,.ptr J.bo 0,.ptr J.bm 0,.ptr J.bw 0,.ptr J.bs 0,.ptr J.bk 0] s (.tup []) s by
  refine SCalls.mono (h:=hs) ?_
  rintro x u ⟨rfl,rfl⟩
  exact⟨(u,o),rfl,rfl,hA,.refl _ _ _⟩
 clear hA hN hk e
 refine am Tryz.func129 rfl Tryz.ntmps129 rfl fun Q hQ hQe=>?_
 (repeat'(first|refine Ctl ?_|((with_reducible refine k_ hK ?_);clear hK hE K E)|((with_reducible refine bZ (fun h=>?_) (fun h=>?_))<;>(try(exfalso;assumption)))|(((with_reducible refine ab fun K E hK hE=>?_))<;>(try simp(disch:=omega) only[go_sem,seval,Int.natCast_zero,Int.ofNat_zero, *]))))
 all_goals(refine aq nL hQ ?_)
 all_goals exact⟨_,_,Wk.refl _,Fg.refl _,rfl,rfl⟩
theorem Ct {s:St}{J:CubB}{n B:Nat}{ns:Td}{mk:Int}{most:Nat}{w:TZ}{rows:TX}{o:Own}(hA:CubS s J n B ns mk most w rows o)(hN:NsOk n ns)(hn:n<=256)(hm:rows.length+1<=most)(hm2:most<=16384):pI s J n B ns mk most w rows o (.lf true):=by
 have hk:ixN ns (.lf true)=1:=(hN.lf true).2
 unfold pI
 have e:cB (.lf true) w=[w]:=rfl
 rw[e,hk]
 have hfull:¬ ((rows.length:Nat):Int)>=(most:Int):=by omega
 have hfull2:¬ (most:Int)<=((rows.length:Nat):Int):=by omega
 have hl:=jl (rows:=rows)
 have hone:=zI (rows:=rows)
 have wc:=Cv w J.w 3
 have o1:=hA.f
 have o2:=hA.ro
 have o3:=hA.m
 have o4:=hA.ww
 have o5:=hA.c
 have hwl:=hA.wl
 have hown:=hA.own
 obtain⟨a1,a2,a3,a4,a5⟩:=hA.d2
 obtain⟨b1,b2,b3,b4,b5⟩:=hA.d3
 have d1:=hA.d1
 rw[<- hwl]at o4
 have hself:s.set J.bf (.obj 4 [.bool false])=s:=v_ _ _ _ o1
 have wc:=wc s o5 (by omega)
 have hb256:w.length<=256:=by omega
 have g1:=Ne.symm a1
 have g2:=Ne.symm a2
 have g3:=Ne.symm a3
 have g4:=Ne.symm d1
 clear hwl
 clear hN hk e
 simp only[cK]at wc
 have hadd:=fun u y2 h1 h2 h3 h4=>CubS.add hA (u:=u) (y2:=y2) h1 h2 h3 h4
 simp only[cK]at hadd
 have HADD:=o_ hadd
 clear hadd
 generalize aI w=LW at *
 have hzz:s J.bo≠.free:=by rw[o2];simp
 rcases hown with ⟨h0,ho⟩|⟨y,ho,hy⟩
 ·subst h0 ho
  have hr0:cu []=[]:=rfl
  rw[hr0]at o2
  have hOw:iZ s .full 28 1 0:=rfl
  have hnn:∀y,Own.full=.at_ y->J.bo≠y:=fun y e=>by cases e
  clear hA
  refine am Tryz.func129 rfl Tryz.ntmps129 rfl fun Q hQ hQe=>?_
  (repeat'(first|refine Ctl ?_|(with_reducible first|(refine k_ hK ?_;clear hK hE K E)|(refine k_ hKh ?_;clear hKh Kh)|(refine k_ hKb (aC ?_);clear hKb Kb)|refine ax 4 [([0,1],2,[[0]]),([3],4,[[],[]]),([],5,[[],[],[]])] [] hQe fun K E hK hE=>?_)|((with_reducible refine bZ (fun h=>?_) (fun h=>?_))<;>(try(exfalso;first|assumption|omega)))|((first|(with_reducible first|refine ab fun K E hK hE=>?_|refine ae ft (wc) ?_|refine ay fun Kh hKh=>?_|refine aG fun Kh hKh=>?_|refine aB fun Kb hKb=>?_)|((with_reducible refine fC (fun o2 ho=>?_));(try(have hRO:=sR (T:=CU) (sz:=1) (m:=1) ho hzz hnn))))<;>(try simp(disch:=omega) only[go_sem,seval,Int.natCast_zero,Int.ofNat_zero,Int.natCast_one,hfull,hfull2,hself,hOw, *]))))
  all_goals(refine aq nL hQ ?_)
  obtain⟨y2,rfl,p2,p3,p4⟩:=sQ (T:=CU) (n:=0) ho
  have hy2:y2≠J.bo:=fun e=>by
   rcases p4 with h|h
   ·exact hzz (e ▸ h)
   ·exact hnn _ h e.symm
  exact⟨_,_,Wk.refl _,Fg.refl _,(_,.at_ y2),rfl,rfl,HADD.out _ y2 ((j_ _ _ hy2).trans p2) p4 (fun z hz h1 h2=>(j_ _ _ h1).trans (p3 z hz h2)) (q_ _ _ _)⟩
 ·subst ho
  have hOw:iZ s (.at_ y) 28 1 rows.length:=hy
  have hnn:∀z,Own.at_ y=.at_ z->J.bo≠z:=fun z e=>by injection e with e;subst e;intro e;rw[<- e,o2]at hy;cases hy
  generalize cu rows=L at *
  clear hA hy
  refine am Tryz.func129 rfl Tryz.ntmps129 rfl fun Q hQ hQe=>?_
  (repeat'(first|refine Ctl ?_|(with_reducible first|(refine k_ hK ?_;clear hK hE K E)|(refine k_ hKh ?_;clear hKh Kh)|(refine k_ hKb (aC ?_);clear hKb Kb)|refine ax 4 [([0,1],2,[[0]]),([3],4,[[],[]]),([],5,[[],[],[]])] [] hQe fun K E hK hE=>?_)|((with_reducible refine bZ (fun h=>?_) (fun h=>?_))<;>(try(exfalso;assumption)))|((first|(with_reducible first|refine ab fun K E hK hE=>?_|refine ae ft (wc) ?_|refine ay fun Kh hKh=>?_|refine aG fun Kh hKh=>?_|refine aB fun Kb hKb=>?_)|((with_reducible refine fC (fun o2 ho=>?_));(try simp(disch:=assumption) only[bz,bB,cZ,c6,z_,List.length_cons,List.length_nil,Nat.zero_add,Int.natCast_zero,Int.ofNat_zero,Int.natCast_one,hl,hfull,hfull2,hself,hOw]at ho);(try(have hRO:=sR (T:=CU) (sz:=1) (m:=rows.length+1) ho hzz hnn))))<;>(try simp(disch:=omega) only[go_sem,seval,Int.natCast_zero,Int.ofNat_zero,Int.natCast_one,hl,hfull,hfull2,hself,hOw, *]))))
  all_goals(refine aq nL hQ ?_)
  obtain⟨y2,rfl,p2,p3,p4⟩:=sQ (T:=CU) (n:=rows.length) ho
  have hy2:y2≠J.bo:=fun e=>by
   rcases p4 with h|h
   ·exact hzz (e ▸ h)
   ·exact hnn _ h e.symm
  exact⟨_,_,Wk.refl _,Fg.refl _,(_,.at_ y2),rfl,rfl,HADD.out _ y2 ((j_ _ _ hy2).trans p2) p4 (fun z hz h1 h2=>(j_ _ _ h1).trans (p3 z hz h2)) (q_ _ _ _)⟩
theorem FD {s:St}{J:CubB}{n B:Nat}{ns:Td}{mk:Int}{most:Nat}{w:TZ}{rows:TX}{o:Own}{v m:Nat}{l r:Tr}(hA:CubS s J n B ns mk most w rows o)(hN:NsOk n ns)(hm:.nd v l r∈ns)(ho:OkT n m (.nd v l r))(hw:OpenW m w)(hb:rows.length+(cB (.nd v l r) w).length<=most)
  (ihl:∀{s:St} {w:TZ} {rows:TX} {o:Own},CubS s J n B ns mk most w rows o->OpenW (v+1) w->rows.length+(cB l w).length<=most->pI s J n B ns mk most w rows o l)
  (ihr:∀{s:St} {w:TZ} {rows:TX} {o:Own},CubS s J n B ns mk most w rows o->OpenW (v+1) w->rows.length+(cB r w).length<=most->pI s J n B ns mk most w rows o r):pI s J n B ns mk most w rows o (.nd v l r):=by
 obtain⟨h1,h2,h3,h4,h5⟩:=ho
 have hwl:=hA.wl
 have hk2:=hN.two hm
 have k0:¬ ((ixN ns (.nd v l r):Nat):Int)=0:=by omega
 have k1:¬ ((ixN ns (.nd v l r):Nat):Int)=1:=by omega
 have w1:=fun(u:St) (w':TZ) (rows':TX) (o':Own) (h:CubS u J n B ns mk most w' rows' o')=>c8 u J.p J.g J.q n B (ixN ns (.nd v l r)) ns (.nd v l r) mk 0 h.nm (bS hm)
 have w1:=w1 _ _ _ _ hA
 simp only[aW,lowN,highN]at w1
 have hA1:=hA.setw (w.set v 0) (by rw[List.length_set];exact hwl)
 have hO1:OpenW (v+1) (w.set v 0):=hw.set h1
 have hO2:OpenW (v+1) (w.set v 1):=hw.set h1
 have hcu:cB (.nd v l r) w=cB l (w.set v 0)++cB r (w.set v 1):=rfl
 rw[hcu,p_]at hb
 have w2:=ihl hA1.1 hO1 (by omega)
 have hback:w.set v 2=w:=by
  have h:=hw v h1 (by omega)
  apply List.ext_getElem?
  intro i
  by_cases e:v=i
  ·subst e;rw[e_ (by omega),h]
  ·rw[i_ e]
 have s0:=jV (l:=w) (i:=v) (n:=0) (by omega)
 have s1:=jV (l:=w.set v 0) (i:=v) (n:=1) (by rw[List.length_set];omega)
 have s2:=jV (l:=w.set v 1) (i:=v) (n:=2) (by rw[List.length_set];omega)
 rw[List.set_set]at s1 s2
 rw[hback]at s2
 have hr:=fun(u:St) (rows':TX) (o':Own) (h:CubS u J n B ns mk most (w.set v 1) rows' o') (hl:rows'.length+(cB r (w.set v 1)).length<=most)=>ihr h hO2 hl
 have l0:(aM w).length=n:=by rw[dJ];exact hwl
 have l1:(aM (w.set v 0)).length=n:=by rw[dJ,List.length_set];exact hwl
 have l2:(aM (w.set v 1)).length=n:=by rw[dJ,List.length_set];exact hwl
 unfold pI at w2 hr ⊢
 rw[hcu]
 have o1:=hA.f
 have o3:=hA.st
 have o4:=hA.ww
 have o5:=hA.c
 have o6:=hA.k
 obtain⟨b1,b2,b3,b4,b5⟩:=hA.d3
 have g1:=Ne.symm b1
 have g3:=Ne.symm b3
 have g4:=Ne.symm b4
 have g5:=Ne.symm b5
 have HA:=o_ hA
 have HA1:=o_ hA1
 have HR:=o_ hr
 have HWL:=o_ hwl
 have HBD:=o_ hb
 have vn:(v:Int)<(n:Int):=by omega
 clear hN hm hA hA1 hO1 hO2 hcu hback hr ihl ihr hw h3 h4 h5 hb hwl
 generalize hw0:w.set v 0=W0 at *
 generalize hw1:w.set v 1=W1 at *
 generalize ixN ns (.nd v l r)=k at *
 clear hw0 hw1
 refine am Tryz.func129 rfl Tryz.ntmps129 rfl fun Q hQ hQe=>?_
 (repeat'(first|refine Ctl ?_|((with_reducible refine k_ hK ?_);clear hK hE K E)|((with_reducible refine bZ (fun h=>?_) (fun h=>?_))<;>(try(exfalso;assumption)))|(((with_reducible first|refine ab fun K E hK hE=>?_|refine ae ey (w1) ?_|refine dP ?_))<;>(try simp(disch:=omega) only[go_sem,seval,k0,k1,s0,l0, *]))))
 refine ao vD w2 (fun a h=>?_)
 obtain⟨u1,oa⟩:=a
 obtain⟨hA3,hF3⟩:=h
 dsimp only at hA3 hF3 ⊢
 have hA4:=hA3.setw W1 (by rw[<- l2,dJ])
 have w3:=HR.out _ _ _ hA4.1 (by rw[p_];have:=HBD.out;omega)
 have p4:=hA3.ww
 have p5:=hA3.c
 have p6:=hA3.k
 have HF3:=o_ hF3
 have HA3:=o_ hA3
 have HA4:=o_ hA4
 clear w1 w2 o1 o3 o4 o5 o6 hA3 hF3 hA4 s0
 simp only[go_sem,seval]
 (repeat'(first|refine Ctl ?_|((with_reducible refine k_ hK ?_);clear hK hE K E)|(((with_reducible first|refine ab fun K E hK hE=>?_|refine dP ?_))<;>(try simp(disch:=omega) only[go_sem,seval,s1,l1, *]))))
 refine ao vD w3 (fun a h=>?_)
 obtain⟨u2,ob⟩:=a
 obtain⟨hA5,hF5⟩:=h
 dsimp only at hA5 hF5 ⊢
 have hA6:=hA5.setw w HWL.out
 have p4:=hA5.ww
 have p5:=hA5.c
 have HA5:=o_ hA5
 have HA6:=o_ hA6
 have HF5:=o_ hF5
 clear w3 p6 hA5 hF5 hA6 s1
 simp only[go_sem,seval]
 (repeat'(first|((with_reducible refine k_ hK ?_);clear hK hE K E)|(((with_reducible first|refine ab fun K E hK hE=>?_|refine dP ?_))<;>(try simp(disch:=omega) only[go_sem,seval,s2,l2, *]))))
 (refine d5 nL hQ ?_)
 refine⟨_,_,Wk.refl _,Fg.refl _,(_,ob),rfl,rfl,?_,?_⟩
 ·have:=HA6.out.1
  rw[List.append_assoc]at this
  exact this
 ·have nf:∀{u:St} {w':TZ} {rows':TX} {o':Own},CubS u J n B ns mk most w' rows' o'->u J.bo≠.free/\u J.w≠.free:=fun h=>⟨by rw[h.ro];simp,by rw[h.c];simp⟩
  have f1:=HA1.out.2.trans HF3.out (nf HA1.out.1).1 (nf HA1.out.1).2
  have f2:=f1.trans HA4.out.2 (nf HA3.out).1 (nf HA3.out).2
  have f3:=f2.trans HF5.out (nf HA4.out.1).1 (nf HA4.out.1).2
  exact f3.trans HA6.out.2 (nf HA5.out).1 (nf HA5.out).2
theorem vV {n B:Nat}{ns:Td}{mk:Int}{J:CubB}{most:Nat}(hN:NsOk n ns)(hn:n<=256)(hm2:most<=16384):∀(t:Tr) {s:St} {m:Nat} {w:TZ} {rows:TX} {o:Own},t∈ns->OkT n m t->CubS s J n B ns mk most w rows o->OpenW m w->rows.length+(cB t w).length<=most->pI s J n B ns mk most w rows o t
 |.lf false,s,m,w,rows,o,hm,ho,hA,hw,hb=>zl hA hN
 |.lf true,s,m,w,rows,o,hm,ho,hA,hw,hb=>Ct hA hN hn hb hm2
 |.nd v l r,s,m,w,rows,o,hm,ho,hA,hw,hb=>by
  obtain⟨hl,hr⟩:=hN.ch _ _ _ hm
  exact FD hA hN hm ho hw hb (fun a b c=>vV hN hn hm2 l hl ho.2.2.2.1 a b c) (fun a b c=>vV hN hn hm2 r hr ho.2.2.2.2 a b c)
def fI (n i:Nat):TZ:=(List.range n).map fun j=>if j<i then 2 else 0
theorem rV {n i:Nat}:(fI n i).length=n:=by simp[fI]
theorem zt {n i:Nat}(h:i<n):(fI n i).set i 2=fI n (i+1):=by
 apply List.ext_getElem
 ·simp[fI]
 ·intro j h1 h2
  simp only[fI,List.getElem_set,List.getElem_map,List.getElem_range]
  by_cases e:i=j
  ·subst e;simp
  ·rw[if_neg e]
   by_cases e2:j<i
   ·rw[if_pos e2,if_pos (by omega)]
   ·rw[if_neg e2,if_neg (by omega)]
theorem zw {n:Nat}:fI n n=List.replicate n 2:=by
 apply List.ext_getElem
 ·simp[fI]
 ·intro j h1 h2
  simp only[fI,List.getElem_map,List.getElem_range,List.getElem_replicate]
  rw[if_pos (by simpa [fI]using h1)]
theorem zu {n:Nat}:List.replicate n (VV.int .i64 0)=aM (fI n 0):=by
 apply List.ext_getElem
 ·simp[fI,aM]
 ·intro j h1 h2
  simp[fI,aM]
theorem Cm {s:St}{p g q n B:Nat}{ns:Td}{mk:Int}(hM:NMem s p g q n B ns mk 0)(hN:NsOk n ns)(hn:n<=256)(hBs:ns.length<=1048576){t:Tr}(ht:t∈ns){most:Nat}(hm:most<=16384)(hc:(cB t (List.replicate n 2)).length<=most) :
  SRet Tryz.prog 103 [.ptr p 0,.int .i64 (ixN ns t:Nat),.int .i64 most] s (.tup [.lst (cu (cB t (List.replicate n 2))) .no,.int .i64 0]) s:=by
 have hpf:s p≠.free:=by rw[hM.o];simp
 have hgf:s g≠.free:=by rw[hM.r];simp
 have hoff:∀(u:St),(∀z,s z≠.free->u z=s z)->NMem u p g q n B ns mk 0:=fun u hu=>⟨by rw[hu p hpf];exact hM.o,by rw[hu g hgf];exact hM.r⟩
 have wl:=fun(u:St) (h:NMem u p g q n B ns mk 0)=>vT u p g q n B ns mk 0 h
 have wv:=fun(u:St) (h:NMem u p g q n B ns mk 0)=>kI u p g q n B ns mk 0 h
 have wm:=fun(u:St) (h:NMem u p g q n B ns mk 0)=>Cl u p g q n B (ixN ns t) ns t mk 0 h (bS ht)
 have wc:=fun(u:St) (J:CubB) (h:CubS u J n B ns mk most (List.replicate n 2) [] .full)=>vV hN hn hm t (m:=0) ht (hN.ok t ht) h (fun v _ hv=>by rw[List.length_replicate]at hv;rw[List.getElem?_replicate,if_pos hv]) (by simpa using hc)
 unfold pI at wc
 have hlen2:=hN.len
 have hz:¬ ((ns.length:Nat):Int)=0:=by omega
 have hm1:¬ (most:Int)<0:=by omega
 have hm3:¬ (most:Int) > 16384:=by omega
 have hm4:¬ (16384:Int)<(most:Int):=by omega
 have HM:=o_ hM
 have HOFF:=o_ hoff
 have WL:=o_ wl
 have WV:=o_ wv
 have WM:=o_ wm
 have WC:=o_ wc
 clear hM hoff wl wv wm wc ht hN hc hlen2
 generalize ixN ns t=k at *
 refine am Tryz.func103 rfl Tryz.ntmps103 rfl fun Q hQ hQe=>?_
 (repeat'(first|(with_reducible refine aR 1 ?_)|refine Ctl ?_|((with_reducible refine k_ hK ?_);clear hK hE K E)|((first|(with_reducible refine ab fun K E hK hE=>?_)|((with_reducible refine au (fun b hb=>?_));(repeat(obtain⟨_,hb⟩:=hb))))<;>(try simp(disch:=omega) only[go_sem,seval, *]))))
 unfold bC
 refine bE fun S hS=>?_
 rename_i b3 hb3 _ _
 obtain⟨b5,hb5⟩:∃z,z=b:=⟨_,rfl⟩
 subst hb5
 have hsb5:s b5=.free:=by assumption
 have k3:S b3=.obj 54 [.ptr p 0]:=by rw[hS];simp only[St.set,if_true,if_false, *]
 have k5:S b5=.obj 3 [.int .i64 most]:=by rw[hS];simp only[St.set,if_true,if_false, *]
 have kf:∀z,s z≠.free->S z=s z:=fun z hz=>by rw[hS,j_ _ _ (nef hsb5 hz).1,j_ _ _ (nef hb3 hz).1]
 have hnm:=HOFF.out S kf
 have wl:=WL.out S hnm
 have wv:=WV.out S hnm
 have wm:=WM.out S hnm
 have KF:=o_ kf
 have HS5:=o_ hsb5
 have HS3:=o_ hb3
 clear hS hb hsb5 hb3 kf hnm
 (repeat'(first|(with_reducible refine aR 7 ?_)|refine Ctl ?_|((with_reducible refine k_ hK ?_);clear hK hE K E)|((with_reducible refine bZ (fun h=>?_) (fun h=>?_))<;>(try(exfalso;assumption)))|((first|(with_reducible first|refine ab fun K E hK hE=>?_|refine ae BG (wl) ?_|refine ae BN (wm) ?_|refine ae oX (wv) ?_|refine iY ?_)|((with_reducible refine au (fun b hb=>?_));(repeat(obtain⟨_,hb⟩:=hb))))<;>(try simp(disch:=omega) only[go_sem,seval,hz,hm1,hm3,hm4,Int.toNat_natCast, *]))))
 unfold bC
 refine bE fun S1 hS1=>?_
 rename_i W hW _ _
 obtain⟨b9,hb9⟩:∃z,z=b:=⟨_,rfl⟩
 subst hb9
 have hSb9:S b9=.free:=by assumption
 have jW:S1 W=.obj 3 (aM (fI n 0)):=by rw[hS1,<- zu];simp only[St.set,if_true,if_false, *]
 have j9:S1 b9=.obj 28 [.msl W n]:=by rw[hS1];simp only[St.set,if_true,if_false, *]
 have jf:∀z,S z≠.free->S1 z=S z:=fun z hz=>by rw[hS1,j_ _ _ (nef hSb9 hz).1,j_ _ _ (nef hW hz).1]
 have j3:S1 b3=.obj 54 [.ptr p 0]:=by rw[jf b3 (by rw[k3];simp),k3]
 have j5:S1 b5=.obj 3 [.int .i64 most]:=by rw[jf b5 (by rw[k5];simp),k5]
 have hself:S1=S1.set W (.obj 3 (aM (fI n 0))):=(v_ _ _ _ jW).symm
 have JF:=o_ jf
 have HSW:=o_ hW
 have HS9:=o_ hSb9
 have d93:¬ b9=b3:=(nef hSb9 (a:=b3) (by rw[k3];simp)).2
 have d95:¬ b9=b5:=(nef hSb9 (a:=b5) (by rw[k5];simp)).2
 have dW3:¬ W=b3:=(nef hW (a:=b3) (by rw[k3];simp)).2
 have dW5:¬ W=b5:=(nef hW (a:=b5) (by rw[k5];simp)).2
 have hll:=fun i=>(dJ (l:=fI n i)).trans rV
 have HLL:=o_ hll
 have HSELF:=o_ hself
 clear hS1 hb hW hSb9 jf k3 k5 wl wv wm hll hself
 (repeat'(first|refine Ctl ?_|((with_reducible refine k_ hK ?_);clear hK hE K E)|(((with_reducible refine ab fun K E hK hE=>?_))<;>(try simp(disch:=omega) only[go_sem,seval, *]))))
 refine bV (fun m env s'=>∃(i:Nat),i<=n/\m+i=n/\s'=S1.set W (.obj 3 (aM (fI n i)))/\env 1=.int .i64 k/\env 3=.ptr b3 0/\env 5=.ptr b5 0/\env 9=.ptr b9 0/\env 35=.int .i64 n/\env 36=.int .i64 i) n ?_ ?_
 ·exact⟨_,Fg.refl _,0,by omega,by omega,HSELF.out,ac,ac,ac,ac,ac,ac⟩
 rintro m env s' ⟨i,hi,hmi,rfl,e1,e3,e5,e9,e35,e36⟩
 by_cases h2:i<n
 ·have hst:=jV (l:=fI n i) (i:=i) (n:=2) (by rw[rV];exact h2)
  rw[zt h2]at hst
  have hl:=HLL.out i
  generalize aM (fI n i)=X at *
  obtain⟨Y,hY⟩:∃Y,Y=aM (fI n (i+1)):=⟨_,rfl⟩
  rw[<- hY]at hst
  have HY:=o_ hY
  clear hY
  (repeat'(first|refine Ctl ?_|((with_reducible refine k_ hK ?_);clear hK hE K E)|((with_reducible refine bZ (fun h=>?_) (fun h=>?_))<;>(try(exfalso;assumption)))|(((with_reducible first|refine ab fun K E hK hE=>?_|refine dP ?_))<;>(try simp(disch:=omega) only[go_sem,seval,hst,hl, *]))))
  all_goals exact⟨_,Fg.refl _,m - 1,by omega,i+1,by omega,by omega,by rw[<- HY.out],ac,ac,ac,ac,ac,ac⟩
 ·obtain rfl:i=n:=by omega
  rw[zw]
  (repeat'(first|(with_reducible refine aR 16 ?_)|refine Ctl ?_|((with_reducible refine k_ hK ?_);clear hK hE K E)|((with_reducible refine bZ (fun h=>?_) (fun h=>?_))<;>(try(exfalso;assumption)))|((first|(with_reducible refine ab fun K E hK hE=>?_)|((with_reducible refine au (fun b hb=>?_));(repeat(obtain⟨_,hb⟩:=hb))))<;>(try simp(disch:=omega) only[go_sem,seval, *]))))
  unfold bC
  refine bE fun S2 hS2=>?_
  rename_i b11 _ _ hb11 b12 _ _ _ _ hb12 _ _ _ _ _ _
  obtain⟨b13,hb13⟩:∃z,z=b:=⟨_,rfl⟩
  subst hb13
  have hSb13:S1 b13=.free:=by assumption
  have hf2:∀z,S1 z≠.free->z≠W->S2 z=S1 z:=fun z hz h=>by rw[hS2,j_ _ _ (nef hSb13 hz).1,j_ _ _ (nef hb12 hz).1,j_ _ _ (nef hb11 hz).1,j_ _ _ h]
  have n3:S1 b3≠.free:=by rw[j3];simp
  have n5:S1 b5≠.free:=by rw[j5];simp
  have n9:S1 b9≠.free:=by rw[j9];simp
  have hsS2:∀z,s z≠.free->z≠W/\z≠b11/\S2 z=s z:=fun z hz=>by
   have e1:=KF.out z hz
   have e2:S z≠.free:=by rw[e1];exact hz
   have e3:=JF.out z e2
   have e4:S1 z≠.free:=by rw[e3];exact e2
   have e5:=(nef HSW.out e2).1
   exact⟨e5,(nef hb11 e4).1,by rw[hf2 z e4 e5,e3,e1]⟩
  have hC:CubS S2 ⟨p,g,q,b12,b11,b5,b9,b3,b13,W⟩ i B ns mk most (List.replicate i 2) [] .full:=by
   refine⟨HOFF.out S2 fun z hz=>(hsS2 z hz).2.2,?_,?_,?_,?_,?_,?_,?_,by simp,.inl ⟨rfl,rfl⟩,‹_›,⟨?_,(nef hb11 n5).2,(nef hb11 n9).2,(nef hb11 n3).2,?_⟩,⟨?_,dW5,?_,dW3,?_⟩⟩
   ·rw[hS2];simp only[St.set,if_true,if_false, *]
   ·rw[hS2];simp only[St.set,if_true,if_false, *];rfl
   ·rw[hf2 b5 n5 (Ne.symm dW5)];exact j5
   ·rw[hf2 b9 n9 (‹_›)];exact j9
   ·rw[hf2 b3 n3 (Ne.symm dW3)];exact j3
   ·rw[hS2];simp only[St.set,if_true,if_false, *]
   ·rw[hS2];simp only[St.set,if_true,if_false, *]
   all_goals assumption
  have w3:=WC.out _ _ hC
  have q13:=hC.k
  have HSS:=o_ hsS2
  dsimp only at w3 q13
  rw[List.nil_append]at w3
  clear hS2 hC hsS2 hf2 hSb13 hb hb11 hb12 n3 n5 n9 j3 j5 j9 jW
  (repeat'((((with_reducible refine ab fun K E hK hE=>?_))<;>(try simp(disch:=omega) only[go_sem,seval, *]))))
  refine ao vD w3 (fun a h=>?_)
  obtain⟨u,o'⟩:=a
  obtain⟨hC3,hF3⟩:=h
  dsimp only at hC3 hF3 ⊢
  have p11:=hC3.ro
  have p12:=hC3.f
  dsimp only at p11 p12
  have hfin:Fg u s:=fun z=>by
   by_cases hz:s z=.free
   ·exact .inl hz
   ·obtain⟨a1,a2,a3⟩:=HSS.out z hz
    exact .inr (by rw[<- a3];exact(hF3.fr z (by rw[a3];exact hz) a2 a1 (fun y hy=>by cases hy)).symm)
  have HFIN:=o_ hfin
  clear w3 q13 hC3 hF3 hfin
  simp only[go_sem,seval]
  (repeat'(first|refine Ctl ?_|((with_reducible refine k_ hK ?_);clear hK hE K E)|((with_reducible refine bZ (fun h=>?_) (fun h=>?_))<;>(try(exfalso;assumption)))|(((with_reducible refine ab fun K E hK hE=>?_))<;>(try simp(disch:=omega) only[go_sem,seval, *]))))
  all_goals(refine aq At hQ ?_)
  exact⟨_,_,Wk.tupQ,HFIN.out,rfl,rfl⟩
theorem lC {P:Program}{N:Nat}{D:List Deferred}{c:Code}{k:List Itm}{Q:Pst}{env:Env}{s:St}(t:Nat){x y:VV}(ht:env t=x)(hw:Wk x y)(h:Kp P N D (.code c::k) Q .norm (upd env t y) s):Kp P N D (.code c::k) Q .norm env s:=
 fun w0 G w a hfr hD hS=>h w0 G w a ⟨hfr.size,fun i=>by
  by_cases e:i=t
  ·subst e
   simp only[upd,if_true]
   exact hw _ _ (ht ▸ hfr.rel i)
  ·simp only[upd,if_neg e]
   exact hfr.rel i⟩ hD hS
theorem Wk.rawnil:Wk (.raw (.slice none 0 0)) (.lst [] .no):=fun G v h=>by
 cases h
 exact .emp none 0 .no (.inl rfl)
section
variable {P : Program} {N : Nat} {D : List Deferred} {c : Code} {k : List Itm} {Q : Pst} {env : Env} {s : St}
theorem kK (t g n:Nat){T:TypeId}{xs:Tb}(hb:s g=.row T 1 xs)(ht:env t=.mrw g n)(hn:xs.length=n)
  (h:Kp P N D (.code c::k) Q .norm (upd env t (.lst (xs.map fun y=>[y]) .no)) (s.set g .free)):Kp P N D (.code c::k) Q .norm env s:=by
 intro w0 G w a hfr hD hS
 obtain⟨G',hle,hS',hK,_⟩:=hS.frzR hb
 refine wp_mono (h w0 G' w a ⟨hfr.size,fun i=>?_⟩ hD hS') fun e a w=>Up.back hle
 by_cases e:i=t
 ·subst e
  have hr:=(hfr.rel i).mono hle
  rw[ht]at hr
  simp only[upd,if_true]
  exact hr.frz hn hK
 ·simp only[upd,if_neg e]
  exact(hfr.rel i).mono hle
theorem iR (t:Nat)(ht:env t=.lst [] .full)(h:Kp P N D (.code c::k) Q .norm (upd env t (.raw (.slice none 0 0))) s):Kp P N D (.code c::k) Q .norm env s:=by
 refine lC t ht (fun G v hr=>?_) h
 cases hr with
 |emp a cap o ho=>
  rcases ho with ho|⟨_,rfl,rfl⟩
  ·cases ho
  ·exact .raw _
 |lst b off len cap sz xs o f hl hc hz h1 hK hR ho=>
  simp at hl
  subst hl
  rcases ho with ho|⟨_,_,h0⟩|⟨ho,_⟩
  ·cases ho
  ·omega
  ·cases ho
end
theorem qC {f:Nat->TW}(hf:∀m,0<(f m).length):∀(all:TW),all.length<=(all.flatMap f).length
 |[]=>Nat.le_refl _
 |m::r=>by
  have:=qC hf r
  have:=hf m
  simp only[List.flatMap_cons,p_,List.length_cons]
  omega
theorem x7 {c:TZ}{i v m:Nat}:0<((if (c[v]?).getD 0≠1 then [m] else [])++(if (c[v]?).getD 0≠0 then [m+2 ^ i] else [])).length:=by
 by_cases h1:(c[v]?).getD 0≠1
 ·rw[if_pos h1];simp only[p_,List.length_singleton];omega
 ·rw[if_neg h1,if_pos]
  ·simp
  ·intro h2
   rw[h2]at h1
   exact h1 (by decide)
theorem ul {c:TZ}{i v:Nat}{all:TW}:all.length<=(bI c i v all).length:=qC (fun m=>x7) all
theorem qD {c:TZ}:∀{vs:TW} {i:Nat} {all:TW},all.length<=(iq c i vs all).length
 |[],i,all=>Nat.le_refl _
 |v::vs,i,all=>Nat.le_trans ul (qD (vs:=vs))
theorem x8 {c:TZ}{i v m:Nat}{all:TW}:bI c i v (all++[m])=bI c i v all++((if (c[v]?).getD 0≠1 then [m] else [])++(if (c[v]?).getD 0≠0 then [m+2 ^ i] else [])):=by
 simp only[bI,List.flatMap_append,List.flatMap_cons,List.flatMap_nil,List.append_nil]
theorem lI {c:TZ}{i v:Nat}:∀{all:TW},(bI c i v all).length<=2 * all.length
 |[]=>Nat.le_refl _
 |m::r=>by
  have:=lI (c:=c) (i:=i) (v:=v) (all:=r)
  simp only[bI,List.flatMap_cons,p_,List.length_cons]at this ⊢
  have h1:∀(p:Prop) [Decidable p] (x:Nat),(if p then [x] else []).length<=1:=fun p _ x=>by split<;>simp
  have a:=h1 ((c[v]?).getD 0≠1) m
  have b:=h1 ((c[v]?).getD 0≠0) (m+2 ^ i)
  omega
theorem Lr {m i:Nat}(h:m<2 ^ i)(hi:i<=61):bF .or .i64 (m:Int) ((2 ^ i:Nat):Int)=some (.int .i64 ((m+2 ^ i:Nat):Int)):=by
 have hle:2 ^ i<=2 ^ 61:=Nat.pow_le_pow_right (by omega) hi
 have e1:m ||| 2 ^ i=m+2 ^ i:=by
  have:=Nat.two_pow_add_eq_or_of_lt h 1
  rw[Nat.mul_one]at this
  rw[Nat.or_comm,<- this,Nat.add_comm]
 have e:(BitVec.ofInt IntKind.i64.bits (m:Int) ||| BitVec.ofInt IntKind.i64.bits ((2 ^ i:Nat):Int)).toNat=m+2 ^ i:=by
  rw[BitVec.toNat_or]
  simp only[IntKind.bits]
  rw[BitVec.ofInt_natCast,BitVec.ofInt_natCast,BitVec.toNat_ofNat,BitVec.toNat_ofNat,Nat.mod_eq_of_lt (by omega),Nat.mod_eq_of_lt (by omega),e1]
 simp only[bF]
 unfold bOr
 rw[e,bT (by omega) (by omega)]
theorem qv:∀{l:TZ},(aI l).flatten=aM l
 |[]=>rfl
 |x::l=>by
  have:=qv (l:=l)
  simp only[aI,aM,List.map_cons,List.flatten_cons]at this ⊢
  rw[this]
  rfl
theorem dV {l:TW}{m:Nat}:ak (l++[m])=ak l++[[.int .i64 (m:Int)]]:=by simp[ak]
def dw (L:TX)(vs:TW)(j:Nat):TW:=(L.take j).flatMap fun c=>iq c 0 vs [0]
theorem yq {L:TX}{vs:TW}{j:Nat}{c:TZ}(h:L[j]?=some c):dw L vs (j+1)=dw L vs j++iq c 0 vs [0]:=by
 unfold dw
 rw[List.take_add_one,h]
 simp
def OutS (s u:St)(x:VV)(j:Nat)(O:TW):Prop:=
 (j=0/\O=[]/\u=s/\x=.raw (.slice none 0 0))\/(0<j/\∃g,s g=.free/\u=s.set g (.row 3 1 (aM (O.map fun(k:Nat)=>(k:Int))))/\x=.mrw g O.length)
attribute [-go_sem] bJ cX bH bG
theorem Fz {s:St}{p g q n B:Nat}{ns:Td}{mk:Int}(hM:NMem s p g q n B ns mk 0)(hN:NsOk n ns)(hn:n<=256)(hBs:ns.length<=1048576){t:Tr}(ht:t∈ns){vs:TW}(hv:vs.Nodup)(hlt:∀v,v∈vs->v<n)(hoc:∀v,dh v t=true->v∈vs)(h61:vs.length<=61){most:Nat}(hm:most<=16384)(hc:(dC t vs).length<=most) :
  SRet Tryz.prog 69 [.ptr p 0,.int .i64 (ixN ns t:Nat),.lst (ak vs) .no,.int .i64 most] s (.tup [.lst (ak (dC t vs)) .no,.int .i64 0]) s:=by
 have hot:=hN.ok t ht
 have hI:InV vs t:=mK hoc
 have hol:=AH hot hI hv hlt
 have hcl:(cB t (List.replicate n 2)).length<=16384:=by
  have:=E2 (t:=t) (w:=List.replicate n 2) (vs:=vs)
  omega
 have w1:=MV hM hN hn hBs ht hv hlt hoc h61
 have w2:=Cm hM hN hn hBs ht (Nat.le_refl 16384) hcl
 have hfin:=fun(l:TW) h1 h2=>CM (l:=l) hot hI hv hlt h1 h2
 have hcc:∀c,c∈cB t (List.replicate n 2)->c.length=n/\(iq c 0 vs [0]).length<=16384:=fun c h=>⟨kv hot (by simp) h,by
  have:(iq c 0 vs [0]).length<=(jL t (List.replicate n 2) vs).length:=by
   obtain⟨a,b,e⟩:=List.append_of_mem h
   unfold jL
   rw[e,List.flatMap_append,List.flatMap_cons,p_,p_]
   omega
  omega⟩
 have hup:∀j,(dw (cB t (List.replicate n 2)) vs j).length<=16384:=fun j=>by
  have:(dw (cB t (List.replicate n 2)) vs j).length<=(jL t (List.replicate n 2) vs).length:=by
   unfold jL dw
   conv=>rhs;rw[<- List.take_append_drop j (cB t (List.replicate n 2)),List.flatMap_append,p_]
   omega
  omega
 have hall:dw (cB t (List.replicate n 2)) vs (cB t (List.replicate n 2)).length=jL t (List.replicate n 2) vs:=by unfold jL dw;rw[b_]
 rw[<- hall]at hfin
 have hat:=fun(i k:Nat) (h:vs[i]?=some k)=>aH h
 have hln:(ak vs).length=vs.length:=natsL_len
 have hln62:¬ ((ak vs).length:Int) > 62:=by rw[hln];omega
 have hm1:¬ (most:Int)<0:=by omega
 have hm3:¬ (most:Int) > 16384:=by omega
 have hc1:¬ (((dC t vs).length:Nat):Int) > (most:Int):=by omega
 have hlt2:∀i v,vs[i]?=some v->v<n:=fun i v h=>hlt v (y_ h)
 have hrl:=jl (rows:=cB t (List.replicate n 2))
 have hra:=fun i r h=>qP (rows:=cB t (List.replicate n 2)) (i:=i) (r:=r) h
 clear hM hN hI hoc hot hol hall ht
 generalize cB t (List.replicate n 2)=CL at *
 generalize hSV:dC t vs=SV at *
 generalize hSL:SV.length=sl at *
 generalize ixN ns t=k at *
 generalize ak vs=V at *
 generalize hLL:cu CL=LL at *
 have HAT:=o_ hat
 have HLT:=o_ hlt2
 have HRA:=o_ hra
 have HCC:=o_ hcc
 have HUP:=o_ hup
 have HFIN:=o_ hfin
 clear hat hlt hlt2 hra hcc hup hfin hLL hSL hSV hc hv
 rw[hln]at hln62
 refine am Tryz.func69 rfl Tryz.ntmps69 rfl fun Q hQ hQe=>?_
 (repeat'(first|(with_reducible refine aR 12 ?_)|refine Ctl ?_|((with_reducible refine k_ hK ?_);clear hK hE K E)|((with_reducible refine bZ (fun h=>?_) (fun h=>?_))<;>(try(exfalso;assumption)))|(((with_reducible first|refine ab fun K E hK hE=>?_|refine ae Mr (w1) ?_|refine ae Mq (w2) ?_))<;>(try simp(disch:=omega) only[go_sem,seval,hln62,hm1,hm3,hc1,hln, *]))))
 unfold bC
 refine iR 13 (ac) ?_
 (repeat'(first|refine Ctl ?_|((with_reducible refine k_ hK ?_);clear hK hE K E)|(((with_reducible refine ab fun K E hK hE=>?_))<;>(try simp(disch:=omega) only[go_sem,seval,hrl, *]))))
 refine bV (fun m env s'=>∃(j:Nat) (x:VV),j<=CL.length/\m+j=CL.length/\Hid (OutS s s' x j (dw CL vs j))/\env 2=.lst V .no/\env 13=x/\env 57=.lst LL .no/\env 58=.int .i64 CL.length/\env 59=.int .i64 j) CL.length ?_ ?_
 ·exact⟨_,Fg.refl _,0,_,by omega,by omega,o_ (.inl ⟨rfl,rfl,rfl,rfl⟩),ac,ac,ac,ac,ac⟩
 rintro m env u ⟨j,x,hj,hmj,HO,e2,e13,e57,e58,e59⟩
 by_cases h2:j<CL.length
 ·have hx:=HRA.out j _ (m_ h2)
  obtain⟨hcn,hce⟩:=HCC.out _ (List.getElem_mem h2)
  have hadd:=yq (vs:=vs) (m_ h2)
  have hulen:=HUP.out (j+1)
  generalize CL[j]=c at *
  have hcat:=fun(i:Nat) (z:Int) (h:c[i]?=some z)=>ej h
  simp only[cK]at hx
  generalize aI c=CV at *
  obtain⟨TG,hTG⟩:∃TG,TG=iq c 0 vs [0]:=⟨_,rfl⟩
  rw[<- hTG]at hadd hce
  have hl0:ak [0]=[[.int .i64 0]]:=rfl
  have HADD:=o_ hadd
  have HTG:=o_ hTG.symm
  have HCAT:=o_ hcat
  clear hadd hTG hcat
  (repeat'(first|refine Ctl ?_|((with_reducible refine k_ hK ?_);clear hK hE K E)|((with_reducible refine bZ (fun h=>?_) (fun h=>?_))<;>(try(exfalso;assumption)))|(((with_reducible refine ab fun K E hK hE=>?_))<;>(try simp(disch:=omega) only[go_sem,seval,hx,hln, *]))))
  refine bV (fun m2 env s'=>∃(i:Nat) (al:TW) (oA:Own),i<=vs.length/\m2+i=vs.length/\Hid (iq c i (vs.drop i) al=TG/\al.Nodup/\0<al.length/\∀m,m∈al->m<2 ^ i)/\s'=u/\env 2=.lst V .no/\env 13=x/\env 57=.lst LL .no/\env 58=.int .i64 CL.length/\env 59=.int .i64 j/\env 15=.lst CV .no/\env 16=.lst (ak al) oA/\env 64=.lst V .no/\env 65=.int .i64 vs.length/\env 66=.int .i64 i) vs.length ?_ ?_
  ·exact⟨_,Fg.refl _,0,[0],.full,by omega,by omega,o_ ⟨by rw[List.drop_zero];exact HTG.out,by simp,by simp,by simp⟩,rfl,ac,ac,ac,ac,ac,ac,by(rw[hl0];((try simp(disch:=assumption) only[go_sem,seval, *])<;>rfl)),ac,ac,ac⟩
  clear e2 e13 e57 e58 e59 hl0
  rintro m2 env s' ⟨i,al,oA,hi,hmi,HE,rfl,e2,e13,e57,e58,e59,e15,e16,e64,e65,e66⟩
  by_cases h3:i<vs.length
  ·have hvx:=HAT.out i _ (m_ h3)
   have hvn:=HLT.out i _ (m_ h3)
   have hdr:=c_ h3
   generalize vs[i]=v at *
   obtain⟨cv,hcv⟩:∃cv,c[v]?=some cv:=⟨_,m_ (by omega)⟩
   have hcx:=HCAT.out v cv hcv
   have HE2:Hid (iq c (i+1) (vs.drop (i+1)) (bI c i v al)=TG/\(bI c i v al).Nodup/\0<(bI c i v al).length/\∀m,m∈bI c i v al->m<2 ^ (i+1)):=by
    obtain⟨a1,a2,a3,a4⟩:=HE.out
    rw[hdr]at a1
    obtain⟨b1,b2⟩:=sf (c:=c) (v:=v) a2 a4
    exact o_ ⟨a1,b1,pP a3,b2⟩
   have hal:al.length<=16384:=by
    obtain⟨a1,a2,a3,a4⟩:=HE.out
    have:=qD (c:=c) (vs:=vs.drop i) (i:=i) (all:=al)
    rw[a1]at this
    omega
   have hnal:(ak al).length=al.length:=natsL_len
   have haat:=fun(i k:Nat) (h:al[i]?=some k)=>aH h
   have h4:=HE.out.2.2.2
   have H4:=o_ h4
   have HAAT:=o_ haat
   have hnn0:ak (bI c i v (al.take 0))=[]:=rfl
   have hi61:i<=61:=by omega
   have hsh:=jD (k:=i) (by omega)
   have hstep:=fun(j m:Nat) (h:al[j]?=some m)=>show bI c i v (al.take (j+1))=bI c i v (al.take j)++((if cv≠1 then [m] else [])++(if cv≠0 then [m+2 ^ i] else [])) by
    rw[List.take_add_one,h]
    have:=x8 (c:=c) (i:=i) (v:=v) (m:=m) (all:=al.take j)
    rw[hcv]at this
    exact this
   have hor:=fun(m:Nat) (h:m<2 ^ i)=>Lr h hi61
   generalize hPP:2 ^ i=PP at *
   have HOR:=o_ hor
   have HSTEP:=o_ hstep
   have HPP:=o_ hPP
   clear hdr hcv haat h4 HE hPP hor hstep
   (repeat'(first|refine Ctl ?_|((with_reducible refine k_ hK ?_);clear hK hE K E)|((with_reducible refine bZ (fun h=>?_) (fun h=>?_))<;>(try(exfalso;assumption)))|(((with_reducible refine ab fun K E hK hE=>?_))<;>(try simp(disch:=omega) only[go_sem,seval,hvx,hnal, *]))))
   refine bV (fun m3 env s''=>∃(i3:Nat) (o3:Own),i3<=al.length/\m3+i3=al.length/\OwnOk s' o3 (bI c i v (al.take i3)).length/\s''=s'.own o3 3 1 (bI c i v (al.take i3)).length/\env 2=.lst V .no/\env 13=x/\env 57=.lst LL .no/\env 58=.int .i64 CL.length/\env 59=.int .i64 j/\env 15=.lst CV .no/\env 17=.int .i64 i/\env 18=.int .i64 v/\env 19=.lst (ak (bI c i v (al.take i3))) o3/\env 64=.lst V .no/\env 65=.int .i64 vs.length/\env 66=.int .i64 i/\env 71=.lst (ak al) oA/\env 72=.int .i64 al.length/\env 73=.int .i64 i3) al.length ?_ ?_
   ·exact⟨_,Fg.refl _,0,.full,by omega,by omega,rfl,rfl,ac,ac,ac,ac,ac,ac,ac,ac,by(rw[hnn0];((try simp(disch:=assumption) only[go_sem,seval, *])<;>rfl)),ac,ac,ac,ac,ac,ac⟩
   clear e2 e13 e57 e58 e59 e15 e16 e64 e65 e66 hnn0
   rintro m3 env s'' ⟨i3,o3,hi3,hm3,hO3,rfl,e2,e13,e57,e58,e59,e15,e17,e18,e19,e64,e65,e66,e71,e72,e73⟩
   by_cases h5:i3<al.length
   ·have hmx:=HAAT.out i3 _ (m_ h5)
    have hml:=H4.out _ (List.getElem_mem h5)
    have hst:=HSTEP.out i3 _ (m_ h5)
    have hlen3:(bI c i v (al.take i3)).length<=2 * 16384:=by
     have:=lI (c:=c) (i:=i) (v:=v) (all:=al.take i3)
     rw[r_]at this
     omega
    have hor:=HOR.out _ hml
    clear hml
    generalize al[i3]=mm at *
    generalize hNX:bI c i v (al.take i3)=nx at *
    have HNX:=o_ hNX
    clear hNX
    have hnxl:(ak nx).length=nx.length:=natsL_len
    by_cases c1:cv=1
    ·subst c1
     have hst2:bI c i v (al.take (i3+1))=nx++[mm+PP]:=by rw[hst];rfl
     have hnx2:ak (bI c i v (al.take (i3+1)))=ak nx++[[.int .i64 ((mm+PP:Nat):Int)]]:=by rw[hst2,dV]
     have hl2:(bI c i v (al.take (i3+1))).length=nx.length+1:=by rw[hst2];simp
     have HH:=o_ (And.intro hnx2 hl2)
     clear hst hst2 hnx2 hl2
     generalize mm+PP=mp at *
     generalize ak nx=NL at *
     generalize nx.length=ql at *
     (repeat'(first|refine Ctl ?_|((with_reducible refine k_ hK ?_);clear hK hE K E)|((with_reducible refine bZ (fun h=>?_) (fun h=>?_))<;>(try(exfalso;assumption)))|((first|(with_reducible refine ab fun K E hK hE=>?_)|((with_reducible refine fC (fun o2 ho=>?_));(try simp(disch:=assumption) only[bz,bB,cZ,c6,z_,List.length_cons,List.length_nil,Nat.zero_add,hmx,hcx,hsh,hor,hnxl]at ho)))<;>(try simp(disch:=first|assumption|omega) only[go_sem,seval,hmx,hcx,hsh,hor,hnxl, *]))))
     all_goals exact⟨_,Fg.refl _,m3 - 1,by omega,i3+1,o2,by omega,by omega,by rw[HH.out.2];exact ho,by rw[HH.out.2],ac,ac,ac,ac,ac,ac,ac,ac,by(rw[HH.out.1];((try simp(disch:=assumption) only[go_sem,seval, *])<;>rfl)),ac,ac,ac,ac,ac,ac⟩
    ·by_cases c0:cv=0
     ·subst c0
      have hst2:bI c i v (al.take (i3+1))=nx++[mm]:=by rw[hst];rfl
      have hnx2:ak (bI c i v (al.take (i3+1)))=ak nx++[[.int .i64 (mm:Int)]]:=by rw[hst2,dV]
      have hl2:(bI c i v (al.take (i3+1))).length=nx.length+1:=by rw[hst2];simp
      have HH:=o_ (And.intro hnx2 hl2)
      clear hst hst2 hnx2 hl2 c1
      generalize ak nx=NL at *
      generalize nx.length=ql at *
      (repeat'(first|refine Ctl ?_|((with_reducible refine k_ hK ?_);clear hK hE K E)|((with_reducible refine bZ (fun h=>?_) (fun h=>?_))<;>(try(exfalso;assumption)))|((first|(with_reducible refine ab fun K E hK hE=>?_)|((with_reducible refine fC (fun o2 ho=>?_));(try simp(disch:=assumption) only[bz,bB,cZ,c6,z_,List.length_cons,List.length_nil,Nat.zero_add,hmx,hcx,hnxl]at ho)))<;>(try simp(disch:=first|assumption|omega) only[go_sem,seval,hmx,hcx,hnxl, *]))))
      all_goals exact⟨_,Fg.refl _,m3 - 1,by omega,i3+1,o2,by omega,by omega,by rw[HH.out.2];exact ho,by rw[HH.out.2],ac,ac,ac,ac,ac,ac,ac,ac,by(rw[HH.out.1];((try simp(disch:=assumption) only[go_sem,seval, *])<;>rfl)),ac,ac,ac,ac,ac,ac⟩
     ·have hst2:bI c i v (al.take (i3+1))=(nx++[mm])++[mm+PP]:=by rw[hst,if_pos c1,if_pos c0,List.append_assoc]
      have hnx2:ak (bI c i v (al.take (i3+1)))=(ak nx++[[.int .i64 (mm:Int)]])++[[.int .i64 ((mm+PP:Nat):Int)]]:=by rw[hst2,dV,dV]
      have hl2:(bI c i v (al.take (i3+1))).length=nx.length+1+1:=by rw[hst2];simp
      have HH:=o_ (And.intro hnx2 hl2)
      clear hst hst2 hnx2 hl2
      generalize mm+PP=mp at *
      generalize ak nx=NL at *
      generalize nx.length=ql at *
      have hnx3:(NL++[[VV.int .i64 (mm:Int)]]).length=ql+1:=by rw[p_,hnxl];rfl
      (repeat'(first|refine Ctl ?_|((with_reducible refine k_ hK ?_);clear hK hE K E)|((with_reducible refine bZ (fun h=>?_) (fun h=>?_))<;>(try(exfalso;assumption)))|((first|(with_reducible refine ab fun K E hK hE=>?_)|((with_reducible refine fC (fun o2 ho=>?_));(try simp(disch:=assumption) only[bz,bB,cZ,c6,z_,List.length_cons,List.length_nil,Nat.zero_add,hmx,hcx,hsh,hor,hnxl,hnx3,c0,c1]at ho)))<;>(try simp(disch:=first|assumption|omega) only[go_sem,seval,hmx,hcx,hsh,hor,hnxl,hnx3,c0,c1, *]))))
      all_goals exact⟨_,Fg.refl _,m3 - 1,by omega,i3+1,o2,by omega,by omega,by rw[HH.out.2];exact ho,by rw[HH.out.2],ac,ac,ac,ac,ac,ac,ac,ac,by(rw[HH.out.1];((try simp(disch:=assumption) only[go_sem,seval, *])<;>rfl)),ac,ac,ac,ac,ac,ac⟩
   ·obtain rfl:i3=al.length:=by omega
    rw[b_]at hO3 e19 ⊢
    (repeat'(first|refine Ctl ?_|((with_reducible refine k_ hK ?_);clear hK hE K E)|((with_reducible refine bZ (fun h=>?_) (fun h=>?_))<;>(try(exfalso;assumption)))|(((with_reducible refine ab fun K E hK hE=>?_))<;>(try simp(disch:=omega) only[go_sem,seval, *]))))
    all_goals exact⟨_,Fg.own hO3,m2 - 1,by omega,i+1,bI c i v al,o3,by omega,by omega,HE2,rfl,ac,ac,ac,ac,ac,ac,ac,ac,ac,ac⟩
  ·have hiv:i=vs.length:=by omega
   subst hiv
   obtain⟨a1,a2,a3,a4⟩:=HE.out
   rw[B_]at a1
   have ha:al=TG:=a1
   subst ha
   have hnl:(ak al).length=al.length:=natsL_len
   have hne:ak al≠[]:=fun e=>by rw[e]at hnl;simp at hnl;omega
   have hone:∀y,y∈ak al->y.length=1:=fun y hy=>by
    obtain⟨z,_,rfl⟩:=A_.1 hy
    rfl
   have hfl:(ak al).flatten=aM (al.map fun(k:Nat)=>(k:Int)):=by rw[cA,qv]
   have hadd:=HADD.out
   rw[hadd,p_]at hulen
   have HH:=o_ hadd
   clear HE a1 a2 a3 a4 hadd HTG HADD h3
   rcases HO.out with ⟨h0,hO0,hu,hx0⟩|⟨h0,g,hg,hu,hx0⟩
   ·subst hu hx0 h0
    rw[hO0,List.nil_append]at HH
    clear HO hO0 hulen
    generalize ak al=AL at *
    (repeat'(first|refine Ctl ?_|((with_reducible refine k_ hK ?_);clear hK hE K E)|((with_reducible refine bZ (fun h=>?_) (fun h=>?_))<;>(try(exfalso;omega)))|((first|(with_reducible refine ab fun K E hK hE=>?_)|((with_reducible refine fG (fun bM hM=>?_))))<;>(try simp(disch:=omega) only[go_sem,seval,hnl,hfl,Nat.mul_one, *]))))
    exact⟨_,Fg.refl _,m - 1,by omega,0+1,_,by omega,by omega,o_ (.inr ⟨by omega,bM,hM,by rw[HH.out],by rw[HH.out]⟩),ac,ac,ac,ac,ac⟩
   ·subst hu hx0
    have hOl:=HUP.out j
    generalize hOO:dw CL vs j=O at *
    have hil:(aM (O.map fun(k:Nat)=>(k:Int))).length=O.length:=by rw[dJ,z_]
    have hap:aM ((O++al).map fun(k:Nat)=>(k:Int))=aM (O.map fun(k:Nat)=>(k:Int))++aM (al.map fun(k:Nat)=>(k:Int)):=by simp[aM]
    have HAP:=o_ hap
    have hsg:s.set g .free=s:=v_ _ _ _ hg
    clear hap HO hOO
    generalize aM (O.map fun(k:Nat)=>(k:Int))=OX at *
    generalize aM (al.map fun(k:Nat)=>(k:Int))=AX at *
    generalize ak al=AL at *
    (repeat'(first|refine Ctl ?_|((with_reducible refine k_ hK ?_);clear hK hE K E)|((with_reducible refine bZ (fun h=>?_) (fun h=>?_))<;>(try(exfalso;omega)))|((first|(with_reducible refine ab fun K E hK hE=>?_)|((with_reducible refine cJ (fun bM hM=>?_))))<;>(try simp(disch:=omega) only[go_sem,seval,hnl,hfl,Nat.mul_one,hil,hsg,St.set_set, *]))))
    exact⟨_,Fg.refl _,m - 1,by omega,j+1,_,by omega,by omega,o_ (.inr ⟨by omega,bM,hM,by rw[HH.out,HAP.out],by rw[HH.out,p_]⟩),ac,ac,ac,ac,ac⟩
 ·have hjc:j=CL.length:=by omega
  subst hjc
  rcases HO.out with ⟨h0,hO0,hu,hx0⟩|⟨h0,g,hg,hu,hx0⟩
  ·subst hu hx0
   have hsv:=HFIN.out [] (by rw[hO0]) (by simp)
   have ws:=tV u
   have HSV:=o_ hsv
   clear hsv HO hO0
   (repeat'(first|(with_reducible refine aR 33 ?_)|refine Ctl ?_|((with_reducible refine k_ hK ?_);clear hK hE K E)|((with_reducible refine bZ (fun h=>?_) (fun h=>?_))<;>(try(exfalso;assumption)))|(((with_reducible first|refine ab fun K E hK hE=>?_|refine ae BB (ws) ?_))<;>(try simp(disch:=omega) only[go_sem,seval, *]))))
   unfold bC
   refine lC 13 (x:=.raw (.slice none 0 0)) (y:=.lst [] .no) (ac) Wk.rawnil ?_
   (repeat'(first|refine Ctl ?_|((with_reducible refine k_ hK ?_);clear hK hE K E)|(((with_reducible refine ab fun K E hK hE=>?_))<;>(try simp(disch:=omega) only[go_sem,seval, *]))))
   all_goals(refine aq zX hQ ?_)
   rw[<- HSV.out]
   exact⟨_,_,Wk.refl _,Fg.refl _,rfl,rfl⟩
  ·subst hu hx0
   have hperm:(dw CL vs CL.length).mergeSort.Perm (dw CL vs CL.length):=List.mergeSort_perm _ _
   have hpw:(dw CL vs CL.length).mergeSort.Pairwise (·<=·):=by
    have:=List.pairwise_mergeSort (le:=fun a b:Nat=>decide (a<=b)) (fun a b c h1 h2=>by simp at *;omega) (fun a b=>by simp;omega) (dw CL vs CL.length)
    exact this.imp fun h=>by simpa using h
   have hsv:=HFIN.out _ hperm hpw
   have hrz:cR ((dw CL vs CL.length).map fun(k:Nat)=>(k:Int))=SV.map fun(k:Nat)=>(k:Int):=by
    rw[ii (hperm.symm.map _),hsv,sE]
    rw[List.pairwise_map]
    rw[hsv]at hpw
    exact hpw.imp fun h=>by omega
   have hsl:SV.length=(dw CL vs CL.length).length:=by rw[<- hsv];exact hperm.length_eq
   have hup:=HUP.out CL.length
   have ws:=xX (s.set g (.row 3 1 (aM ((dw CL vs CL.length).map fun(k:Nat)=>(k:Int))))) g 3 ((dw CL vs CL.length).map fun(k:Nat)=>(k:Int)) (by rw[z_];omega) (q_ _ _ _)
   rw[hrz,z_,St.set_set]at ws
   have hsg:s.set g .free=s:=v_ _ _ _ hg
   have hfz:(aM (SV.map fun(k:Nat)=>(k:Int))).map (fun y=>[y])=ak SV:=by simp[aM,ak,Function.comp]
   have hil:(aM (SV.map fun(k:Nat)=>(k:Int))).length=(dw CL vs CL.length).length:=by rw[dJ,z_,hsl]
   clear hperm hpw hsv hrz hsl HO
   generalize aM ((dw CL vs CL.length).map fun(k:Nat)=>(k:Int))=OX at *
   generalize (dw CL vs CL.length).length=ol at *
   generalize aM (SV.map fun(k:Nat)=>(k:Int))=SX at *
   generalize ak SV=SL at *
   (repeat'(first|(with_reducible refine aR 33 ?_)|refine Ctl ?_|((with_reducible refine k_ hK ?_);clear hK hE K E)|((with_reducible refine bZ (fun h=>?_) (fun h=>?_))<;>(try(exfalso;assumption)))|(((with_reducible first|refine ab fun K E hK hE=>?_|refine ae BB (ws) ?_))<;>(try simp(disch:=omega) only[go_sem,seval, *]))))
   unfold bC
   refine kK 13 g ol (q_ _ _ _) (ac) hil ?_
   rw[hfz,St.set_set,hsg]
   (repeat'(first|refine Ctl ?_|((with_reducible refine k_ hK ?_);clear hK hE K E)|(((with_reducible refine ab fun K E hK hE=>?_))<;>(try simp(disch:=omega) only[go_sem,seval, *]))))
   all_goals(refine aq zX hQ ?_)
   exact⟨_,_,Wk.refl _,Fg.refl _,rfl,rfl⟩
end Go.Proofs.YtohnaepcgnbaiaaGreatDoor
namespace Go.Proofs.YtohnaepcgnbaiaaGreatDoor
open Go.RowKit
def gQ (at_:TU)(ks:TW):TW:=ks.map fun k=>(at_.getD k []).length
def eD (wd:TW)(m:Nat):TZ:=(cz wd m).map fun(k:Nat)=>(k:Int)
theorem ni:∀{wd:TW} {m:Nat},(cz wd m).length=wd.length
 |[],_=>rfl
 |w::ws,m=>by simp only[cz,List.length_cons,ni]
theorem zP {wd:TW}{m:Nat}:(eD wd m).length=wd.length:=by rw[eD,z_,ni]
theorem r5 (at_:TU)(ks:TW):aj at_ ks=(ks.map fun k=>at_.getD k []).flatten:=rfl
theorem mS (at_:TU)(ks:TW):gQ at_ ks=(ks.map fun k=>at_.getD k []).map (·.length):=by simp[gQ,Function.comp]
theorem oL:∀{L:TU} {i j:Nat} {a b:TW},L.flatten.Nodup->L[i]?=some a->L[j]?=some b->i≠j->∀x,x∈a->x∈b->False
 |[],i,j,a,b,_,h,_,_=>by simp at h
 |c::L,i,j,a,b,hn,hi,hj,hne=>by
  rw[List.flatten_cons,List.nodup_append]at hn
  obtain⟨h1,h2,h3⟩:=hn
  have mem:∀{k:Nat} {d:TW},L[k]?=some d->∀x,x∈d->x∈L.flatten:=fun hk x hx=>List.mem_flatten.2 ⟨_,y_ hk,hx⟩
  cases i with
  |zero=>
   cases j with
   |zero=>exact absurd rfl hne
   |succ j=>
    simp at hi hj
    subst hi
    intro x hx hy
    exact h3 x hx x (mem hj x hy) rfl
  |succ i=>
   cases j with
   |zero=>
    simp at hi hj
    subst hj
    intro x hx hy
    exact h3 x hy x (mem hi x hx) rfl
   |succ j=>exact oL h2 (by simpa using hi) (by simpa using hj) (by omega)
theorem xr:∀{L:TU} {a:TW},L.flatten.Nodup->a∈L->a.Nodup
 |[],a,_,h=>by simp at h
 |c::L,a,hn,h=>by
  rw[List.flatten_cons,List.nodup_append]at hn
  rcases AT.1 h with rfl|h
  ·exact hn.1
  ·exact xr hn.2.1 h
theorem DOk.getD {n:Nat}{ds:TN}{at_:TU}(h:DOk n ds at_){k:Nat}(hk:k<ds.length):at_[k]?=some (at_.getD k [])/\(at_.getD k []).length<=30/\∀v,v∈at_.getD k []->v<n:=by
 obtain⟨nm,sz,l,h1,h2,h3,h4,h5,h6,h7⟩:=h.get hk
 have e:at_.getD k []=l:=by rw[List.getD_eq_getElem?_getD,h2];rfl
 rw[e]
 exact⟨h2,h6,h7⟩
theorem cr {n:Nat}{ds:TN}{at_:TU}(h:DOk n ds at_){ks:TW}(hn:ks.Nodup)(hk:∀k,k∈ks->k<ds.length):(aj at_ ks).Nodup:=by
 refine gC (fun k hm=>xr h.nd (y_ (h.getD (hk k hm)).1)) ?_
 refine List.Pairwise.imp_of_mem (fun {a b} ha hb hne x hx hy=>?_) hn
 exact oL h.nd (h.getD (hk a ha)).1 (h.getD (hk b hb)).1 hne x hx hy
theorem aJ {n:Nat}{ds:TN}{at_:TU}(h:DOk n ds at_){ks:TW}(hk:∀k,k∈ks->k<ds.length):∀v,v∈aj at_ ks->v<n:=fun v hv=>by
 obtain⟨k,hm,hv⟩:=List.mem_flatMap.1 hv
 exact(h.getD (hk k hm)).2.2 v hv
def gq (t:Tr)(at_:TU)(ks:TW):TX:=(dC t (aj at_ ks)).map (eD (gQ at_ ks))
theorem jb (t:Tr)(at_:TU)(ks:TW):(gq t at_ ks).Nodup:=by
 have h:=yd (t:=t) (ds:=ks.map fun k=>at_.getD k [])
 rw[<- r5,<- mS]at h
 have e:gq t at_ ks=((dC t (aj at_ ks)).map (cz (gQ at_ ks))).map (fun l=>l.map fun(k:Nat)=>(k:Int)):=by
  simp[gq,eD,Function.comp]
 rw[e,List.nodup_iff_pairwise_ne,List.pairwise_map]
 refine List.Pairwise.imp (fun {a b} hne he=>hne ?_) h
 exact(List.map_inj_right (fun x y h=>by omega)).1 he
theorem wH {m w:Nat}(hm:m<2 ^ 62)(hw:w<=62):bF .shr .i64 (m:Int) (w:Int)=some (.int .i64 ((m / 2 ^ w:Nat):Int)):=by
 have hp:((2:Int) ^ w)=((2 ^ w:Nat):Int):=by simp
 have h0:(0:Int)<=(w:Int):=Int.natCast_nonneg _
 simp only[bF,if_pos h0]
 have h1:min ((w:Int).toNat) IntKind.i64.bits=w:=by simp[IntKind.bits];omega
 rw[h1,hp,Int.fdiv_eq_ediv_of_nonneg _ (Int.natCast_nonneg _)]
 rfl
def RowS (s u:St)(x:VV)(j:Nat)(rows:TX):Prop:=
 (j=0/\rows=[]/\u=s/\x=.raw (.slice none 0 0))\/(0<j/\∃g,s g=.free/\u=s.set g (.row 28 1 (rows.map cK))/\x=.mrw g rows.length)
theorem BU {m w:Nat}(hw:w<=61):bF .and .i64 (m:Int) (((2 ^ w:Nat):Int) - 1)=some (.int .i64 ((m % 2 ^ w:Nat):Int)):=by
 have h:=rI hw (m:Int)
 have hle:2 ^ w<=2 ^ 61:=Nat.pow_le_pow_right (by omega) hw
 have hpos:0<2 ^ w:=Nat.two_pow_pos w
 rw[bT (by omega) (by omega)]at h
 rw[h]
 have:jw w (m:Int)=m % 2 ^ w:=by
  unfold jw
  have hp:((2:Int) ^ w)=((2 ^ w:Nat):Int):=by simp
  (rw[hp];omega)
 rw[this]
attribute [-go_sem] bJ cX bH bG
theorem qL {s:St}{KK:OB}{q c n B:Nat}{ns:Td}{ds:TN}{at_:TU}(hC:CMem s KK q c n B ns ds at_)(hD:DOk n ds at_)(hn:n<=256)(ks:TW)(ow:Own)(hks:∀k,k∈ks->k<ds.length)(hl:ks.length<=32)(hnd:ks.Nodup){t:Tr}(ht:t∈ns)
  (hoc:∀v,dh v t=true->v∈aj at_ ks) (h61:(aj at_ ks).length<=61) {most:Nat} (hm:most<=16384) (hc:(gq t at_ ks).length<=most) :
  SRet Tryz.prog 36 [.ptr c 0,.int .i64 (ixN ns t:Nat),.lst (ak ks) ow,.int .i64 most] s (.tup [.lst (cu (dO (gq t at_ ks))) .no,.int .i64 0]) s:=by
 have wv:=gK hC hD ks ow hks hl
 rw[if_pos hnd]at wv
 have hvn:=cr hD hnd hks
 have hvl:=aJ hD hks
 obtain⟨mk,hM⟩:=hC.om.st.mem
 have hsl:(gq t at_ ks).length=(dC t (aj at_ ks)).length:=by simp[gq]
 have we:=Fz hM hC.om.st.ok hn (by have:=hC.om.st.bd;omega) ht hvn hvl hoc h61 hm (by omega)
 obtain⟨d,cc,ho⟩:=hC.om.op
 have wq:=dD s q KK.o KK.s.p hC.qo
 have ws:=eU s KK.o KK.s.p d cc ho
 have hco:=hC.co
 have hnd2:=jb t at_ ks
 have hlt:∀m,m∈dC t (aj at_ ks)->m<2 ^ 61:=fun m h=>by
  have:=(fP.1 h).1
  exact Nat.lt_of_lt_of_le this (Nat.pow_le_pow_right (by omega) h61)
 have hat:=fun(i k:Nat) (h:ks[i]?=some k)=>aH h
 have hat2:=fun(i k:Nat) (h:(dC t (aj at_ ks))[i]?=some k)=>aH h
 have hA2:∀k,k∈ks->(atC at_)[k]?=some [.lst (ak (at_.getD k [])) .no]/\(at_.getD k []).length<=30:=fun k hk=>⟨pc (hD.getD (hks k hk)).1,(hD.getD (hks k hk)).2.1⟩
 have hln:(ak ks).length=ks.length:=natsL_len
 have hlv:(ak (aj at_ ks)).length=(aj at_ ks).length:=natsL_len
 have hls:(ak (dC t (aj at_ ks))).length=(dC t (aj at_ ks)).length:=natsL_len
 have hwl:(gQ at_ ks).length=ks.length:=by simp[gQ]
 have hwd:∀(i k:Nat),ks[i]?=some k->(gQ at_ ks)[i]?=some (at_.getD k []).length:=fun i k h=>by simp[gQ,h]
 have hm1:¬ (most:Int)<0:=by omega
 have hm3:¬ (most:Int) > 16384:=by omega
 have hv62:¬ ((aj at_ ks).length:Int) > 62:=by omega
 have htR:gq t at_ ks=(dC t (aj at_ ks)).map (eD (gQ at_ ks)):=rfl
 have hsle:(dC t (aj at_ ks)).length<=16384:=by omega
 clear hC hD hks hnd ht hoc h61 hvn hvl hM hc hsl
 generalize gq t at_ ks=TR at *
 generalize dC t (aj at_ ks)=SV at *
 generalize gQ at_ ks=wd at *
 generalize aj at_ ks=vs at *
 generalize ixN ns t=k at *
 generalize hVK:ak ks=VK at *
 generalize hVS:ak SV=VS at *
 generalize ak vs=VV' at *
 generalize hAC:atC at_=AC at *
 generalize dx ds=DC at *
 have HAT:=o_ hat
 have HAT2:=o_ hat2
 have HA2:=o_ hA2
 have HLT:=o_ hlt
 have HWD:=o_ hwd
 have HND:=o_ hnd2
 have HTR:=o_ htR
 clear hat hat2 hA2 hlt hwd hnd2 htR hVK hVS hAC ho
 rw[<- hlv]at hv62
 refine am Tryz.func36 rfl Tryz.ntmps36 rfl fun Q hQ hQe=>?_
 (repeat'(first|(with_reducible refine aR 8 ?_)|refine Ctl ?_|((with_reducible refine k_ hK ?_);clear hK hE K E)|((with_reducible refine bZ (fun h=>?_) (fun h=>?_))<;>(try(exfalso;first|assumption|omega)))|(((with_reducible first|refine ab fun K E hK hE=>?_|refine ae qH (wv) ?_|refine ae dK (wq) ?_|refine ae iv (ws) ?_|refine ae P5 (we) ?_))<;>(try simp(disch:=omega) only[go_sem,seval,hv62,hm1,hm3,hln, *]))))
 unfold bC
 refine iR 13 (ac) ?_
 (repeat'(first|refine Ctl ?_|((with_reducible refine k_ hK ?_);clear hK hE K E)|(((with_reducible refine ab fun K E hK hE=>?_))<;>(try simp(disch:=omega) only[go_sem,seval,hls, *]))))
 refine bV (fun m env s'=>∃(j:Nat) (x:VV),j<=SV.length/\m+j=SV.length/\Hid (RowS s s' x j ((SV.take j).map (eD wd)))/\env 0=.ptr c 0/\env 2=.lst VK ow/\env 13=x/\env 57=.lst VS .no/\env 58=.int .i64 SV.length/\env 59=.int .i64 j) SV.length ?_ ?_
 ·exact⟨_,Fg.refl _,0,_,by omega,by omega,o_ (.inl ⟨rfl,rfl,rfl,rfl⟩),ac,ac,ac,ac,ac,ac⟩
 clear we wv
 rintro m env u ⟨j,x,hj,hmj,HO,e0,e2,e13,e57,e58,e59⟩
 by_cases h2:j<SV.length
 ·have hx:=HAT2.out j _ (m_ h2)
  have hmlt:=HLT.out _ (List.getElem_mem h2)
  have htk:(SV.take (j+1)).map (eD wd)=(SV.take j).map (eD wd)++[eD wd SV[j]]:=by
   rw[List.take_add_one,m_ h2,List.map_append]
   rfl
  generalize SV[j]=m0 at *
  have huco:u c=.obj 132 [.ptr q 0,.lst DC .no,.lst AC .no]:=by
   rcases HO.out with ⟨_,_,hu,_⟩|⟨_,g,hg,hu,_⟩
   ·rw[hu];exact hco
   ·rw[hu,j_ _ _ (nef hg (by rw[hco];simp)).1];exact hco
  have hcf:u c≠.free:=by rw[huco];simp
  have hs0:Hid (cz wd m0=[]++cz (wd.drop 0) m0):=o_ (by rw[List.drop_zero,List.nil_append])
  have hnl0:ak ([]:TW)=[]:=rfl
  have HTK:=o_ htk
  clear htk
  (repeat'(first|refine Ctl ?_|((with_reducible refine k_ hK ?_);clear hK hE K E)|((with_reducible refine bZ (fun h=>?_) (fun h=>?_))<;>(try(exfalso;assumption)))|(((with_reducible refine ab fun K E hK hE=>?_))<;>(try simp(disch:=omega) only[go_sem,seval,hx,hln, *]))))
  refine bV (fun m2 env s'=>∃(i mc:Nat) (rw_:TW) (o:Own),i<=ks.length/\m2+i=ks.length/\Hid (cz wd m0=rw_++cz (wd.drop i) mc)/\mc<2 ^ 61/\rw_.length=i/\OwnOk u o i/\s'=u.own o 3 1 i/\env 0=.ptr c 0/\env 2=.lst VK ow/\env 13=x/\env 57=.lst VS .no/\env 58=.int .i64 SV.length/\env 59=.int .i64 j/\env 15=.int .i64 mc/\env 16=.lst (ak rw_) o/\env 63=.lst VK ow/\env 64=.int .i64 ks.length/\env 65=.int .i64 i) ks.length ?_ ?_
  ·exact⟨_,Fg.refl _,0,m0,[],.full,by omega,by omega,hs0,hmlt,rfl,rfl,rfl,ac,ac,ac,ac,ac,ac,ac,by(rw[hnl0];((try simp(disch:=assumption) only[go_sem,seval, *])<;>rfl)),ac,ac,ac⟩
  clear e0 e2 e13 e57 e58 e59 hs0 hnl0 hx hmlt
  rintro m2 env s' ⟨i,mc,rw_,o,hi,hmi,HE,hmc,hrl,hO,rfl,e0,e2,e13,e57,e58,e59,e15,e16,e63,e64,e65⟩
  have p2:=hO.not hcf
  by_cases h3:i<ks.length
  ·have hkx:=HAT.out i _ (m_ h3)
   obtain⟨ha,hal⟩:=HA2.out _ (List.getElem_mem h3)
   have hw:=HWD.out i _ (m_ h3)
   have hwlen:(ak (at_.getD ks[i] [])).length=(at_.getD ks[i] []).length:=natsL_len
   obtain⟨hw1,hw2⟩:=x_.1 hw
   have hsp:=HE.out
   rw[c_ hw1,hw2]at hsp
   simp only[cz]at hsp
   generalize (at_.getD ks[i] []).length=w at *
   generalize ak (at_.getD ks[i] [])=WL at *
   generalize ks[i]=kx at *
   have hsh:=jD (k:=w) (by omega)
   have hand:=BU (m:=mc) (w:=w) (by omega)
   have hshr:=wH (m:=mc) (w:=w) (by omega) (by omega)
   have hdl:mc / 2 ^ w<=mc:=Nat.div_le_self _ _
   have hpw:2 ^ w<=2 ^ 61:=Nat.pow_le_pow_right (by omega) (by omega)
   have hpp:0<2 ^ w:=Nat.two_pow_pos w
   have hnr:ak (rw_++[mc % 2 ^ w])=ak rw_++[[.int .i64 ((mc % 2 ^ w:Nat):Int)]]:=dV
   have hnl:(ak rw_).length=i:=by rw[natsL_len,hrl]
   have HE2:Hid (cz wd m0=(rw_++[mc % 2 ^ w])++cz (wd.drop (i+1)) (mc / 2 ^ w)):=o_ (by rw[hsp,List.append_assoc];rfl)
   have HRL:Hid ((rw_++[mc % 2 ^ w]).length=i+1):=o_ (by rw[p_,hrl];rfl)
   have HNR:=o_ hnr
   clear HE hsp hw hw1 hw2 hnr hrl
   generalize rw_++[mc % 2 ^ w]=rw2 at *
   generalize ak rw_=RL at *
   generalize mc % 2 ^ w=mr at *
   generalize mc / 2 ^ w=mq at *
   generalize 2 ^ w=PW at *
   (repeat'(first|refine Ctl ?_|((with_reducible refine k_ hK ?_);clear hK hE K E)|((with_reducible refine bZ (fun h=>?_) (fun h=>?_))<;>(try(exfalso;assumption)))|((first|(with_reducible refine ab fun K E hK hE=>?_)|((with_reducible refine fC (fun o2 ho=>?_));(try simp(disch:=assumption) only[bz,bB,cZ,c6,z_,List.length_cons,List.length_nil,Nat.zero_add,hkx,ha,hwlen,hsh,hand,hshr,hnl]at ho)))<;>(try simp(disch:=first|assumption|omega) only[go_sem,seval,hkx,ha,hwlen,hsh,hand,hshr,hnl, *]))))
   all_goals exact⟨_,Fg.refl _,m2 - 1,by omega,i+1,mq,rw2,o2,by omega,by omega,HE2,by omega,HRL.out,ho,rfl,ac,ac,ac,ac,ac,ac,ac,by(rw[HNR.out];((try simp(disch:=assumption) only[go_sem,seval, *])<;>rfl)),ac,ac,ac⟩
  ·have hik:i=ks.length:=by omega
   have hrw:ak rw_=aI (eD wd m0):=by
    have h1:=HE.out
    rw[List.drop_of_length_le (by omega)]at h1
    simp only[cz,List.append_nil]at h1
    rw[eD,h1,cA]
   (repeat'(first|(with_reducible refine aR 19 ?_)|refine Ctl ?_|((with_reducible refine k_ hK ?_);clear hK hE K E)|((with_reducible refine bZ (fun h=>?_) (fun h=>?_))<;>(try(exfalso;omega)))|(((with_reducible refine ab fun K E hK hE=>?_))<;>(try simp(disch:=omega) only[go_sem,seval, *]))))
   unfold bC
   refine lC 16 (x:=.lst (ak rw_) o) (y:=.lst (ak rw_) .no) (ac) (Wk.lst _ _) ?_
   refine dr (s':=u) (Fg.own hO) ?_
   rw[hrw]
   have hadd:=HTK.out
   have HH:=o_ hadd
   have hrl1:∀y:Tb,y=[.lst (aI (eD wd m0)) .no]->y.length=1:=fun y hy=>by rw[hy];rfl
   clear HE hrw hO p2 hadd HTK
   rcases HO.out with ⟨h0,hO0,hu,hx0⟩|⟨h0,g,hg,hu,hx0⟩
   ·subst hu hx0 h0
    rw[hO0,List.nil_append]at HH
    clear HO hO0
    generalize hLX:aI (eD wd m0)=LX at *
    have HLX:=o_ hLX
    clear hLX
    (repeat'(first|refine Ctl ?_|((with_reducible refine k_ hK ?_);clear hK hE K E)|((first|(with_reducible refine ab fun K E hK hE=>?_)|((with_reducible refine fG (fun bM hM=>?_))))<;>(try simp(disch:=omega) only[go_sem,seval,Nat.mul_one, *]))))
    refine⟨_,Fg.refl _,m - 1,by omega,0+1,_,by omega,by omega,o_ (.inr ⟨by omega,bM,hM,?_,?_⟩),ac,ac,ac,ac,ac,ac⟩
    ·rw[HH.out,<- HLX.out];rfl
    ·rw[HH.out];rfl
   ·subst hu hx0
    have hrlen:((SV.take j).map (eD wd)).length=j:=by rw[z_,r_];omega
    have hxl:(((SV.take j).map (eD wd)).map cK).length=j:=by rw[z_,hrlen]
    have hsg:s.set g .free=s:=v_ _ _ _ hg
    have hap:((SV.take (j+1)).map (eD wd)).map cK=((SV.take j).map (eD wd)).map cK++[.lst (aI (eD wd m0)) .no]:=by rw[HH.out,List.map_append];rfl
    have hapl:((SV.take (j+1)).map (eD wd)).length=j+1:=by rw[z_,r_];omega
    have HAP:=o_ (And.intro hap hapl)
    clear hap hapl HO HH huco
    rw[hrlen]at e13
    generalize aI (eD wd m0)=LX at *
    generalize ((SV.take j).map (eD wd)).map cK=XR at *
    clear hrlen
    (repeat'(first|refine Ctl ?_|((with_reducible refine k_ hK ?_);clear hK hE K E)|((first|(with_reducible refine ab fun K E hK hE=>?_)|((with_reducible refine cJ (fun bM hM=>?_))))<;>(try simp(disch:=omega) only[go_sem,seval,Nat.mul_one,hxl,hsg,St.set_set, *]))))
    exact⟨_,Fg.refl _,m - 1,by omega,j+1,_,by omega,by omega,o_ (.inr ⟨by omega,bM,hM,by rw[HAP.out.1];rfl,by rw[HAP.out.2]⟩),ac,ac,ac,ac,ac,ac⟩
 ·have hjc:j=SV.length:=by omega
  subst hjc
  have hall:(SV.take SV.length).map (eD wd)=TR:=by rw[b_];exact HTR.out.symm
  have ho:=HO.out
  rw[hall]at ho
  clear HO
  rcases ho with ⟨h0,hO0,hu,hx0⟩|⟨h0,g,hg,hu,hx0⟩
  ·subst hu hx0
   have wz:=Ff u []
   have HTN:=o_ hO0
   clear hO0
   (repeat'(first|(with_reducible refine aR 22 ?_)|refine Ctl ?_|((with_reducible refine k_ hK ?_);clear hK hE K E)|((with_reducible refine bZ (fun h=>?_) (fun h=>?_))<;>(try(exfalso;assumption)))|(((with_reducible first|refine ab fun K E hK hE=>?_|refine ae GL (wz) ?_))<;>(try simp(disch:=omega) only[go_sem,seval, *]))))
   unfold bC
   refine lC 13 (x:=.raw (.slice none 0 0)) (y:=.lst [] .no) (ac) Wk.rawnil ?_
   (repeat'(first|refine Ctl ?_|((with_reducible refine k_ hK ?_);clear hK hE K E)|(((with_reducible refine ab fun K E hK hE=>?_))<;>(try simp(disch:=omega) only[go_sem,seval, *]))))
   all_goals(refine aq z8 hQ ?_)
   rw[HTN.out]
   exact⟨_,_,Wk.refl _,Fg.refl _,rfl,rfl⟩
  ·subst hu hx0
   have hTRl:TR.length=SV.length:=by rw[HTR.out,z_]
   have hpm:(dO TR).length=TR.length:=((List.perm_ext_iff_of_nodup (eB TR).nodup HND.out).2 fun r=>sortR_mem).length_eq
   have wz:=Mx TR g 28 (by omega) HND.out (fun r hr=>by
    rw[HTR.out]at hr
    obtain⟨z,_,rfl⟩:=A_.1 hr
    rw[zP,hwl]
    omega) (s.set g (.row 28 1 (TR.map cK))) (q_ _ _ _)
   rw[St.set_set]at wz
   have hsg:s.set g .free=s:=v_ _ _ _ hg
   have hfz:((dO TR).map cK).map (fun y=>[y])=cu (dO TR):=by simp[cu,Function.comp]
   have hil:((dO TR).map cK).length=TR.length:=by rw[z_,hpm]
   clear hpm hTRl hall
   generalize TR.map cK=OX at *
   generalize TR.length=ol at *
   generalize (dO TR).map cK=SX at *
   generalize cu (dO TR)=RS at *
   (repeat'(first|(with_reducible refine aR 22 ?_)|refine Ctl ?_|((with_reducible refine k_ hK ?_);clear hK hE K E)|((with_reducible refine bZ (fun h=>?_) (fun h=>?_))<;>(try(exfalso;assumption)))|(((with_reducible first|refine ab fun K E hK hE=>?_|refine ae GL (wz) ?_))<;>(try simp(disch:=omega) only[go_sem,seval, *]))))
   unfold bC
   refine kK 13 g ol (q_ _ _ _) (ac) hil ?_
   rw[hfz,St.set_set,hsg]
   (repeat'(first|refine Ctl ?_|((with_reducible refine k_ hK ?_);clear hK hE K E)|(((with_reducible refine ab fun K E hK hE=>?_))<;>(try simp(disch:=omega) only[go_sem,seval, *]))))
   all_goals(refine aq z8 hQ ?_)
   exact⟨_,_,Wk.refl _,Fg.refl _,rfl,rfl⟩
end Go.Proofs.YtohnaepcgnbaiaaGreatDoor
