/- Walks. Conditions: in the statements. -/
import Derived.Test.YtohnaepcgnbaiaaGreatDoorJlEjj
import Derived.Test.YtohnaepcgnbaiaaGreatDoorJlEhj
set_option maxHeartbeats 32000000
set_option linter.unusedSimpArgs false
set_option linter.unusedVariables false
set_option maxRecDepth 100000
namespace Go.Proofs.YtohnaepcgnbaiaaGreatDoor
open Go.RowKit
theorem RKeep.new {s u:St}{K:OB}{x m:Nat}(h:∀z,s z≠.free->u z=s z):RKeep s u K K x m m:=⟨rfl,rfl,rfl,fun _ h=>.inl h,fun z hz _=>h z hz⟩
structure RelD where
 A:TV
 D:TW
 t:Tr
noncomputable def relC (ns:Td)(r:RelD)(o1 o2:Own):Tb:=[.lst (az r.A) o1,.lst (ak r.D) o2,.int .i64 ((ixN ns r.t:Nat):Int)]
structure RelOk (ns:Td) (ds:TN) (o:TU) (r:RelD):Prop where
 nm:bi r.A
 ln:r.A.length=r.D.length
 nd:r.D.Nodup
 dl:∀d,d∈r.D->d<ds.length
 mem:r.t∈ns
 inv:InV (aj o r.D) r.t
theorem gn {n:Nat}{ds:TN}{o:TU}(hD:DOk n ds o):∀{ks:TW},(∀k,k∈ks->k<ds.length)->(aj o ks).length<=30 * ks.length
 |[],_=>by simp[aj]
 |k::ks,h=>by
  have ih:=gn hD (ks:=ks) fun a ha=>h a (List.mem_cons_of_mem _ ha)
  have h2:=(hD.getD (h k (List.mem_cons_self ..))).2.1
  have e:aj o (k::ks)=o.getD k []++aj o ks:=by simp[aj]
  rw[e,p_,List.length_cons]
  omega
theorem po {s:St}{KK:OB}{x m q c n B:Nat}{ns:Td}{ds:TN}{o:TU}(hn64:n<=64)(hM:RMem s KK x m q c n B ns ds o)(hD:DOk n ds o)(L:Ta)(ow:Own)(hL:∀z,z∈L->∃r o1 o2,z=relC ns r o1 o2/\RelOk ns ds o r)(hl:L.length<=1000000) :
  SCalls Tryz.prog 29 [.ptr x 0,.lst L ow] s fun w u=>∃a:Qu,w=.ret (.bool true)/\u=a.1/\RMem a.1 KK x a.2 q c n B ns ds o/\RKeep s a.1 KK KK x m a.2:=by
 have HL:=o_ hL
 have HM:=o_ hM
 have HD:=o_ hD
 obtain⟨a0,hx⟩:=hM.xf
 have hxl:=hM.xl
 unfold spC at hx
 clear hL hM hD
 generalize hSZ:szC ds=SZ at *
 have HSZ:=o_ hSZ
 clear hSZ
 refine am Tryz.func29 rfl Tryz.ntmps29 rfl fun Q hQ hQe=>?_
 (repeat'(first|refine Ctl ?_|((with_reducible refine k_ hK ?_);clear hK hE K E)|((with_reducible refine bZ (fun h=>?_) (fun h=>?_))<;>(try(exfalso;assumption)))|(((with_reducible refine ab fun K E hK hE=>?_))<;>(try simp(disch:=omega) only[go_sem,seval, *]))))
 clear hx hxl
 refine aY (fun f env s'=>∃(i m':Nat),i<=L.length/\f+i=L.length/\Hid (RMem s' KK x m' q c n B ns ds o/\RKeep s s' KK KK x m m')/\env 0=.ptr x 0/\env 18=.lst L ow/\env 19=.int .i64 L.length/\env 20=.int .i64 i) L.length
  ⟨0,m,by omega,by omega,o_ ⟨HM.out,.refl _ _ _ _⟩,ac,ac,ac,ac⟩ ?_
 rintro f env s' ⟨i,m',hi,hmi,HI,e0,e18,e19,e20⟩
 by_cases h2:i<L.length
 ·have hk:=m_ h2
  obtain⟨r,o1,o2,hr,hok⟩:=HL.out _ (List.getElem_mem h2)
  rw[hr]at hk
  unfold relC at hk
  obtain⟨a1,hx⟩:=HI.out.1.xf
  unfold spC at hx
  rw[HSZ.out]at hx
  have hxl:=HI.out.1.xl
  have HOK:=o_ hok
  clear hr hok
  obtain⟨A,D,t⟩:=r
  dsimp only at hk
  (repeat'(first|refine Ctl ?_|(with_reducible first|(refine k_ hK ?_;clear hK hE K E)|(refine k_ hKh ?_;clear hKh Kh)|refine ax 6 [([0,1,2,3,4,5],6,[[]])] [7,8,9,10,11] hQe fun K E hK hE=>?_)|((with_reducible refine bZ (fun h=>?_) (fun h=>?_))<;>(try(exfalso;assumption)))|((first|(with_reducible first|refine ab fun K E hK hE=>?_|refine ay fun Kh hKh=>?_|refine aB fun Kb hKb=>?_)|((with_reducible refine au (fun b hb=>?_));(try(obtain⟨_,_⟩:=nef hb hxl))))<;>(try simp(disch:=omega) only[go_sem,seval,hk, *]))))
  obtain⟨b6,hb6⟩:∃z,z=b:=⟨_,rfl⟩
  subst hb6
  have HB6:Hid (s' b6=.free):=o_ hb
  obtain⟨u0,hu0⟩:∃u,u=s'.set b6 (.obj 30 [.lst (az A) o1,.lst (ak D) o2,.int .i64 ((ixN ns t:Nat):Int)]):=⟨_,rfl⟩
  rw[<- hu0]
  have g0:∀z,s' z≠.free->u0 z=s' z:=fun z hz=>by rw[hu0,j_ _ _ (nef hb hz).1]
  have k0:u0 b6=.obj 30 [.lst (az A) o1,.lst (ak D) o2,.int .i64 ((ixN ns t:Nat):Int)]:=by rw[hu0,q_]
  have hx0:=(g0 x hxl).trans hx
  have M0:=HI.out.1.more g0
  obtain⟨n1,n2,n3,n4,n5,n6⟩:=HOK.out
  dsimp only at n1 n2 n3 n4 n5 n6
  have hDl:D.length<=8:=by rw[<- n2];exact n1.2.2
  have wv:=gK M0.C HD.out D o2 n4 (by omega)
  rw[if_pos n3]at wv
  have wn:=xV u0 A o1 n1
  have hvl:=gn HD.out n4
  have ww:=BX hn64 M0 n5 (aj o D) .no n6 (aJ HD.out n4) (by omega)
  have hal:(az A).length=D.length:=by rw[dj,n2]
  have hdl:=natsL_len (ks:=D)
  have G0:=o_ g0
  clear hu0 g0 hb hx hxl M0 n1 n2 n3 n4 n5 n6 hDl hvl hk
  (repeat'(first|refine Ctl ?_|(with_reducible first|(refine k_ hK ?_;clear hK hE K E)|(refine k_ hKh ?_;clear hKh Kh)|(refine k_ hKb (aC ?_);clear hKb Kb))|((with_reducible refine bZ (fun h=>?_) (fun h=>?_))<;>(try(exfalso;assumption)))|(((with_reducible first|refine ab fun K E hK hE=>?_|refine ae qH (wv) ?_|refine ae GT (wn) ?_|refine aG fun Kh hKh=>?_))<;>(try simp(disch:=omega) only[go_sem,seval,hal,hdl, *]))))
  refine ao P9 ww (fun a h=>?_)
  obtain⟨u1,m1⟩:=a
  obtain⟨M1,K1⟩:=h
  dsimp only at M1 K1 ⊢
  have HN:=o_ (And.intro M1 ((HI.out.2.trans (.new G0.out)).trans K1))
  clear ww wv wn M1 K1 G0 k0 hx0
  simp only[go_sem,seval]
  (repeat'(first|refine Ctl ?_|((with_reducible refine k_ hK ?_);clear hK hE K E)|((with_reducible refine bZ (fun h=>?_) (fun h=>?_))<;>(try(exfalso;assumption)))|(((with_reducible refine ab fun K E hK hE=>?_))<;>(try simp(disch:=omega) only[go_sem,seval, *]))))
  all_goals exact⟨f - 1,by omega,i+1,m1,by omega,by omega,HN,ac,ac,ac,ac⟩
 ·(repeat'(first|refine Ctl ?_|((with_reducible refine k_ hK ?_);clear hK hE K E)|((with_reducible refine bZ (fun h=>?_) (fun h=>?_))<;>(try(exfalso;assumption)))|(((with_reducible refine ab fun K E hK hE=>?_))<;>(try simp(disch:=omega) only[go_sem,seval, *]))))
  all_goals(refine aq Gk hQ ?_)
  all_goals exact⟨_,_,Wk.refl _,Fg.refl _,(s',m'),rfl,rfl,HI.out⟩
theorem C0 {fr:TW}{v:Nat}:aX fr fr v=v:=by
 unfold aX
 cases h:lkZ (v:Int) (byZ fr fr)with
 |none=>rfl
 |some w=>
  obtain⟨p,hp,e⟩:=A_.1 (mH h)
  injection e with e1 e2
  have h3:p.1=p.2:=by
   obtain⟨i,hi,e⟩:=List.mem_iff_getElem.1 hp
   rw[List.getElem_zip]at e
   rw[<- e]
  show w.toNat=v
  omega
theorem vP {s:St}{KK:OB}{x m q c n B N:Nat}{ns:Td}{ds:TN}{o:TU}(hM:RMem s KK x m q c n B ns ds o)(hD:DOk n ds o){f:Tf}(fr tt:TW)(ow ow2:Own){S:TW}(hf:DepF S f)(hSl:∀v,v∈S->v<n)(mf:treeT n f∈ns)
  (hfl:∀k,k∈fr->k<ds.length) (htl:∀k,k∈tt->k<ds.length) (hfn:fr.Nodup) (htn:tt.Nodup) (hl8:fr.length<=8) (ht8:tt.length<=8) (hlen:(aj o tt).length=(aj o fr).length) (hc:CntN ns N) (hB:N+(S.length+2) * 2 ^ S.length<=B) :
  OpFC 32 [.ptr x 0,.int .i64 (ixF n ns f:Nat),.lst (ak fr) ow,.lst (ak tt) ow2] s KK n B ns (N+(S.length+2) * 2 ^ S.length) (rnF (aX (aj o fr) (aj o tt)) f):=by
 have we:=QG fr tt ow ow2 (by omega) s
 obtain⟨a0,hx⟩:=hM.xf
 unfold spC at hx
 have hvf:=gn hD hfl
 have wv1:=gK hM.C hD fr ow hfl (by omega)
 rw[if_pos hfn]at wv1
 have wv2:=gK hM.C hD tt ow2 htl (by omega)
 rw[if_pos htn]at wv2
 have wr:=y7 hM.C.om hM.C.qo hf hSl mf .no .no hlen (cr hD hfn hfl) (aJ hD hfl) (aJ hD htl) (by omega) hc hB
 unfold OpFC at wr ⊢
 by_cases e:fr=tt
 ·have hfin:OpF s KK n B ns (N+(S.length+2) * 2 ^ S.length) (rnF (aX (aj o fr) (aj o tt)) f) (s,KK,ns)/\ixF n ns (rnF (aX (aj o fr) (aj o tt)) f)=ixF n ns f:=by
   have hg:rnF (aX (aj o fr) (aj o tt)) f=f:=by
    subst e
    funext y
    unfold rnF
    congr 1
    funext v
    rw[C0]
   rw[hg]
   exact⟨⟨hM.C.om,⟨[],by simp⟩,mf,hc.mono (Nat.le_add_right _ _),.refl _ _⟩,rfl⟩
  rw[decide_eq_true e]at we
  have HF:=o_ hfin
  clear hfin wr wv1 wv2 hM hf mf hc hB e
  generalize ixF n ns f=kf at *
  refine am Tryz.func32 rfl Tryz.ntmps32 rfl fun Q hQ hQe=>?_
  (repeat'(first|refine Ctl ?_|((with_reducible refine k_ hK ?_);clear hK hE K E)|((with_reducible refine bZ (fun h=>?_) (fun h=>?_))<;>(try(exfalso;assumption)))|(((with_reducible first|refine ab fun K E hK hE=>?_|refine ae GM (we) ?_))<;>(try simp(disch:=omega) only[go_sem,seval, *]))))
  all_goals(refine aq Aa hQ ?_)
  all_goals exact⟨_,_,Wk.refl _,Fg.refl _,(s,KK,ns),congrArg (fun z:Nat=>SEnd.ret (.tup [.int .i64 (z:Int),.int .i64 0])) HF.out.2.symm,rfl,HF.out.1⟩
 ·rw[decide_eq_false e]at we
  generalize szC ds=SZ at *
  clear hM hf mf hc hB hfl htl hvf hlen
  generalize ixF n ns f=kf at *
  refine am Tryz.func32 rfl Tryz.ntmps32 rfl fun Q hQ hQe=>?_
  (repeat'(first|refine Ctl ?_|((with_reducible refine k_ hK ?_);clear hK hE K E)|((with_reducible refine bZ (fun h=>?_) (fun h=>?_))<;>(try(exfalso;assumption)))|(((with_reducible first|refine ab fun K E hK hE=>?_|refine ae GM (we) ?_|refine ae qH (wv1) ?_))<;>(try simp(disch:=omega) only[go_sem,seval, *]))))
  (repeat'(first|refine Ctl ?_|((with_reducible refine k_ hK ?_);clear hK hE K E)|((with_reducible refine bZ (fun h=>?_) (fun h=>?_))<;>(try(exfalso;assumption)))|(((with_reducible first|refine ab fun K E hK hE=>?_|refine ae qH (wv2) ?_))<;>(try simp(disch:=omega) only[go_sem,seval, *]))))
  refine ao P7 wr (fun a h=>?_)
  obtain⟨u1,K1,ns1⟩:=a
  have H:=o_ h
  dsimp only
  clear h wr
  simp only[go_sem,seval]
  (repeat'(first|refine Ctl ?_|((with_reducible refine k_ hK ?_);clear hK hE K E)))
  all_goals(refine aq Aa hQ ?_)
  all_goals exact⟨_,_,Wk.refl _,Fg.refl _,(u1,K1,ns1),rfl,rfl,H.out⟩
end Go.Proofs.YtohnaepcgnbaiaaGreatDoor
