/- Walks of functions that the claim reaches, and plain facts of them. Conditions: those in the statements. -/
import Derived.Test.YteldpmgepfaiiaaGreatDoorQrYfj
import Derived.Test.YteldpmgepfaiiaaGreatDoorQrYlj
import Derived.Test.YteldpmgepfaiiaaGreatDoorQrUkj
import Derived.Test.YteldpmgepfaiiaaGreatDoorQrYnj
import Derived.Test.YteldpmgepfaiiaaGreatDoorQrGpj
import Derived.KernelRfl
import Derived.Test.YteldpmgepfaiiaaGreatDoorQrUqj
set_option linter.unusedSimpArgs false
set_option linter.unusedVariables false
set_option maxRecDepth 100000
namespace Go.Proofs.YteldpmgepfaiiaaGreatDoor
open Go.RowKit
attribute [local go_sem] ky lf kx iS kw dx dw ef dZ
attribute [local go_sem] aN aX cG
theorem qB {s:St}{p r e T' sz n i:Nat}{W:List Sgn}{o:Own}{c c':Cell}(hpr:¬ p=r)(ho:ax o p)(hr:ax o r) :
  ((Rw (s.set p c) r e W i).own o T' sz n).set p c'=Rw ((s.own o T' sz n).set p c') r e W i:=by
 rw[dw hr,aY ho,iS (by simp[hpr]),St.set_set]
theorem qC {s:St}{p r e T T' sz i n q:Nat}{W:List Sgn}{o:Own}{xs ys:List VV}{rs rs':List (Nat×TypeId×Nat)}{l:List (List VV)}(hpr:¬ p=r)(ho:ax o p)(hr:ax o r)(hO:OwnOk s o n)(hn:l.length=n)
  (hi:xs[i]?=some (.lst l o)) (hy:ys=xs.set i (.lst l .no)) (hrs:∀r,r∈rs'->r=(i,T',sz)\/(r∈rs/\r.1≠i)) :
  GS (Rw ((s.own o T' sz n).set p (.pk T xs rs)) r e W q) (Rw (s.set p (.pk T ys rs')) r e W q):=by
 subst hy
 subst hn
 have h:=GS.pack (s:=Rw ((s.own o T' sz l.length).set p (.pk T xs rs)) r e W q) (b:=p) (T:=T) (xs:=xs) (rs:=rs) (rs':=rs') (i:=i) (l:=l) (o:=o) (T':=T') (sz:=sz)
  (by rw[kw hpr,q_]) hi (by rw[dZ hr,eM ho,gB hO];trivial) hrs
 rwa [dx hr,aJ ho,aM hO,iS (by simp[hpr]),St.set_set]at h
theorem mO {e hv m:Nat}{L L':List Sgn}{u:Unit}(h:ec e L hv m true=.ok (u,L')):hv<m:=by
 unfold ec at h
 split at h
 ·cases h
 ·rename_i hc
  rcases Nat.lt_or_ge hv m with h1|h1
  ·exact h1
  ·exact absurd ⟨h1,rfl⟩ hc
theorem CS {e:Nat}{x y:Pgm}{L L':List Sgn}(h:CT e x L=.ok (y,L')):x.doms.length<32/\∃a b c d,L=a::b::c::d::L'/\a.text=[100,111,109]/\b.kind=1/\c.kind=2/\d.text=[46]/\y=⟨x.doms++[⟨b.text,(pZ c.text:Nat)⟩],x.decls,x.rules⟩:=by
 unfold CT at h
 cases h0:ec e L x.doms.length 32 true with
 |error q=>rw[h0]at h;cases h
 |ok q=>
  obtain⟨u,L0⟩:=q
  have hl:=mO h0
  have e0:=gy h0
  subst e0
  rw[h0,bR]at h
  cases h1:dK e L0 [100,111,109]with
  |error q=>rw[h1]at h;cases h
  |ok q=>
   obtain⟨u,L1⟩:=q
   obtain⟨c1,rfl⟩:=ee h1
   rw[h1,bR]at h
   cases h2:ed e L0.tail with
   |error q=>rw[h2]at h;cases h
   |ok q=>
    obtain⟨n,L2⟩:=q
    rw[h2,bR]at h
    obtain⟨b,hb,hbk,hbt⟩:=dS h2
    cases h3:pY e L2 with
    |error q=>rw[h3]at h;cases h
    |ok q=>
     obtain⟨z,L3⟩:=q
     rw[h3,bR]at h
     unfold pY at h3
     cases h3':j8 e L2 2 with
     |error q=>rw[h3']at h3;cases h3
     |ok q=>
      obtain⟨tx,L3'⟩:=q
      rw[h3',bR]at h3
      injection h3 with h3;injection h3 with e1 e2
      subst e1;subst e2
      obtain⟨c,hc,hck,hct⟩:=dS h3'
      cases h4:dK e L3' [46]with
      |error q=>rw[h4]at h;cases h
      |ok q=>
       obtain⟨u,L4⟩:=q
       obtain⟨c4,rfl⟩:=ee h4
       rw[h4,bR]at h
       injection h with h;injection h with e1 e2
       cases L0 with
       |nil=>simp[isT]at c1
       |cons a L0=>
        cases L3' with
        |nil=>simp[isT]at c4
        |cons d L3'=>
         simp only[List.tail_cons]at hb e2
         refine⟨hl,a,b,c,d,by rw[hb,hc,e2],by simpa [isT]using c1,hbk,hck,by simpa [isT]using c4,?_⟩
         rw[<- e1,hbt,hct]
theorem BJ {e:Nat}{x y:Pgm}{L L':List Sgn}(h:BK e x L=.ok (y,L')):x.decls.length<32/\isT L 0 [114,101,108]=true/\∃d,sn e L.tail=.ok (d,L')/\y=⟨x.doms,x.decls++[d],x.rules⟩:=by
 unfold BK at h
 cases h0:ec e L x.decls.length 32 true with
 |error q=>rw[h0]at h;cases h
 |ok q=>
  obtain⟨u,L0⟩:=q
  have hl:=mO h0
  have e0:=gy h0
  subst e0
  rw[h0,bR]at h
  cases h1:dK e L0 [114,101,108]with
  |error q=>rw[h1]at h;cases h
  |ok q=>
   obtain⟨u,L1⟩:=q
   obtain⟨c1,rfl⟩:=ee h1
   rw[h1,bR]at h
   refine⟨hl,c1,?_⟩
   unfold sn
   cases h2:ed e L0.tail with
   |error q=>rw[h2]at h;cases h
   |ok q=>
    obtain⟨n,L2⟩:=q
    rw[h2]at h
    simp only[bR]at h ⊢
    cases h3:iG e (ed e) [1] L2 with
    |error q=>rw[h3]at h;cases h
    |ok q=>
     obtain⟨ds,L3⟩:=q
     rw[h3]at h
     simp only[bR]at h ⊢
     cases h4:dK e L3 [46]with
     |error q=>rw[h4]at h;cases h
     |ok q=>
      obtain⟨u,L4⟩:=q
      rw[h4]at h
      simp only[bR]at h ⊢
      injection h with h;injection h with e1 e2
      exact⟨⟨n,ds⟩,by rw[e2],e1.symm⟩
theorem BG {e:Nat}{x y:Pgm}{L L':List Sgn}(h:BH e x L=.ok (y,L')):x.rules.length<64/\∃a,lv e L=.ok (a,L')/\y=⟨x.doms,x.decls,x.rules++[a]⟩:=by
 unfold BH at h
 cases h0:ec e L x.rules.length 64 (cX [1] L)with
 |error q=>rw[h0]at h;cases h
 |ok q=>
  obtain⟨u,L0⟩:=q
  have e0:=gy h0
  subst e0
  rw[h0,bR]at h
  cases h1:lv e L0 with
  |error q=>rw[h1]at h;cases h
  |ok q=>
   obtain⟨a,L1⟩:=q
   rw[h1,bR]at h
   injection h with h;injection h with e1 e2
   subst e2
   refine⟨?_,a,rfl,e1.symm⟩
   obtain⟨M1,M2,hat,_⟩:=mK h1
   obtain⟨z,M3,M4,rfl,hk,_⟩:=nF hat
   have:cX [1] (z::M3)=true:=by simp[cX,hk]
   rw[this]at h0
   exact mO h0
theorem nH {a:Atm}(h:dl a=true):a.ts.length<=8:=by
 simp only[dl,Bool.and_eq_true,decide_eq_true_eq]at h
 exact h.2
theorem ux {a:Dcl}(h:eO a=true):a.doms.length<=8:=by
 simp only[eO,Bool.and_eq_true,decide_eq_true_eq]at h
 exact h.1.2
theorem tC {a:Rul}(h:d8 a=true):a.head.ts.length<=8/\a.body.length<=8/\∀x,x∈a.body->x.ts.length<=8:=by
 simp only[d8,Bool.and_eq_true,decide_eq_true_eq,List.all_eq_true]at h
 exact⟨nH h.1.1.1.1.1,h.1.2,fun x hx=>nH (h.2 x hx)⟩
set_option maxHeartbeats 8000000 in
theorem A0 (l:List UInt8)(hl:l.length<=9223372036854775000)(x:Pgm)(hx:m9 l=.ok x)(s:St):SRet Tryz.prog 17 [.str l] s (.tup [.agg (pgC x),.int .i64 0,.int .i64 0]) s:=by
 have hsig:=fun s=>Bf l hl s
 cases hL:bD l with
 |error q=>unfold m9 at hx;rw[hL]at hx;cases hx
 |ok W=>
  rw[hL]at hsig
  simp only[mD]at hsig
  rw[xm hL]at hx
  have hIn:=rQ hL
  obtain⟨hG,hWl⟩:=nf hL
  have hw:W.length<=40000:=by omega
  have hgo:∃Le,jL l.length (W.length+1) ⟨[],[],[]⟩ W=.ok (x,Le):=by
   cases hI:jL l.length (W.length+1) ⟨[],[],[]⟩ W with
   |error q=>rw[hI]at hx;cases hx
   |ok q=>obtain⟨y,Le⟩:=q;rw[hI]at hx;injection hx with hx;subst hx;exact⟨Le,rfl⟩
  obtain⟨Le,hgo⟩:=hgo
  have HGO:=u_ hgo
  have HIN:=u_ hIn
  have HG:=u_ hG
  clear hx hL hgo hIn hG
  generalize hle:l.length=e at *
  refine bh Tryz.func17 rfl Tryz.ntmps17 rfl fun Q hQ hQe=>?_
  (repeat'(first|refine Ctl ?_|((with_reducible refine j_ hK ?_);clear hK hE K E)|((with_reducible refine aj (fun h=>?_) (fun h=>?_))<;>(try(exfalso;assumption)))|((first|(with_reducible first|refine ae fun K E hK hE=>?_|refine ak K2 (hsig _) ?_)|((with_reducible refine ao (fun b hb=>?_));(repeat(obtain⟨_,hb⟩:=hb))))<;>(try simp(disch:=omega) only[go_sem,seval,hle, *]))))
  rename_i bz hbz r z5 z6 hr z7 z8 z9 z10
  obtain⟨bp,hbp⟩:∃x,x=b:=⟨_,rfl⟩
  subst hbp
  clear hsig h
  have hBz:(s.set bz (.obj 26 [.lst [] .full,.lst [] .full,.lst [] .full])) bz=.obj 26 [.lst [] .full,.lst [] .full,.lst [] .full]:=q_ _ _ _
  have hBf:Fg (s.set bz (.obj 26 [.lst [] .full,.lst [] .full,.lst [] .full])) s:=v_ _ hbz
  have hBr:(s.set bz (.obj 26 [.lst [] .full,.lst [] .full,.lst [] .full])) r=.free:=by rw[k_ _ _ z5];exact hr
  have hBp:(s.set bz (.obj 26 [.lst [] .full,.lst [] .full,.lst [] .full])) bp=.free:=by rw[k_ _ _ z9];exact hb
  change Kp _ _ _ _ _ _ _ ((Rw (s.set bz (.obj 26 [.lst [] .full,.lst [] .full,.lst [] .full])) r e W 0).set bp (.obj 26 [.lst [] .full,.lst [] .full,.lst [] .full]))
  generalize s.set bz (.obj 26 [.lst [] .full,.lst [] .full,.lst [] .full])=B at *
  have HBF:=u_ hBf
  have HBR:=u_ hBr
  have HBP:=u_ hBp
  have HZ:=u_ (And.intro hbz (And.intro hr hb))
  clear hBf hbz hr hb hBr hBp
  refine nU (GS.pg0 (q_ _ _ _)) ?_
  rw[St.set_set,iS z7]
  refine eF (fun m env t=>∃(q f:Nat) (y:Pgm) (Lq:List Sgn),Sfx W q Lq/\GoodU Lq/\InU e Lq/\cE y=true/\jL e f y Lq=.ok (x,Le)/\m=Lq.length/\t=Rw (B.set bp (.pk 26 (pgC y) rsP)) r e W q /\
   env 2=.ptr bz 0/\env 8=.ptr r 0/\env 9=.ptr bp 0) W.length ?_ ?_
  ·exact⟨_,GS.refl _,0,_,⟨[],[],[]⟩,W,⟨by omega,rfl⟩,HG.out,HIN.out,by decide,HGO.out,rfl,rfl,ab,ab,ab⟩
  ·clear HGO HIN HG
   rintro m env t ⟨q,f,y,Lq,hS,hGq,hIq,hy,hgo,rfl,rfl,e2,e8,e9⟩
   have hql:=hS.1
   have hwm:(W.map ge).length=W.length:=a_ _
   cases f with
   |zero=>cases hgo
   |succ f=>
    simp only[jL]at hgo
    by_cases hnil:Lq=[]
    ·rw[if_pos hnil]at hgo
     injection hgo with hgo;injection hgo with hgo _
     subst hnil
     have hqe:=hS.nil
     subst hqe
     subst hgo
     simp only[pgC]
     clear hS hGq hIq
     (repeat'(first|refine Ctl ?_|(with_reducible first|(refine j_ hK ?_;clear hK hE K E)|(refine j_ hKh ?_;clear hKh Kh)|refine au 6 [] [0,1,2,3,4,5,6,7,8,9,10,11,12,13,14,15,16] hQe fun K E hK hE=>?_)|((with_reducible refine aj (fun h=>?_) (fun h=>?_))<;>(try(exfalso;first|assumption|omega)))|(((with_reducible first|refine ae fun K E hK hE=>?_|refine aC fun Kh hKh=>?_))<;>(try simp(disch:=first|assumption|omega) only[go_sem,seval,hwm,ef,dx,dw,dZ,aN,aX,dg,or_true,if_true, *]))))
     all_goals(refine ap DM hQ ?_)
     all_goals(refine⟨_,_,Wk.of_eq ?_,?_,rfl,rfl⟩)
     ·rfl
     ·exact w_ (w_ (w_ HBF.out HZ.out.2.2) HZ.out.1) HZ.out.2.1
    ·rw[if_neg hnil]at hgo
     have hqlt:q<W.length:=by
      rcases Nat.lt_or_ge q W.length with h|h
      ·exact h
      ·have:=hS.2;rw[List.drop_eq_nil_of_le h]at this;exact absurd this.symm hnil
     cases hit:rU e y Lq with
     |error q=>rw[hit]at hgo;cases hgo
     |ok qq=>
      obtain⟨y2,L2⟩:=qq
      rw[hit,bR]at hgo
      have hpl:=PlU.item hy hIq
      rw[hit]at hpl
      obtain⟨hy2,hI2,hlt⟩:=hpl
      have HGO:=u_ hgo
      have HY2:=u_ hy2
      have HI2:=u_ hI2
      have HLT:=u_ hlt
      have v0:=fun s t=>kv s r e q W t hql
      clear hgo hI2 hlt hIq hy
      unfold rU at hit
      by_cases hd:isT Lq 0 [100,111,109]=true
      ·rw[if_pos hd]at hit
       obtain⟨hn,a,b1,c,d,rfl,ha,hb1,hc,hdd,rfl⟩:=CS hit
       obtain⟨g0,s1,_⟩:=hS.cons
       obtain⟨g1,s2,_⟩:=s1.cons
       obtain⟨g2,s3,_⟩:=s2.cons
       obtain⟨g3,s4,_⟩:=s3.cons
       have hG4:GoodU L2:=fun z hz=>hGq z (by simp[hz])
       have HG4:=u_ hG4
       have HS4:=u_ s4
       have v1:=fun s=>kv s r e q W [100,111,109] hql
       rw[show isT W q [100,111,109]=true by simp[isT,g0,ha]]at v1
       have v2:=fun s=>jh s r e q W (y.doms.length:Int) 32 true (by omega)
       have v3:=fun s=>ga s r e (q+1) W b1 1 hw g1 hb1
       have v4:=fun s=>ga s r e (q+1+1) W c 2 hw g2 hc
       obtain⟨n,hn2,hnl⟩:=hGq c (by simp) hc
       have hnn:pZ c.text=n:=by simp[pZ,hn2]
       have v5:=fun s=>Bz c.text n hnl hn2 s
       have v6:=fun s=>fd s r e (q+1+1+1) W [46] hw (by simp[isT,g3,hdd])
       have hdl:(y.doms.map dmC).length=y.doms.length:=a_ _
       clear hit hd hS hGq s1 s2 s3 s4 g0 g1 g2 g3 hG4 ha hb1 hc hdd hn2 hnl v0
       rw[hnn]at HY2 HGO
       clear hnn
       refine kA bp 0 (T':=63) (sz:=2) [(1,66,2),(2,43,4)] ((kw z7).trans (q_ _ _ _)) rfl (by simp) (by simp) ?_
       intro o hO hop
       have hor:ax o r:=hO.not (by simp only[ky];simp)
       rw[qB z7 hop hor]
       simp only[ef,dg,hdl,pgC,List.set]at hO ⊢
       obtain⟨_,_,hO⟩:=hO
       (repeat'(first|refine Ctl ?_|(with_reducible first|(refine j_ hK ?_;clear hK hE K E)|(refine j_ hKh ?_;clear hKh Kh)|refine au 6 [] [0,1,2,3,4,5,6,7,8,9,10,11,12,13,14,15,16] hQe fun K E hK hE=>?_)|((with_reducible refine aj (fun h=>?_) (fun h=>?_))<;>(try(exfalso;assumption)))|((first|(with_reducible first|refine ae fun K E hK hE=>?_|refine ak ip (v1 _) ?_|refine ak px (v2 _) ?_|refine ak lH (v3 _) ?_|refine ak lH (v4 _) ?_|refine ak D1 (v5 _) ?_|refine ak lG (v6 _) ?_|refine aC fun Kh hKh=>?_)|((with_reducible refine ao (fun b hb=>?_));(repeat(obtain⟨_,hb⟩:=hb));(try(try(rw[aR]at hb;obtain⟨hob,hb⟩:=hb))))|((with_reducible refine cB (fun o2 ho=>?_));(try simp(disch:=assumption) only[aJ,aM,aU,bP,a_,List.length_cons,List.length_nil,Nat.zero_add,hwm,hdl,dmC,ef,dx,dw,dZ,aN,aX,dg,or_true,if_true]at ho);(repeat(obtain⟨_,ho⟩:=ho))))<;>(try simp(disch:=first|assumption|omega) only[go_sem,seval,hwm,hdl,dmC,ef,dx,dw,dZ,aN,aX,dg,or_true,if_true, *]))))
       exact⟨Rw (B.set bp (.pk 26 (pgC ⟨y.doms++[⟨b1.text,(n:Nat)⟩],y.decls,y.rules⟩) rsP)) r e W (q+1+1+1+1),GS.trans (GS.of_fg (Fg.rw (v_ _ (by rw[k_ _ _ (by assumption),aR];exact⟨by assumption,hb⟩)))) (qC z7 (by assumption) (by assumption) ho (by simp) (i:=0) rfl (by simp[pgC,dmC]) (by simp)),L2.length,HLT.out,q+1+1+1+1,f,⟨y.doms++[⟨b1.text,(n:Nat)⟩],y.decls,y.rules⟩,L2,HS4.out,HG4.out,HI2.out,HY2.out,HGO.out,rfl,rfl,ab,ab,ab⟩
      ·rw[if_neg hd]at hit
       have hdf:isT Lq 0 [100,111,109]=false:=by simpa using hd
       have v1:=fun s=>kv s r e q W [100,111,109] hql
       rw[hS.isT,hdf]at v1
       have v2:=fun s=>kv s r e q W [114,101,108] hql
       rw[hS.isT]at v2
       by_cases hr:isT Lq 0 [114,101,108]=true
       ·rw[if_pos hr]at hit
        obtain⟨hn,hc,d,hdc,rfl⟩:=BJ hit
        rw[hr]at v2
        have g1:=hS.tail hc
        have hsuf:L2 <:+ Lq.tail:=by
         obtain⟨z,M1,M3,hM,_,_,_,hgo,_,_,rfl⟩:=sm hdc
         rw[hM]
         exact(((suf_tail.trans suf_tail).trans (jI (fun _ _ _ h=>by obtain⟨z,rfl,_⟩:=dS h;exact List.suffix_cons _ _) _ hgo)).trans suf_tail).trans (List.suffix_cons _ _)
        obtain⟨q2,s2⟩:=g1.suf hsuf
        have hG4:GoodU L2:=fE (hsuf.trans suf_tail) hGq
        have HG4:=u_ hG4
        have HS4:=u_ s2
        have h8:d.doms.length<=8:=by
         have:=(lY HY2.out).2.2.2.2.1 d (by simp)
         exact(ux this)
        have v3:=fun s=>jh s r e q W (y.decls.length:Int) 32 true (by omega)
        have v4:=fun s=>C2 s r e (q+1) q2 W _ L2 d hw g1 hdc s2 h8
        have hdl:(y.decls.map aB).length=y.decls.length:=a_ _
        obtain⟨dn,dd⟩:=d
        simp only[aB]at v4
        clear hit hd hr hc hS hGq s2 g1 hG4 v0 hdf hdc hsuf
        refine kA bp 1 (T':=66) (sz:=2) [(0,63,2),(2,43,4)] ((kw z7).trans (q_ _ _ _)) rfl (by simp) (by simp) ?_
        intro o hO hop
        have hor:ax o r:=hO.not (by simp only[ky];simp)
        rw[qB z7 hop hor]
        simp only[ef,dg,hdl,pgC,List.set]at hO ⊢
        obtain⟨_,_,hO⟩:=hO
        (repeat'(first|refine Ctl ?_|(with_reducible first|(refine j_ hK ?_;clear hK hE K E)|(refine j_ hKh ?_;clear hKh Kh)|(refine j_ hKb (aK ?_);clear hKb Kb)|refine au 6 [] [0,1,2,3,4,5,6,7,8,9,10,11,12,13,14,15,16] hQe fun K E hK hE=>?_|refine au 20 [([0,1,2],3,[[0,1]]),([4],5,[[],[]]),([6],7,[[],[],[]])] [] hQe fun K E hK hE=>?_)|((with_reducible refine aj (fun h=>?_) (fun h=>?_))<;>(try(exfalso;assumption)))|((first|(with_reducible first|refine ae fun K E hK hE=>?_|refine ak ip (v1 _) ?_|refine ak ip (v2 _) ?_|refine ak px (v3 _) ?_|refine ak K1 (v4 _) ?_|refine aE fun Kh hKh=>?_|refine aC fun Kh hKh=>?_|refine aL fun Kb hKb=>?_)|((with_reducible refine cB (fun o2 ho=>?_));(try simp(disch:=assumption) only[aJ,aM,aU,bP,a_,List.length_cons,List.length_nil,Nat.zero_add,hwm,hdl,aB,ef,dx,dw,dZ,aN,aX,dg,or_true,if_true]at ho);(repeat(obtain⟨_,ho⟩:=ho))))<;>(try simp(disch:=first|assumption|omega) only[go_sem,seval,hwm,hdl,aB,ef,dx,dw,dZ,aN,aX,dg,or_true,if_true, *]))))
        exact⟨Rw (B.set bp (.pk 26 (pgC ⟨y.doms,y.decls++[⟨dn,dd⟩],y.rules⟩) rsP)) r e W (q2),qC z7 (by assumption) (by assumption) ho (by simp) (i:=1) rfl (by simp[pgC,aB]) (by simp),L2.length,HLT.out,q2,f,⟨y.doms,y.decls++[⟨dn,dd⟩],y.rules⟩,L2,HS4.out,HG4.out,HI2.out,HY2.out,HGO.out,rfl,rfl,ab,ab,ab⟩
       ·rw[if_neg hr]at hit
        have hrf:isT Lq 0 [114,101,108]=false:=by simpa using hr
        obtain⟨hn,a,hra,rfl⟩:=BG hit
        rw[hrf]at v2
        have hsuf:L2 <:+ Lq:=by
         obtain⟨M1,M2,hat,hbd,_,rfl⟩:=mK hra
         rcases hbd with ⟨_,hgo⟩|⟨_,_,rfl⟩
         ·exact((suf_tail.trans (fZ _ hgo).2.2).trans suf_tail).trans (di hat)
         ·exact suf_tail.trans (di hat)
        obtain⟨q2,s2⟩:=hS.suf hsuf
        have hG4:GoodU L2:=fE hsuf hGq
        have HG4:=u_ hG4
        have HS4:=u_ s2
        have hra2:=(lY HY2.out).2.2.2.2.2 a (by simp)
        obtain⟨k1,k2,k3⟩:=tC hra2
        have v3:=fun s a b t=>mg s r e q W a b t hql
        have v4:=fun s b=>jh s r e q W (y.rules.length:Int) 64 b (by omega)
        have v5:=fun s=>C1 s r e q q2 W _ L2 a hw hGq hS hra s2 k1 k2 k3
        have hdl:(y.rules.map az).length=y.rules.length:=a_ _
        obtain⟨⟨an,ar,ats⟩,abd⟩:=a
        simp only[az]at v5
        clear hit hd hr hS hGq s2 hG4 v0 hdf hra hrf hsuf hra2 k1 k2 k3
        refine kA bp 2 (T':=43) (sz:=4) [(0,63,2),(1,66,2)] ((kw z7).trans (q_ _ _ _)) rfl (by simp) (by simp) ?_
        intro o hO hop
        have hor:ax o r:=hO.not (by simp only[ky];simp)
        rw[qB z7 hop hor]
        simp only[ef,dg,hdl,pgC,List.set]at hO ⊢
        obtain⟨_,_,hO⟩:=hO
        (repeat'(first|refine Ctl ?_|(with_reducible first|(refine j_ hK ?_;clear hK hE K E)|(refine j_ hKh ?_;clear hKh Kh)|(refine j_ hKb (aK ?_);clear hKb Kb)|refine au 6 [] [0,1,2,3,4,5,6,7,8,9,10,11,12,13,14,15,16] hQe fun K E hK hE=>?_|refine au 7 [([0,1,2,3,4],5,[[0,1,2,3]]),([],6,[[],[]])] [] hQe fun K E hK hE=>?_|refine au 8 [([0,1,2],3,[[0,1]]),([4],5,[[],[]]),([6],7,[[],[],[]])] [] hQe fun K E hK hE=>?_)|((with_reducible refine aj (fun h=>?_) (fun h=>?_))<;>(try(exfalso;assumption)))|((first|(with_reducible first|refine ae fun K E hK hE=>?_|refine ak ip (v1 _) ?_|refine ak ip (v2 _) ?_|refine ak px (v4 _ _) ?_|refine ak K0 (v5 _) ?_|refine aE fun Kh hKh=>?_|refine aC fun Kh hKh=>?_|refine aL fun Kb hKb=>?_)|((with_reducible refine aT wd (v3 _ _ _ _) (fun a h=>?_)))|((with_reducible refine cB (fun o2 ho=>?_));(try simp(disch:=assumption) only[aJ,aM,aU,bP,a_,List.length_cons,List.length_nil,Nat.zero_add,hwm,hdl,az,ef,dx,dw,dZ,aN,aX,dg,or_true,if_true]at ho);(repeat(obtain⟨_,ho⟩:=ho))))<;>(try simp(disch:=first|assumption|omega) only[go_sem,seval,hwm,hdl,az,ef,dx,dw,dZ,aN,aX,dg,or_true,if_true, *]))))
        exact⟨Rw (B.set bp (.pk 26 (pgC ⟨y.doms,y.decls,y.rules++[⟨⟨an,ar,ats⟩,abd⟩]⟩) rsP)) r e W (q2),qC z7 (by assumption) (by assumption) ho (by simp) (i:=2) rfl (by simp[pgC,az]) (by simp),L2.length,HLT.out,q2,f,⟨y.doms,y.decls,y.rules++[⟨⟨an,ar,ats⟩,abd⟩]⟩,L2,HS4.out,HG4.out,HI2.out,HY2.out,HGO.out,rfl,rfl,ab,ab,ab⟩
end Go.Proofs.YteldpmgepfaiiaaGreatDoor
namespace Go.Proofs.YteldpmgepfaiiaaGreatDoor
open Go.RowKit
theorem He {α:Type}{a b:List α}(hl:a.length=b.length)(h:∀i:Nat,i<a.length->a[i]?=b[i]?):a=b:=by
 apply List.ext_getElem?
 intro i
 by_cases hi:i<a.length
 ·exact h i hi
 ·rw[C_ (by omega),C_ (by omega)]
set_option maxHeartbeats 2000000 in
theorem jQ (a b:List Int)(o1 o2:Own)(ha:a.length<=140737488355328)(hb:b.length<=140737488355328)(t:St):SRet Tryz.prog 31 [.lst (ay a) o1,.lst (ay b) o2] t (.bool (decide (a=b))) t:=by
 have la:(ay a).length=a.length:=bH
 have lb:(ay b).length=b.length:=bH
 by_cases hl:a.length=b.length
 ·have hli:((a.length:Int)=(b.length:Int))=True:=eq_true (by omega)
  have hlz:((b.length:Int)=(b.length:Int))=True:=eq_true rfl
  refine bh Tryz.func31 rfl Tryz.ntmps31 rfl fun Q hQ hQe=>?_
  (repeat'(first|refine Ctl ?_|((with_reducible refine j_ hK ?_);clear hK hE K E)|((with_reducible refine aj (fun h=>?_) (fun h=>?_))<;>(try(exfalso;assumption)))|(((with_reducible refine ae fun K E hK hE=>?_))<;>(try simp(disch:=omega) only[go_sem,seval, *]))))
  refine aI (fun m env s'=>∃i:Nat,i<=a.length/\m+i=a.length/\s'=t/\Hid (∀j:Nat,j<i->a[j]?=b[j]?)/\env 0=.lst (ay a) o1/\env 1=.lst (ay b) o2/\env 5=.int .i64 i) a.length ?_ ?_
  ·exact⟨t,Fg.refl _,0,by omega,by omega,rfl,u_ (fun j hj=>by omega),ab,ab,ab⟩
  ·rintro m env s' ⟨i,hi,hm,rfl,HE,e0,e1,e5⟩
   by_cases hlt:i<a.length
   ·obtain⟨c,hc⟩:=aO hlt
    obtain⟨d,hd⟩:=aO (l:=b) (i:=i) (by omega)
    have hsx:=cq hc
    have hsy:=cq hd
    have HC:=u_ hc
    have HD:=u_ hd
    clear hc hd
    by_cases hcd:c=d
    ·have HCD:=u_ hcd
     have hcc:(c=d)=True:=eq_true hcd
     (repeat'(first|refine Ctl ?_|(with_reducible first|(refine j_ hK ?_;clear hK hE K E)|(refine j_ hKh ?_;clear hKh Kh)|refine au 6 [] [0,1,2,3,4,5,6,7,8] hQe fun K E hK hE=>?_)|((with_reducible refine aj (fun h=>?_) (fun h=>?_))<;>(try(exfalso;first|assumption|omega)))|(((with_reducible first|refine ae fun K E hK hE=>?_|refine aC fun Kh hKh=>?_))<;>(try simp(disch:=omega) only[go_sem,seval, *]))))
     refine⟨s',Fg.refl _,m - 1,by omega,i+1,by omega,by omega,rfl,u_ (fun j hj=>?_),ab,ab,ab⟩
     by_cases hj2:j=i
     ·subst hj2;rw[HC.out,HD.out,HCD.out]
     ·exact HE.out j (by omega)
    ·have hcc:(c=d)=False:=eq_false hcd
     (repeat'(first|refine Ctl ?_|(with_reducible first|(refine j_ hK ?_;clear hK hE K E)|(refine j_ hKh ?_;clear hKh Kh)|refine au 6 [] [0,1,2,3,4,5,6,7,8] hQe fun K E hK hE=>?_)|((with_reducible refine aj (fun h=>?_) (fun h=>?_))<;>(try(exfalso;first|assumption|omega)))|(((with_reducible first|refine ae fun K E hK hE=>?_|refine aC fun Kh hKh=>?_))<;>(try simp(disch:=omega) only[go_sem,seval, *]))))
     all_goals(refine ap vh hQ ?_)
     all_goals(refine⟨_,_,Wk.of_eq ?_,?_,rfl,rfl⟩)
     ·rw[decide_eq_false (fun h=>hcd (by have:=HC.out;rw[h,HD.out]at this;injection this with this;exact this.symm))]
     ·(exact bj)
   ·(repeat'(first|refine Ctl ?_|((with_reducible refine j_ hK ?_);clear hK hE K E)|((with_reducible refine aj (fun h=>?_) (fun h=>?_))<;>(try(exfalso;omega)))|(((with_reducible refine ae fun K E hK hE=>?_))<;>(try simp(disch:=omega) only[go_sem,seval, *]))))
    all_goals(refine ap vh hQ ?_)
    all_goals(refine⟨_,_,Wk.of_eq ?_,?_,rfl,rfl⟩)
    ·rw[decide_eq_true (He hl (fun j hj=>HE.out j (by omega)))]
    ·(exact bj)
 ·have hli:((a.length:Int)=(b.length:Int))=False:=eq_false (by omega)
  refine bh Tryz.func31 rfl Tryz.ntmps31 rfl fun Q hQ hQe=>?_
  (repeat'(first|refine Ctl ?_|((with_reducible refine j_ hK ?_);clear hK hE K E)|((with_reducible refine aj (fun h=>?_) (fun h=>?_))<;>(try(exfalso;assumption)))|(((with_reducible refine ae fun K E hK hE=>?_))<;>(try simp(disch:=omega) only[go_sem,seval, *]))))
  all_goals(refine ap vh hQ ?_)
  all_goals(refine⟨_,_,Wk.of_eq ?_,?_,rfl,rfl⟩)
  ·rw[decide_eq_false (fun h=>hl (by rw[h]))]
  ·(exact bj)
def ey (cs:List Dcl)(n:List UInt8):Int:=match cW cs n with|some k=>k|none=>-1
def xi (cs:List Dcl)(n:List UInt8)(i:Nat):Int:=match ixT n ((cs.drop i).map (·.name))with|some k=>((k+i:Nat):Int)|none=>-1
theorem zu {cs:List Dcl}{n:List UInt8}:xi cs n cs.length=-1:=by unfold xi;rw[G_];rfl
theorem BL {cs:List Dcl}{n:List UInt8}{i:Nat}{c:Dcl}(h:cs[i]?=some c):xi cs n i=if n=c.name then(i:Int)else xi cs n (i+1):=by
 have hlt:i<cs.length:=(n_.1 h).1
 have hc:cs[i]=c:=by rw[b_ hlt]at h;injection h
 unfold xi
 rw[g_ hlt,hc,List.map_cons]
 simp only[ixT]
 by_cases e:n=c.name
 ·rw[if_pos e,if_pos e];simp
 ·rw[if_neg e,if_neg e]
  cases ixT n ((cs.drop (i+1)).map (·.name))with
  |none=>rfl
  |some k=>simp only[Option.map_some];congr 1;omega
set_option maxHeartbeats 2000000 in
theorem lg (x:Pgm)(n:List UInt8)(hx:x.decls.length<=140737488355328)(t:St):SRet Tryz.prog 41 [.agg (pgC x),.str n] t (.int .i64 (ey x.decls n)) t:=by
 obtain⟨ds,cs,rs⟩:=x
 simp only[pgC]at hx ⊢
 generalize ds.map dmC=x1
 generalize rs.map az=x3
 have hl:(cs.map aB).length=cs.length:=by simp
 generalize hR:ey cs n=R
 have HR:=u_ hR
 clear hR
 refine bh Tryz.func41 rfl Tryz.ntmps41 rfl fun Q hQ hQe=>?_
 (repeat'(first|refine Ctl ?_|((with_reducible refine j_ hK ?_);clear hK hE K E)|((first|(with_reducible refine ae fun K E hK hE=>?_)|((with_reducible refine ao (fun b hb=>?_))))<;>(try simp(disch:=omega) only[go_sem,seval, *]))))
 have hSb:(t.set b (.obj 26 [.lst x1 .no,.lst (cs.map aB) .no,.lst x3 .no])) b=.obj 26 [.lst x1 .no,.lst (cs.map aB) .no,.lst x3 .no]:=q_ _ _ _
 have hF:Fg (t.set b (.obj 26 [.lst x1 .no,.lst (cs.map aB) .no,.lst x3 .no])) t:=v_ _ hb
 generalize t.set b (.obj 26 [.lst x1 .no,.lst (cs.map aB) .no,.lst x3 .no])=S at *
 have HF:=u_ hF
 clear hF hb
 refine aI (fun m env s'=>∃i:Nat,i<=cs.length/\m+i=cs.length/\s'=S/\Hid (xi cs n i=R)/\env 2=.ptr b 0/\env 1=.str n/\env 5=.int .i64 i) cs.length ?_ ?_
 ·exact⟨S,Fg.refl _,0,by omega,by omega,rfl,HR,ab,ab,ab⟩
 ·clear HR
  rintro m env s' ⟨i,hi,hm,rfl,HE,e2,e1,e5⟩
  by_cases hlt:i<cs.length
  ·obtain⟨c,hc⟩:=aO hlt
   have hsx:=c9 hc
   have hE:=HE.out
   rw[BL hc]at hE
   obtain⟨cn,cd⟩:=c
   simp only at hE
   clear hc HE
   by_cases hcn:cn=n
   ·subst hcn
    rw[if_pos rfl]at hE
    have HE:=u_ hE
    clear hE
    (repeat'(first|refine Ctl ?_|((with_reducible refine j_ hK ?_);clear hK hE K E)|((with_reducible refine aj (fun h=>?_) (fun h=>?_))<;>(try(exfalso;assumption)))|(((with_reducible refine ae fun K E hK hE=>?_))<;>(try simp(disch:=omega) only[go_sem,seval,aB, *]))))
    all_goals(refine ap yY hQ ?_)
    all_goals(refine⟨_,_,Wk.of_eq ?_,?_,rfl,rfl⟩)
    ·rw[show _=R from HE]
    ·exact HF.out
   ·rw[if_neg (fun h=>hcn h.symm)]at hE
    have HE:=u_ hE
    have hcf:(cn=n)=False:=eq_false hcn
    clear hE
    (repeat'(first|refine Ctl ?_|((with_reducible refine j_ hK ?_);clear hK hE K E)|((with_reducible refine aj (fun h=>?_) (fun h=>?_))<;>(try(exfalso;assumption)))|(((with_reducible refine ae fun K E hK hE=>?_))<;>(try simp(disch:=omega) only[go_sem,seval,aB, *]))))
    exact⟨s',Fg.refl _,m - 1,by omega,i+1,by omega,by omega,rfl,HE,ab,ab,ab⟩
  ·have hE:=HE.out
   rw[show i=cs.length by omega,zu]at hE
   have HE2:=u_ hE
   clear hE HE
   (repeat'(first|refine Ctl ?_|((with_reducible refine j_ hK ?_);clear hK hE K E)|((with_reducible refine aj (fun h=>?_) (fun h=>?_))<;>(try(exfalso;assumption)))|(((with_reducible refine ae fun K E hK hE=>?_))<;>(try simp(disch:=omega) only[go_sem,seval, *]))))
   all_goals(refine ap yY hQ ?_)
   all_goals(refine⟨_,_,Wk.of_eq ?_,?_,rfl,rfl⟩)
   ·rw[show _=R from HE2]
   ·exact HF.out
set_option maxHeartbeats 4000000 in
theorem Bj (x:Pgm)(hx:PgmOk x)(s:St):SRet Tryz.prog 123 [.agg (pgC x)] s (.bool (cE x)) s:=by
  obtain⟨h1,h2,h3,h4,h5,h6⟩:=hx
  obtain⟨ds,cs,rs⟩:=x
  simp only at h1 h2 h3 h4 h5 h6
  refine bh Tryz.func123 rfl Tryz.ntmps123 rfl fun Q hQ hQe=>?_
  (repeat'(first|refine Ctl ?_|((with_reducible refine j_ hK ?_);clear hK hE K E)|((with_reducible refine aj (fun h=>?_) (fun h=>?_))<;>(try(exfalso;assumption)))|((first|(with_reducible refine ae fun K E hK hE=>?_)|((with_reducible refine ao (fun b hb=>?_)))|((with_reducible refine dC (fun h=>?_) (fun h=>?_))))<;>(try simp(disch:=omega) only[go_sem,seval,a_,pgC, *]))))
  all_goals first
    | ((first | refine ap gU hQ ?_ | refine eE gU hQ ?_ | refine kB hQ ?_)
       (refine⟨_,_,Wk.of_eq ?_,?_,rfl,rfl⟩)
       · simp[cE];omega
       · (exact bj))
    |skip
  have hs32:ds.length<=32/\cs.length<=32/\rs.length<=64:=by omega
  have HS:=u_ hs32
  clear hs32
  have hb0:s.set b (.obj 26 [.lst (ds.map dmC) .no,.lst (cs.map aB) .no,.lst (rs.map az) .no]) b=.obj 26 [.lst (ds.map dmC) .no,.lst (cs.map aB) .no,.lst (rs.map az) .no]:=q_ _ _ _
  have hF0:Fg (s.set b (.obj 26 [.lst (ds.map dmC) .no,.lst (cs.map aB) .no,.lst (rs.map az) .no])) s:=v_ _ hb
  obtain⟨bp,hbp⟩:∃bp,bp=b:=⟨_,rfl⟩
  subst hbp
  generalize s.set bp (.obj 26 [.lst (ds.map dmC) .no,.lst (cs.map aB) .no,.lst (rs.map az) .no])=B at *
  have hbf:B bp≠.free:=by rw[hb0];simp
  have HF:=u_ hF0
  rename_i q1 q2
  clear hF0 hb q1 q2 h
  refine aI (fun m env s'=>∃i:Nat,i<=ds.length/\m+i=ds.length/\s'=B/\(ds.take i).all dmB=true/\env 1=.ptr bp 0/\env 3=.int .i64 i) ds.length ?_ ?_
  · exact⟨B,Fg.refl _,0,by omega,by omega,rfl,rfl,ab,ab⟩
  · rintro m env s' ⟨i,hi,hm,rfl,hall,e1,e3⟩
    by_cases hlt:i<ds.length
    · obtain⟨c,hc⟩:=aO hlt
      have hsx:=fR hc
      have HX:=u_ hc
      have HH:=u_ hall
      clear hc hall
      obtain⟨cn,cz⟩:=c
      have w1:=fun s=>kz cn s
      have w2:=fun s=>wB cz s
      cases hn:c6 cn
      all_goals cases hz:(decide (0<=cz) && decide (cz<=9999999999))
      all_goals rw[hn]at w1
      all_goals rw[hz]at w2
      all_goals
        (repeat'(first|refine Ctl ?_|((with_reducible refine j_ hK ?_);clear hK hE K E)|((with_reducible refine aj (fun h=>?_) (fun h=>?_))<;>(try(exfalso;assumption)))|(((with_reducible first|refine ae fun K E hK hE=>?_|refine ak kZ (w1 _) ?_|refine ak AK (w2 _) ?_))<;>(try simp(disch:=omega) only[go_sem,seval,a_,dmC, *]))))
      all_goals first
        | (have hres : cE ⟨ds, cs, rs⟩ = false := by unfold cE; simp only; rw [bJ (p := dmB) HX.out (by simp [dmB, hn] at hz ⊢; try grind)]; simp
           (refine ap gU hQ ?_)
           (refine⟨_,_,Wk.of_eq ?_,?_,rfl,rfl⟩)
           · rw[hres]
           · exact HF.out)
        |exact⟨s',Fg.refl _,m - 1,by omega,i+1,by omega,by omega,rfl,bB HH.out HX.out (by simp[dmB,hn]at hz ⊢;grind),ab,ab⟩
    · have hiL:i=ds.length:=by omega
      rw[hiL,f_]at hall
      have HA:=u_ hall
      clear hall
      (repeat'(first|refine Ctl ?_|((with_reducible refine j_ hK ?_);clear hK hE K E)|((with_reducible refine aj (fun h=>?_) (fun h=>?_))<;>(try(exfalso;omega)))|(((with_reducible refine ae fun K E hK hE=>?_))<;>(try simp(disch:=omega) only[go_sem,seval,a_, *]))))
      clear e3 h hlt hiL hi hm
      refine aI (fun m env t=>∃i:Nat,i<=cs.length/\m+i=cs.length/\t=s'/\(cs.take i).all eO=true/\env 1=.ptr bp 0/\env 4=.int .i64 i) cs.length ?_ ?_
      · exact⟨s',Fg.refl _,0,by omega,by omega,rfl,rfl,ab,ab⟩
      · clear e1 env
        rintro m env t ⟨i,hi,hm,rfl,hall,e1,e4⟩
        by_cases hlt:i<cs.length
        · obtain⟨c,hc⟩:=aO hlt
          obtain⟨hc1,hc2,hc3⟩:=h5 c (p_ hc)
          have hsx:=c9 hc
          have HX:=u_ hc
          have HH:=u_ hall
          clear hc hall
          obtain⟨cn,cd⟩:=c
          simp only at hc1 hc2 hc3
          have hsl:(aw cd).length=cd.length:=by simp[aw]
          (repeat'(first|refine Ctl ?_|((with_reducible refine j_ hK ?_);clear hK hE K E)|((with_reducible refine aj (fun h=>?_) (fun h=>?_))<;>(try(exfalso;assumption)))|((first|(with_reducible first|refine ae fun K E hK hE=>?_|refine ak kZ (kz _ _) ?_)|((with_reducible refine ao (fun b hb=>?_)))|((with_reducible refine dC (fun h=>?_) (fun h=>?_))))<;>(try simp(disch:=omega) only[go_sem,seval,a_,aB, *]))))
          all_goals first
            | (have hres : cE ⟨ds, cs, rs⟩ = false := by unfold cE; simp only; rw [bJ (p := eO) HX.out (so (by first | exact .inl (by assumption) | exact .inr (.inl (by omega)) | exact .inr (.inr (by omega))))]; simp
               (refine ap gU hQ ?_)
               (refine⟨_,_,Wk.of_eq ?_,?_,rfl,rfl⟩)
               · rw[hres]
               · exact(v_ _ hb).trans HF.out)
            |skip
          have HG:c6 cn=true/\cd.length≠0/\cd.length<=8:=⟨by assumption,by omega,by omega⟩
          obtain⟨bd,hbd⟩:∃x,x=b:=⟨_,rfl⟩
          subst hbd
          have hd0:t.set bd (.obj 66 [.str cn,.lst (aw cd) .no]) bd=.obj 66 [.str cn,.lst (aw cd) .no]:=q_ _ _ _
          have hp0:t.set bd (.obj 66 [.str cn,.lst (aw cd) .no]) bp=.obj 26 [.lst (ds.map dmC) .no,.lst (cs.map aB) .no,.lst (rs.map az) .no]:=by rw[k_ _ _ (by intro e;rw[e]at hbf;exact hbf hb)];exact hb0
          have hFd:Fg (t.set bd (.obj 66 [.str cn,.lst (aw cd) .no])) t:=v_ _ hb
          generalize t.set bd (.obj 66 [.str cn,.lst (aw cd) .no])=D at *
          have HFD:=u_ hFd
          clear hFd
          refine aI (fun m2 env t'=>∃j:Nat,j<=cd.length/\m2+j=cd.length/\t'=D/\(cd.take j).all c6=true/\env 1=.ptr bp 0/\env 4=.int .i64 i/\env 5=.ptr bd 0/\env 6=.int .i64 j) cd.length ?_ ?_
          · exact⟨D,Fg.refl _,0,by omega,by omega,rfl,rfl,ab,ab,ab,ab⟩
          · clear e1 e4 env
            rintro m2 env t' ⟨j,hj,hm2,rfl,hall,e1,e4,e5,e6⟩
            by_cases hlt2:j<cd.length
            · obtain⟨c,hc⟩:=aO hlt2
              have hsy:=c8 hc
              have HY:=u_ hc
              have HH2:=u_ hall
              clear hc hall
              (repeat'(first|refine Ctl ?_|((with_reducible refine j_ hK ?_);clear hK hE K E)|((with_reducible refine aj (fun h=>?_) (fun h=>?_))<;>(try(exfalso;assumption)))|(((with_reducible first|refine ae fun K E hK hE=>?_|refine ak kZ (kz _ _) ?_))<;>(try simp(disch:=omega) only[go_sem,seval, *]))))
              all_goals first
                | (have hres : cE ⟨ds, cs, rs⟩ = false := by unfold cE; simp only; rw [bJ (p := eO) HX.out (by unfold eO; simp only; rw [bJ (p := c6) HY.out (by assumption)]; simp)]; simp
                   (refine ap gU hQ ?_)
                   (refine⟨_,_,Wk.of_eq ?_,?_,rfl,rfl⟩)
                   · rw[hres]
                   · exact HFD.out.trans HF.out)
                |exact⟨t',Fg.refl _,m2 - 1,by omega,j+1,by omega,by omega,rfl,bB HH2.out HY.out (by assumption),ab,ab,ab,ab⟩
            · have hjL:j=cd.length:=by omega
              rw[hjL,f_]at hall
              have HA2:=u_ hall
              clear hall
              (repeat'(first|refine Ctl ?_|((with_reducible refine j_ hK ?_);clear hK hE K E)|((with_reducible refine aj (fun h=>?_) (fun h=>?_))<;>(try(exfalso;omega)))|(((with_reducible refine ae fun K E hK hE=>?_))<;>(try simp(disch:=omega) only[go_sem,seval, *]))))
              exact⟨t,HFD.out,m - 1,by omega,i+1,by omega,by omega,rfl,bB HH.out HX.out (by have:=HA2.out;simp[eO,HG,this]),ab,ab⟩
        · have hiL:i=cs.length:=by omega
          rw[hiL,f_]at hall
          have HA2:=u_ hall
          clear hall
          (repeat'(first|refine Ctl ?_|((with_reducible refine j_ hK ?_);clear hK hE K E)|((with_reducible refine aj (fun h=>?_) (fun h=>?_))<;>(try(exfalso;omega)))|(((with_reducible refine ae fun K E hK hE=>?_))<;>(try simp(disch:=omega) only[go_sem,seval,a_, *]))))
          clear e4 h hlt hiL hi hm
          refine aI (fun m env s'=>∃i:Nat,i<=rs.length/\m+i=rs.length/\s'=t/\(rs.take i).all d8=true/\env 1=.ptr bp 0/\env 7=.int .i64 i) rs.length ?_ ?_
          · exact⟨t,Fg.refl _,0,by omega,by omega,rfl,rfl,ab,ab⟩
          · clear e1 env
            rintro m env s' ⟨i,hi,hm,rfl,hall,e1,e7⟩
            by_cases hlt:i<rs.length
            · obtain⟨c,hc⟩:=aO hlt
              obtain⟨hc1,hc2,hc3⟩:=h6 c (p_ hc)
              have hsx:=fm hc
              have HX:=u_ hc
              have HH:=u_ hall
              clear hc hall
              obtain⟨⟨hn,hr,ht⟩,cb⟩:=c
              simp only at hc1 hc2 hc3
              have w1:=fun s=>pG ⟨hn,hr,ht⟩ .no hc1 s
              simp only at w1
              cases hn
              all_goals
                (repeat'(first|refine Ctl ?_|((with_reducible refine j_ hK ?_);clear hK hE K E)|((with_reducible refine aj (fun h=>?_) (fun h=>?_))<;>(try(exfalso;assumption)))|((first|(with_reducible first|refine ae fun K E hK hE=>?_|refine ak AJ (w1 _) ?_)|((with_reducible refine ao (fun b hb=>?_)))|((with_reducible refine dC (fun h=>?_) (fun h=>?_))))<;>(try simp(disch:=omega) only[go_sem,seval,a_,az, *]))))
              all_goals first
                | (have hres : cE ⟨ds, cs, rs⟩ = false := by unfold cE; simp only; rw [bJ (p := d8) HX.out (rg (by first | exact .inl rfl | exact .inr (.inl (by assumption)) | exact .inr (.inr (.inl (of_eq_true (by assumption)))) | exact .inr (.inr (.inr (.inl (of_eq_true (by assumption))))) | exact .inr (.inr (.inr (.inr (by omega))))))]; simp
                   (refine ap gU hQ ?_)
                   (refine⟨_,_,Wk.of_eq ?_,?_,rfl,rfl⟩)
                   · rw[hres]
                   · exact(v_ _ hb).trans HF.out)
                |skip
              have HG:dl ⟨false,hr,ht⟩=true/\¬ hr=[100,111,109]/\¬ hr=[114,101,108]/\cb.length<=8:=⟨by assumption,by assumption,by assumption,by omega⟩
              clear w1
              obtain⟨bd,hbd⟩:∃x,x=b:=⟨_,rfl⟩
              subst hbd
              have hd0:s'.set bd (.obj 43 [.bool false,.str hr,.lst (ht.map aA) .no,.lst (cb.map aF) .no]) bd=.obj 43 [.bool false,.str hr,.lst (ht.map aA) .no,.lst (cb.map aF) .no]:=q_ _ _ _
              have hp0:s'.set bd (.obj 43 [.bool false,.str hr,.lst (ht.map aA) .no,.lst (cb.map aF) .no]) bp=.obj 26 [.lst (ds.map dmC) .no,.lst (cs.map aB) .no,.lst (rs.map az) .no]:=by rw[k_ _ _ (by intro e;rw[e]at hbf;exact hbf hb)];exact hb0
              have hFd:Fg (s'.set bd (.obj 43 [.bool false,.str hr,.lst (ht.map aA) .no,.lst (cb.map aF) .no])) s':=v_ _ hb
              generalize s'.set bd (.obj 43 [.bool false,.str hr,.lst (ht.map aA) .no,.lst (cb.map aF) .no])=D at *
              have HFD:=u_ hFd
              clear hFd
              refine aI (fun m2 env t'=>∃j:Nat,j<=cb.length/\m2+j=cb.length/\t'=D/\(cb.take j).all dl=true/\env 1=.ptr bp 0/\env 7=.int .i64 i/\env 8=.ptr bd 0/\env 9=.int .i64 j) cb.length ?_ ?_
              · exact⟨D,Fg.refl _,0,by omega,by omega,rfl,rfl,ab,ab,ab,ab⟩
              · clear e1 e7 env
                rintro m2 env t' ⟨j,hj,hm2,rfl,hall,e1,e7,e8,e9⟩
                by_cases hlt2:j<cb.length
                · obtain⟨c,hc⟩:=aO hlt2
                  have hcl:=hc3 c (p_ hc)
                  have hsy:=c5 hc
                  have HY:=u_ hc
                  have HH2:=u_ hall
                  clear hc hall
                  obtain⟨an,ar,at_⟩:=c
                  have w1:=fun s=>pG ⟨an,ar,at_⟩ .no hcl s
                  simp only at w1
                  (repeat'(first|refine Ctl ?_|((with_reducible refine j_ hK ?_);clear hK hE K E)|((with_reducible refine aj (fun h=>?_) (fun h=>?_))<;>(try(exfalso;assumption)))|(((with_reducible first|refine ae fun K E hK hE=>?_|refine ak AJ (w1 _) ?_))<;>(try simp(disch:=omega) only[go_sem,seval,a_,aF, *]))))
                  all_goals first
                    | (have hres : cE ⟨ds, cs, rs⟩ = false := by unfold cE; simp only; rw [bJ (p := d8) HX.out (by unfold d8; simp only; rw [bJ (p := dl) HY.out (by assumption)]; simp)]; simp
                       (refine ap gU hQ ?_)
                       (refine⟨_,_,Wk.of_eq ?_,?_,rfl,rfl⟩)
                       · rw[hres]
                       · exact HFD.out.trans HF.out)
                    |exact⟨t',Fg.refl _,m2 - 1,by omega,j+1,by omega,by omega,rfl,bB HH2.out HY.out (by assumption),ab,ab,ab,ab⟩
                · have hjL:j=cb.length:=by omega
                  rw[hjL,f_]at hall
                  have HA3:=u_ hall
                  clear hall
                  (repeat'(first|refine Ctl ?_|((with_reducible refine j_ hK ?_);clear hK hE K E)|((with_reducible refine aj (fun h=>?_) (fun h=>?_))<;>(try(exfalso;omega)))|(((with_reducible refine ae fun K E hK hE=>?_))<;>(try simp(disch:=omega) only[go_sem,seval,a_, *]))))
                  exact⟨s',HFD.out,m - 1,by omega,i+1,by omega,by omega,rfl,bB HH.out HX.out (by have:=HA3.out;simp[d8,HG,this]),ab,ab⟩
            · have hiL:i=rs.length:=by omega
              rw[hiL,f_]at hall
              have HA3:=u_ hall
              clear hall
              (repeat'(first|refine Ctl ?_|((with_reducible refine j_ hK ?_);clear hK hE K E)|((with_reducible refine aj (fun h=>?_) (fun h=>?_))<;>(try(exfalso;omega)))|(((with_reducible refine ae fun K E hK hE=>?_))<;>(try simp(disch:=omega) only[go_sem,seval,a_, *]))))
              all_goals(refine ap gU hQ ?_)
              all_goals(refine⟨_,_,Wk.of_eq ?_,?_,rfl,rfl⟩)
              · have k1:=HA.out;have k2:=HA2.out;have k3:=HA3.out;simp[cE,k1,k2,k3,HS.out]
              · exact HF.out
section
attribute [local go_sem] d_
end
end Go.Proofs.YteldpmgepfaiiaaGreatDoor
namespace Go.Proofs.YteldpmgepfaiiaaGreatDoor
open Go.RowKit
def xL (ds:List Dm)(n:List UInt8)(i:Nat):Int:=dM (ds.drop i) n
theorem Aj {ds:List Dm}{n:List UInt8}:xL ds n ds.length=0:=by unfold xL;rw[G_];rfl
theorem CU {ds:List Dm}{n:List UInt8}{i:Nat}{c:Dm}(h:ds[i]?=some c):xL ds n i=if n=c.name then c.size else xL ds n (i+1):=by
 have hlt:i<ds.length:=(n_.1 h).1
 have hc:ds[i]=c:=by rw[b_ hlt]at h;injection h
 unfold xL
 rw[g_ hlt,hc]
 rfl
set_option maxHeartbeats 2000000 in
theorem uM (x:Pgm)(n:List UInt8)(hx:x.doms.length<=140737488355328)(t:St):SRet Tryz.prog 18 [.agg (pgC x),.str n] t (.int .i64 (dM x.doms n)) t:=by
 obtain⟨ds,cs,rs⟩:=x
 simp only[pgC]at hx ⊢
 generalize cs.map aB=x1
 generalize rs.map az=x3
 have hl:(ds.map dmC).length=ds.length:=by simp
 generalize hR:dM ds n=R
 have HR:=u_ hR
 clear hR
 refine bh Tryz.func18 rfl Tryz.ntmps18 rfl fun Q hQ hQe=>?_
 (repeat'(first|refine Ctl ?_|((with_reducible refine j_ hK ?_);clear hK hE K E)|((first|(with_reducible refine ae fun K E hK hE=>?_)|((with_reducible refine ao (fun b hb=>?_))))<;>(try simp(disch:=omega) only[go_sem,seval, *]))))
 have hSb:(t.set b (.obj 26 [.lst (ds.map dmC) .no,.lst x1 .no,.lst x3 .no])) b=.obj 26 [.lst (ds.map dmC) .no,.lst x1 .no,.lst x3 .no]:=q_ _ _ _
 have hF:Fg (t.set b (.obj 26 [.lst (ds.map dmC) .no,.lst x1 .no,.lst x3 .no])) t:=v_ _ hb
 generalize t.set b (.obj 26 [.lst (ds.map dmC) .no,.lst x1 .no,.lst x3 .no])=S at *
 have HF:=u_ hF
 clear hF hb
 refine aI (fun m env s'=>∃i:Nat,i<=ds.length/\m+i=ds.length/\s'=S/\Hid (xL ds n i=R)/\env 2=.ptr b 0/\env 1=.str n/\env 5=.int .i64 i) ds.length ?_ ?_
 ·exact⟨S,Fg.refl _,0,by omega,by omega,rfl,HR,ab,ab,ab⟩
 ·clear HR
  rintro m env s' ⟨i,hi,hm,rfl,HE,e2,e1,e5⟩
  by_cases hlt:i<ds.length
  ·obtain⟨c,hc⟩:=aO hlt
   have hsx:=fR hc
   have hE:=HE.out
   rw[CU hc]at hE
   obtain⟨cn,cd⟩:=c
   simp only at hE
   clear hc HE
   by_cases hcn:cn=n
   ·subst hcn
    rw[if_pos rfl]at hE
    have HE:=u_ hE
    clear hE
    (repeat'(first|refine Ctl ?_|((with_reducible refine j_ hK ?_);clear hK hE K E)|((with_reducible refine aj (fun h=>?_) (fun h=>?_))<;>(try(exfalso;assumption)))|(((with_reducible refine ae fun K E hK hE=>?_))<;>(try simp(disch:=omega) only[go_sem,seval,dmC, *]))))
    all_goals(refine ap ze hQ ?_)
    all_goals(refine⟨_,_,Wk.of_eq ?_,?_,rfl,rfl⟩)
    ·rw[show _=R from HE]
    ·exact HF.out
   ·rw[if_neg (fun h=>hcn h.symm)]at hE
    have HE:=u_ hE
    have hcf:(cn=n)=False:=eq_false hcn
    clear hE
    (repeat'(first|refine Ctl ?_|((with_reducible refine j_ hK ?_);clear hK hE K E)|((with_reducible refine aj (fun h=>?_) (fun h=>?_))<;>(try(exfalso;assumption)))|(((with_reducible refine ae fun K E hK hE=>?_))<;>(try simp(disch:=omega) only[go_sem,seval,dmC, *]))))
    exact⟨s',Fg.refl _,m - 1,by omega,i+1,by omega,by omega,rfl,HE,ab,ab,ab⟩
  ·have hE:=HE.out
   rw[show i=ds.length by omega,Aj]at hE
   have HE2:=u_ hE
   clear hE HE
   (repeat'(first|refine Ctl ?_|((with_reducible refine j_ hK ?_);clear hK hE K E)|((with_reducible refine aj (fun h=>?_) (fun h=>?_))<;>(try(exfalso;assumption)))|(((with_reducible refine ae fun K E hK hE=>?_))<;>(try simp(disch:=omega) only[go_sem,seval, *]))))
   all_goals(refine ap ze hQ ?_)
   all_goals(refine⟨_,_,Wk.of_eq ?_,?_,rfl,rfl⟩)
   ·rw[show _=R from HE2]
   ·exact HF.out
def ixZ (n:List UInt8)(l:List (List UInt8)):Int:=match ixT n l with|some k=>k|none=>-1
def ixD (n:List UInt8)(l:List (List UInt8))(i:Nat):Int:=match ixT n (l.drop i)with|some k=>((k+i:Nat):Int)|none=>-1
theorem Cy {n:List UInt8}{l:List (List UInt8)}:ixD n l l.length=-1:=by unfold ixD;rw[G_];rfl
theorem Hi {n c:List UInt8}{l:List (List UInt8)}{i:Nat}(h:l[i]?=some c):ixD n l i=if n=c then(i:Int)else ixD n l (i+1):=by
 have hlt:i<l.length:=(n_.1 h).1
 have hc:l[i]=c:=by rw[b_ hlt]at h;injection h
 unfold ixD
 rw[g_ hlt,hc]
 simp only[ixT]
 by_cases e:n=c
 ·rw[if_pos e,if_pos e];simp
 ·rw[if_neg e,if_neg e]
  cases ixT n (l.drop (i+1))with
  |none=>rfl
  |some k=>simp only[Option.map_some];congr 1;omega
set_option maxHeartbeats 2000000 in
theorem Di (l:List (List UInt8))(n:List UInt8)(o:Own)(hx:l.length<=140737488355328)(t:St):SRet Tryz.prog 112 [.lst (aw l) o,.str n] t (.int .i64 (ixZ n l)) t:=by
 have hl:(aw l).length=l.length:=by simp[aw]
 generalize hR:ixZ n l=R
 have HR:=u_ hR
 clear hR
 refine bh Tryz.func112 rfl Tryz.ntmps112 rfl fun Q hQ hQe=>?_
 (repeat'(first|refine Ctl ?_|((with_reducible refine j_ hK ?_);clear hK hE K E)|(((with_reducible refine ae fun K E hK hE=>?_))<;>(try simp(disch:=omega) only[go_sem,seval, *]))))
 refine aI (fun m env s'=>∃i:Nat,i<=l.length/\m+i=l.length/\s'=t/\Hid (ixD n l i=R)/\env 0=.lst (aw l) o/\env 1=.str n/\env 5=.int .i64 i) l.length ?_ ?_
 ·exact⟨_,Fg.refl _,0,by omega,by omega,rfl,HR,ab,ab,ab⟩
 ·clear HR
  rintro m env s' ⟨i,hi,hm,rfl,HE,e0,e1,e5⟩
  by_cases hlt:i<l.length
  ·obtain⟨c,hc⟩:=aO hlt
   have hsx:=c8 hc
   have hE:=HE.out
   rw[Hi hc]at hE
   clear hc HE
   by_cases hcn:c=n
   ·subst hcn
    rw[if_pos rfl]at hE
    have HE:=u_ hE
    clear hE
    (repeat'(first|refine Ctl ?_|((with_reducible refine j_ hK ?_);clear hK hE K E)|((with_reducible refine aj (fun h=>?_) (fun h=>?_))<;>(try(exfalso;assumption)))|(((with_reducible refine ae fun K E hK hE=>?_))<;>(try simp(disch:=omega) only[go_sem,seval, *]))))
    all_goals(refine ap tL hQ ?_)
    all_goals(refine⟨_,_,Wk.of_eq ?_,?_,rfl,rfl⟩)
    ·rw[show _=R from HE]
    ·(exact bj)
   ·rw[if_neg (fun h=>hcn h.symm)]at hE
    have HE:=u_ hE
    have hcf:(c=n)=False:=eq_false hcn
    clear hE
    (repeat'(first|refine Ctl ?_|((with_reducible refine j_ hK ?_);clear hK hE K E)|((with_reducible refine aj (fun h=>?_) (fun h=>?_))<;>(try(exfalso;assumption)))|(((with_reducible refine ae fun K E hK hE=>?_))<;>(try simp(disch:=omega) only[go_sem,seval, *]))))
    exact⟨s',Fg.refl _,m - 1,by omega,i+1,by omega,by omega,rfl,HE,ab,ab,ab⟩
  ·have hE:=HE.out
   rw[show i=l.length by omega,Cy]at hE
   have HE2:=u_ hE
   clear hE HE
   (repeat'(first|refine Ctl ?_|((with_reducible refine j_ hK ?_);clear hK hE K E)|((with_reducible refine aj (fun h=>?_) (fun h=>?_))<;>(try(exfalso;assumption)))|(((with_reducible refine ae fun K E hK hE=>?_))<;>(try simp(disch:=omega) only[go_sem,seval, *]))))
   all_goals(refine ap tL hQ ?_)
   all_goals(refine⟨_,_,Wk.of_eq ?_,?_,rfl,rfl⟩)
   ·rw[show _=R from HE2]
   ·(exact bj)
theorem kF {x:Pgm}(h:(soundP x).2.1≠0):(soundP x).2.2=[]:=by
 unfold soundP at h ⊢
 by_cases hr:cD x=0
 ·rw[if_neg (by simp[hr])]at h ⊢
  cases hb:fV x 0 x.rules with
  |some q=>rfl
  |none=>
   rw[hb]at h
   simp only at h ⊢
   cases hs:stgP x with
   |none=>rfl
   |some l=>rw[hs]at h;exact absurd rfl h
 ·rw[if_pos hr]
theorem sG {p:Pgm}:∀(l:List Rul) (k i:Nat) (e:Int),fV p k l=some (i,e)->e≠0
 |[],_,_,_,h=>by cases h
 |a::l,k,i,e,h=>by
  simp only[fV]at h
  cases ha:cF p a with
  |error e'=>rw[ha]at h;injection h with h;injection h with h1 h2;subst h2;exact jD ha
  |ok Y=>rw[ha]at h;exact sG l (k+1) i e h
theorem eW {x:Pgm}(h:(soundP x).2.1=0):∃l,soundP x=(-1,0,l)/\cD x=0/\fV x 0 x.rules=none/\stgP x=some l:=by
 unfold soundP at h ⊢
 by_cases hr:cD x=0
 ·rw[if_neg (by simp[hr])]at h ⊢
  cases hb:fV x 0 x.rules with
  |some q=>rw[hb]at h;obtain⟨k,e⟩:=q;exact absurd h (sG _ _ _ _ hb)
  |none=>
   rw[hb]at h
   simp only at h ⊢
   cases hs:stgP x with
   |none=>rw[hs]at h;cases h
   |some l=>exact⟨l,rfl,hr,trivial,rfl⟩
 ·rw[if_pos hr]at h;exact absurd h hr
theorem wj {p:Pgm}{X Y:Scp}{a:Atm}(h:ce p X a=.ok Y):ey p.decls a.rel=(ixR p a.rel:Int):=by
 unfold ce at h
 unfold ixR ey
 cases hk:cW p.decls a.rel with
 |none=>rw[hk]at h;cases h
 |some k=>rfl
theorem sH {p:Pgm}:∀(l:List Atm) {X Y:Scp},cU p X l=.ok Y->∀a,a∈l->ey p.decls a.rel=(ixR p a.rel:Int)
 |[],_,_,_,a,ha=>by cases ha
 |b::l,X,Y,h,a,ha=>by
  simp only[cU]at h
  cases hb:ce p X b with
  |error e=>rw[hb]at h;cases h
  |ok Z=>
   rw[hb,eK]at h
   rcases F_.1 ha with rfl|ha
   ·exact wj hb
   ·exact sH l h a ha
theorem yE {p:Pgm}{r:Rul}{Y:Scp}(h:cF p r=.ok Y):ey p.decls r.head.rel=(ixR p r.head.rel:Int)/\∀a,a∈r.body->ey p.decls a.rel=(ixR p a.rel:Int):=by
 unfold cF at h
 cases h1:ce p ⟨[],[]⟩ r.head with
 |error e=>rw[h1]at h;cases h
 |ok X=>
  rw[h1,eK]at h
  cases h2:cU p X r.body with
  |error e=>rw[h2]at h;cases h
  |ok Z=>exact⟨wj h1,sH _ h2⟩
theorem oD {x:Pgm}(h:fV x 0 x.rules=none){r:Rul}(hr:r∈x.rules) :
  (ixR x r.head.rel<x.decls.length/\ey x.decls r.head.rel=(ixR x r.head.rel:Int))/\∀a,a∈r.body->ixR x a.rel<x.decls.length/\ey x.decls a.rel=(ixR x a.rel:Int):=by
 obtain⟨Y,hY⟩:=fT _ _ h r hr
 have h1:=jC hY
 have h2:=yE hY
 exact⟨⟨h1.1,h2.1⟩,fun a ha=>⟨h1.2 a ha,h2.2 a ha⟩⟩
def iL (l:List Nat):List (List VV):=ay (List.map (fun n:Nat=>(n:Int)) l)
theorem uj {l:List Nat}:(iL l).length=l.length:=by simp[iL,ay]
theorem Aa {l:List Nat}{i:Nat}(h:i<l.length):(iL l)[i]?=some [.int .i64 (gt l i:Int)]:=by
 have:=lE h
 simp[iL,ay,this]
def Rch (l:List Nat)(F:List Edg)(R:List Bool):Prop:=∀e,e∈F->gt l e.h=gt l e.b+e.w->R[e.h]?=some true
theorem Rch.step {l:List Nat}{F:List Edg}{R:List Bool}{e:Edg}{b:Bool}(H:Rch l F R)(hb:R[e.h]?=some b):Rch l (F++[e]) (R.set e.h (b || decide (gt l e.h=gt l e.b+e.w))):=by
 have hlt:e.h<R.length:=(n_.1 hb).1
 intro e' he' hg
 rw[List.getElem?_set]
 rcases l_.1 he' with h|h
 ·have:=H e' h hg
  by_cases hh:e.h=e'.h
  ·rw[if_pos hh,if_pos hlt]
   rw[<- hh,hb]at this
   injection this with this
   subst this
   simp
  ·rw[if_neg hh];exact this
 ·rw[e_]at h
  subst h
  rw[if_pos rfl,if_pos hlt]
  simp[hg]
theorem LC {p q:Pgm}(h1:q.doms=p.doms)(h2:q.decls=p.decls)(X:Scp)(a:Atm):ce q X a=ce p X a:=by
 unfold ce;rw[h1,h2]
theorem Lw {p q:Pgm}(h1:q.doms=p.doms)(h2:q.decls=p.decls):∀(l:List Atm) (X:Scp),cU q X l=cU p X l
 |[],X=>rfl
 |a::l,X=>by
  simp only[cU]
  rw[LC h1 h2]
  cases ce p X a with
  |error e=>rfl
  |ok Y=>exact Lw h1 h2 l Y
theorem LK {p q:Pgm}(h1:q.doms=p.doms)(h2:q.decls=p.decls)(r:Rul):cF q r=cF p r:=by
 unfold cF
 rw[LC h1 h2]
 cases ce p ⟨[],[]⟩ r.head with
 |error e=>rfl
 |ok Y=>simp only[eK];rw[Lw h1 h2]
theorem LG {p:Pgm}:∀(l:List Rul) (k:Nat),(∀r,r∈l->∃Y,cF p r=.ok Y)->fV p k l=none
 |[],_,_=>rfl
 |a::l,k,h=>by
  obtain⟨Y,hY⟩:=h a (by simp)
  simp only[fV]
  rw[hY]
  exact LG l (k+1) fun r hr=>h r (by simp[hr])
theorem LE {p q:Pgm}(h2:q.decls=p.decls)(r:Rul):jp q r=jp p r:=by
 unfold jp ixR;rw[h2]
theorem LO {p:Pgm}{e:Edg}(h:e∈gj p):∃r,r∈p.rules/\e∈jp p r:=by
 unfold gj at h
 obtain⟨l,hl,he⟩:=List.mem_flatten.1 h
 obtain⟨r,hr,rfl⟩:=E_.1 hl
 exact⟨r,hr,he⟩
theorem LW {p:Pgm}{e:Edg}{r:Rul}(hr:r∈p.rules)(he:e∈jp p r):e∈gj p:=
 List.mem_flatten.2 ⟨_,E_.2 ⟨r,hr,rfl⟩,he⟩
theorem zx {p:Pgm}(h:fV p 0 p.rules=none):InE p.decls.length (gj p):=by
 intro e he
 obtain⟨r,hr,he⟩:=LO he
 obtain⟨⟨h1,_⟩,h2⟩:=oD h hr
 unfold jp at he
 obtain⟨a,ha,rfl⟩:=E_.1 he
 exact⟨h1,(h2 a ha).1⟩
theorem yr {x:Pgm}(h:cE x=true){rs:List Rul}(hs:∀r,r∈rs->r∈x.rules)(hl:rs.length<=x.rules.length):cE ⟨x.doms,x.decls,rs⟩=true:=by
 simp only[cE,Bool.and_eq_true,decide_eq_true_eq,List.all_eq_true]at h ⊢
 obtain⟨⟨⟨⟨⟨h1,h2⟩,h3⟩,h4⟩,h5⟩,h6⟩:=h
 exact⟨⟨⟨⟨⟨h1,h2⟩,by omega⟩,h4⟩,h5⟩,fun r hr=>h6 r (hs r hr)⟩
theorem ur {x:Pgm}(h:cD x=0){rs:List Rul}(hs:∀r,r∈rs->r∈x.rules)(hl:rs.length<=x.rules.length):cD ⟨x.doms,x.decls,rs⟩=0:=by
 have hp:=yr (dQ h) hs hl
 have hp0:=dQ h
 unfold cD at h ⊢
 rw[hp0]at h
 rw[hp]
 exact h
theorem sW {x:Pgm}(h:(soundP x).2.1=0){rs:List Rul}(hs:∀r,r∈rs->r∈x.rules)(hl:rs.length<=x.rules.length) :
  ∃l m,soundP x=(-1,0,l)/\soundP ⟨x.doms,x.decls,rs⟩=(-1,0,m)/\l.length=x.decls.length/\m.length=x.decls.length/\(∀i,gt m i<=gt l i)/\(∀i,i<x.decls.length->gt l i<x.decls.length)/\x.decls.length<=32:=by
 obtain⟨l,h1,hr,hb,hst⟩:=eW h
 have hL:=kE hst
 have hb':fV ⟨x.doms,x.decls,rs⟩ 0 rs=none:=LG _ _ fun r hr=>by
  obtain⟨Y,hY⟩:=fT _ _ hb r (hs r hr)
  exact⟨Y,by exact(LK (p:=x) (q:=⟨x.doms,x.decls,rs⟩) rfl rfl r).trans hY⟩
 have hsub:∀e,e∈gj ⟨x.doms,x.decls,rs⟩->e∈gj x:=by
  intro e he
  obtain⟨r,hr,he⟩:=LO he
  rw[LE (p:=x) (q:=⟨x.doms,x.decls,rs⟩) rfl]at he
  exact LW (hs r hr) he
 have hS:Sol (gj ⟨x.doms,x.decls,rs⟩) (gt l):=Ak hL.2.1 hsub
 obtain⟨m,hM⟩:=j3 (n:=x.decls.length) (fun e he=>zx hb e (hsub e he)) hS hL.2.2.2
 refine⟨l,m,h1,?_,hL.1,hM.1,hM.2.2.1 _ hS,hL.2.2.2,(gX (dQ hr)).1⟩
 have hst':stgP ⟨x.doms,x.decls,rs⟩=some m:=mA hM
 unfold soundP
 rw[if_neg (by rw[ur hr hs hl];simp),hb',hst']
theorem PgmOk.sub {x:Pgm}(h:PgmOk x){rs:List Rul}(hs:∀r,r∈rs->r∈x.rules)(hl:rs.length<=x.rules.length):PgmOk ⟨x.doms,x.decls,rs⟩:=by
 obtain⟨h1,h2,h3,h4,h5,h6⟩:=h
 exact⟨h1,h2,by simp only;omega,h4,h5,fun y hy=>h6 y (hs y hy)⟩
end Go.Proofs.YteldpmgepfaiiaaGreatDoor
