/- Walks of functions, and plain facts. Conditions: those in the statements. -/
import Derived.Test.YteldpmgepfaiiaaGreatDoorQsYfj
import Derived.Test.YteldpmgepfaiiaaGreatDoorQsYnj
set_option linter.unusedSimpArgs false
set_option linter.unusedVariables false
set_option maxRecDepth 100000
namespace Go.Proofs.YteldpmgepfaiiaaGreatDoor
open Go.RowKit
attribute [local go_sem] lh lQ lg jk lf dF dE eA ed
attribute [local go_sem] aH aV cH
theorem rP {s:St}{p r e T' sz n i:Nat}{W:List Sgn}{o:Own}{c c':Cell}(hpr:¬ p=r)(ho:ay o p)(hr:ay o r) :
  ((Rw (s.set p c) r e W i).own o T' sz n).set p c'=Rw ((s.own o T' sz n).set p c') r e W i:=by
 rw[dE hr,aZ ho,jk (by simp[hpr]),St.set_set]
theorem rQ {s:St}{p r e T T' sz i n q:Nat}{W:List Sgn}{o:Own}{xs ys:List VV}{rs rs':List (Nat×TypeId×Nat)}{l:List (List VV)}(hpr:¬ p=r)(ho:ay o p)(hr:ay o r)(hO:OwnOk s o n)(hn:l.length=n)
  (hi:xs[i]?=some (.lst l o)) (hy:ys=xs.set i (.lst l .no)) (hrs:∀r,r∈rs'->r=(i,T',sz)\/(r∈rs/\r.1≠i)) :
  GS (Rw ((s.own o T' sz n).set p (.pk T xs rs)) r e W q) (Rw (s.set p (.pk T ys rs')) r e W q):=by
 subst hy
 subst hn
 have h:=GS.pack (s:=Rw ((s.own o T' sz l.length).set p (.pk T xs rs)) r e W q) (b:=p) (T:=T) (xs:=xs) (rs:=rs) (rs':=rs') (i:=i) (l:=l) (o:=o) (T':=T') (sz:=sz)
  (by rw[lf hpr,q_]) hi (by rw[ed hr,eX ho,gL hO];trivial) hrs
 rwa [dF hr,aQ ho,aS hO,jk (by simp[hpr]),St.set_set]at h
theorem nI {e hv m:Nat}{L L':List Sgn}{u:Unit}(h:ev e L hv m true=.ok (u,L')):hv<m:=by
 unfold ev at h
 split at h
 ·cases h
 ·rename_i hc
  rcases Nat.lt_or_ge hv m with h1|h1
  ·exact h1
  ·exact absurd ⟨h1,rfl⟩ hc
theorem Ek {e:Nat}{x y:Pgm}{L L':List Sgn}(h:El e x L=.ok (y,L')):x.doms.length<32/\∃a b c d,L=a::b::c::d::L'/\a.text=[100,111,109]/\b.kind=1/\c.kind=2/\d.text=[46]/\y=⟨x.doms++[⟨b.text,(ra c.text:Nat)⟩],x.decls,x.rules⟩:=by
 unfold El at h
 cases h0:ev e L x.doms.length 32 true with
 |error q=>rw[h0]at h;cases h
 |ok q=>
  obtain⟨u,L0⟩:=q
  have hl:=nI h0
  have e0:=gI h0
  subst e0
  rw[h0,bW]at h
  cases h1:dR e L0 [100,111,109]with
  |error q=>rw[h1]at h;cases h
  |ok q=>
   obtain⟨u,L1⟩:=q
   obtain⟨c1,rfl⟩:=ez h1
   rw[h1,bW]at h
   cases h2:ey e L0.tail with
   |error q=>rw[h2]at h;cases h
   |ok q=>
    obtain⟨n,L2⟩:=q
    rw[h2,bW]at h
    obtain⟨b,hb,hbk,hbt⟩:=dW h2
    cases h3:qZ e L2 with
    |error q=>rw[h3]at h;cases h
    |ok q=>
     obtain⟨z,L3⟩:=q
     rw[h3,bW]at h
     unfold qZ at h3
     cases h3':kM e L2 2 with
     |error q=>rw[h3']at h3;cases h3
     |ok q=>
      obtain⟨tx,L3'⟩:=q
      rw[h3',bW]at h3
      injection h3 with h3;injection h3 with e1 e2
      subst e1;subst e2
      obtain⟨c,hc,hck,hct⟩:=dW h3'
      cases h4:dR e L3' [46]with
      |error q=>rw[h4]at h;cases h
      |ok q=>
       obtain⟨u,L4⟩:=q
       obtain⟨c4,rfl⟩:=ez h4
       rw[h4,bW]at h
       injection h with h;injection h with e1 e2
       cases L0 with
       |nil=>simp[isT]at c1
       |cons a L0=>
        cases L3' with
        |nil=>simp[isT]at c4
        |cons d L3'=>
         simp only[List.tail_cons]at hb e2
         refine⟨hl,a,b,c,d,by rw[hb,hc,e2],by simpa [isT]using c1,hbk,hck,by simpa [isT]using c4,?_⟩
         rw[<- e1,hbt,hct]
theorem Dc {e:Nat}{x y:Pgm}{L L':List Sgn}(h:Dd e x L=.ok (y,L')):x.decls.length<32/\isT L 0 [114,101,108]=true/\∃d,tP e L.tail=.ok (d,L')/\y=⟨x.doms,x.decls++[d],x.rules⟩:=by
 unfold Dd at h
 cases h0:ev e L x.decls.length 32 true with
 |error q=>rw[h0]at h;cases h
 |ok q=>
  obtain⟨u,L0⟩:=q
  have hl:=nI h0
  have e0:=gI h0
  subst e0
  rw[h0,bW]at h
  cases h1:dR e L0 [114,101,108]with
  |error q=>rw[h1]at h;cases h
  |ok q=>
   obtain⟨u,L1⟩:=q
   obtain⟨c1,rfl⟩:=ez h1
   rw[h1,bW]at h
   refine⟨hl,c1,?_⟩
   unfold tP
   cases h2:ey e L0.tail with
   |error q=>rw[h2]at h;cases h
   |ok q=>
    obtain⟨n,L2⟩:=q
    rw[h2]at h
    simp only[bW]at h ⊢
    cases h3:iZ e (ey e) [1] L2 with
    |error q=>rw[h3]at h;cases h
    |ok q=>
     obtain⟨ds,L3⟩:=q
     rw[h3]at h
     simp only[bW]at h ⊢
     cases h4:dR e L3 [46]with
     |error q=>rw[h4]at h;cases h
     |ok q=>
      obtain⟨u,L4⟩:=q
      rw[h4]at h
      simp only[bW]at h ⊢
      injection h with h;injection h with e1 e2
      exact⟨⟨n,ds⟩,by rw[e2],e1.symm⟩
theorem C9 {e:Nat}{x y:Pgm}{L L':List Sgn}(h:Da e x L=.ok (y,L')):x.rules.length<64/\∃a,mj e L=.ok (a,L')/\y=⟨x.doms,x.decls,x.rules++[a]⟩:=by
 unfold Da at h
 cases h0:ev e L x.rules.length 64 (db [1] L)with
 |error q=>rw[h0]at h;cases h
 |ok q=>
  obtain⟨u,L0⟩:=q
  have e0:=gI h0
  subst e0
  rw[h0,bW]at h
  cases h1:mj e L0 with
  |error q=>rw[h1]at h;cases h
  |ok q=>
   obtain⟨a,L1⟩:=q
   rw[h1,bW]at h
   injection h with h;injection h with e1 e2
   subst e2
   refine⟨?_,a,rfl,e1.symm⟩
   obtain⟨M1,M2,hat,_⟩:=nE h1
   obtain⟨z,M3,M4,rfl,hk,_⟩:=oK hat
   have:db [1] (z::M3)=true:=by simp[db,hk]
   rw[this]at h0
   exact nI h0
theorem oQ {a:Atm}(h:dh a=true):a.ts.length<=8:=by
 simp only[dh,Bool.and_eq_true,decide_eq_true_eq]at h
 exact h.2
theorem vO {a:Dcl}(h:eS a=true):a.doms.length<=8:=by
 simp only[eS,Bool.and_eq_true,decide_eq_true_eq]at h
 exact h.1.2
theorem uU {a:Rul}(h:dJ a=true):a.head.ts.length<=8/\a.body.length<=8/\∀x,x∈a.body->x.ts.length<=8:=by
 simp only[dJ,Bool.and_eq_true,decide_eq_true_eq,List.all_eq_true]at h
 exact⟨oQ h.1.1.1.1.1,h.1.2,fun x hx=>oQ (h.2 x hx)⟩
set_option maxHeartbeats 8000000 in
theorem Ct (l:List UInt8)(hl:l.length<=9223372036854775000)(x:Pgm)(hx:nU l=.ok x)(s:St):SRet Tryz.prog 17 [.str l] s (.tup [.agg (pgC x),.int .i64 0,.int .i64 0]) s:=by
 have hsig:=fun s=>CK l hl s
 cases hL:bG l with
 |error q=>unfold nU at hx;rw[hL]at hx;cases hx
 |ok W=>
  rw[hL]at hsig
  simp only[nx]at hsig
  rw[yY hL]at hx
  have hIn:=ti hL
  obtain⟨hG,hWl⟩:=nY hL
  have hw:W.length<=40000:=by omega
  have hgo:∃Le,kf l.length (W.length+1) ⟨[],[],[]⟩ W=.ok (x,Le):=by
   cases hI:kf l.length (W.length+1) ⟨[],[],[]⟩ W with
   |error q=>rw[hI]at hx;cases hx
   |ok q=>obtain⟨y,Le⟩:=q;rw[hI]at hx;injection hx with hx;subst hx;exact⟨Le,rfl⟩
  obtain⟨Le,hgo⟩:=hgo
  have HGO:=u_ hgo
  have HIN:=u_ hIn
  have HG:=u_ hG
  clear hx hL hgo hIn hG
  generalize hle:l.length=e at *
  refine aw Tryz.func17 rfl Tryz.ntmps17 rfl fun Q hQ hQe=>?_
  (repeat'(first|refine Ctl ?_|((with_reducible refine j_ hK ?_);clear hK hE K E)|((with_reducible refine aj (fun h=>?_) (fun h=>?_))<;>(try(exfalso;assumption)))|((first|(with_reducible first|refine ae fun K E hK hE=>?_|refine ak MG (hsig _) ?_)|((with_reducible refine ao (fun b hb=>?_));(repeat(obtain⟨_,hb⟩:=hb))))<;>(try simp(disch:=omega) only[go_sem,seval,hle, *]))))
  rename_i bz hbz r z5 z6 hr z7 z8 z9 z10
  obtain⟨bp,hbp⟩:∃x,x=b:=⟨_,rfl⟩
  subst hbp
  clear hsig h
  have hBz:(s.set bz (.obj 26 [.lst [] .full,.lst [] .full,.lst [] .full])) bz=.obj 26 [.lst [] .full,.lst [] .full,.lst [] .full]:=q_ _ _ _
  have hBf:Fg (s.set bz (.obj 26 [.lst [] .full,.lst [] .full,.lst [] .full])) s:=v_ _ hbz
  have hBr:(s.set bz (.obj 26 [.lst [] .full,.lst [] .full,.lst [] .full])) r=.free:=by rw[k_ _ _ z5];exact hr
  have hBp:(s.set bz (.obj 26 [.lst [] .full,.lst [] .full,.lst [] .full])) bp=.free:=by rw[k_ _ _ z9];exact hb
  change Kp _ _ _ _ _ _ _ ((Rw (s.set bz (.obj 26 [.lst [] .full,.lst [] .full,.lst [] .full])) r e W 0).set bp (.obj 26 [.lst [] .full,.lst [] .full,.lst [] .full]))
  generalize s.set bz (.obj 26 [.lst [] .full,.lst [] .full,.lst [] .full])=B at *
  have HBF:=u_ hBf
  have HBR:=u_ hBr
  have HBP:=u_ hBp
  have HZ:=u_ (And.intro hbz (And.intro hr hb))
  clear hBf hbz hr hb hBr hBp
  refine pc (GS.pg0 (q_ _ _ _)) ?_
  rw[St.set_set,jk z7]
  refine ef (fun m env t=>∃(q f:Nat) (y:Pgm) (Lq:List Sgn),Sfx W q Lq/\GoodU Lq/\InU e Lq/\cm y=true/\kf e f y Lq=.ok (x,Le)/\m=Lq.length/\t=Rw (B.set bp (.pk 26 (pgC y) rsP)) r e W q /\
   env 2=.ptr bz 0/\env 8=.ptr r 0/\env 9=.ptr bp 0) W.length ?_ ?_
  ·exact⟨_,GS.refl _,0,_,⟨[],[],[]⟩,W,⟨by omega,rfl⟩,HG.out,HIN.out,by decide,HGO.out,rfl,rfl,ab,ab,ab⟩
  ·clear HGO HIN HG
   rintro m env t ⟨q,f,y,Lq,hS,hGq,hIq,hy,hgo,rfl,rfl,e2,e8,e9⟩
   have hql:=hS.1
   have hwm:(W.map gw).length=W.length:=a_ _
   cases f with
   |zero=>cases hgo
   |succ f=>
    simp only[kf]at hgo
    by_cases hnil:Lq=[]
    ·rw[if_pos hnil]at hgo
     injection hgo with hgo;injection hgo with hgo _
     subst hnil
     have hqe:=hS.nil
     subst hqe
     subst hgo
     simp only[pgC]
     clear hS hGq hIq
     (repeat'(first|refine Ctl ?_|(with_reducible first|(refine j_ hK ?_;clear hK hE K E)|(refine j_ hKh ?_;clear hKh Kh)|refine aq 6 [] [0,1,2,3,4,5,6,7,8,9,10,11,12,13,14,15,16] hQe fun K E hK hE=>?_)|((with_reducible refine aj (fun h=>?_) (fun h=>?_))<;>(try(exfalso;first|assumption|omega)))|(((with_reducible first|refine ae fun K E hK hE=>?_|refine aD fun Kh hKh=>?_))<;>(try simp(disch:=first|assumption|omega) only[go_sem,seval,hwm,eA,dF,dE,ed,aH,aV,dw,or_true,if_true, *]))))
     all_goals(refine ap E8 hQ ?_)
     all_goals(refine⟨_,_,Wk.of_eq ?_,?_,rfl,rfl⟩)
     ·rfl
     ·exact w_ (w_ (w_ HBF.out HZ.out.2.2) HZ.out.1) HZ.out.2.1
    ·rw[if_neg hnil]at hgo
     have hqlt:q<W.length:=by
      rcases Nat.lt_or_ge q W.length with h|h
      ·exact h
      ·have:=hS.2;rw[List.drop_eq_nil_of_le h]at this;exact absurd this.symm hnil
     cases hit:tp e y Lq with
     |error q=>rw[hit]at hgo;cases hgo
     |ok qq=>
      obtain⟨y2,L2⟩:=qq
      rw[hit,bW]at hgo
      have hpl:=PlU.item hy hIq
      rw[hit]at hpl
      obtain⟨hy2,hI2,hlt⟩:=hpl
      have HGO:=u_ hgo
      have HY2:=u_ hy2
      have HI2:=u_ hI2
      have HLT:=u_ hlt
      have v0:=fun s t=>ld s r e q W t hql
      clear hgo hI2 hlt hIq hy
      unfold tp at hit
      by_cases hd:isT Lq 0 [100,111,109]=true
      ·rw[if_pos hd]at hit
       obtain⟨hn,a,b1,c,d,rfl,ha,hb1,hc,hdd,rfl⟩:=Ek hit
       obtain⟨g0,s1,_⟩:=hS.cons
       obtain⟨g1,s2,_⟩:=s1.cons
       obtain⟨g2,s3,_⟩:=s2.cons
       obtain⟨g3,s4,_⟩:=s3.cons
       have hG4:GoodU L2:=fun z hz=>hGq z (by simp[hz])
       have HG4:=u_ hG4
       have HS4:=u_ s4
       have v1:=fun s=>ld s r e q W [100,111,109] hql
       rw[show isT W q [100,111,109]=true by simp[isT,g0,ha]]at v1
       have v2:=fun s=>jD s r e q W (y.doms.length:Int) 32 true (by omega)
       have v3:=fun s=>gp s r e (q+1) W b1 1 hw g1 hb1
       have v4:=fun s=>gp s r e (q+1+1) W c 2 hw g2 hc
       obtain⟨n,hn2,hnl⟩:=hGq c (by simp) hc
       have hnn:ra c.text=n:=by simp[ra,hn2]
       have v5:=fun s=>C2 c.text n hnl hn2 s
       have v6:=fun s=>fq s r e (q+1+1+1) W [46] hw (by simp[isT,g3,hdd])
       have hdl:(y.doms.map dmC).length=y.doms.length:=a_ _
       clear hit hd hS hGq s1 s2 s3 s4 g0 g1 g2 g3 hG4 ha hb1 hc hdd hn2 hnl v0
       rw[hnn]at HY2 HGO
       clear hnn
       refine lj bp 0 (T':=63) (sz:=2) [(1,66,2),(2,43,4)] ((lf z7).trans (q_ _ _ _)) rfl (by simp) (by simp) ?_
       intro o hO hop
       have hor:ay o r:=hO.not (by simp only[lh];simp)
       rw[rP z7 hop hor]
       simp only[eA,dw,hdl,pgC,List.set]at hO ⊢
       obtain⟨_,_,hO⟩:=hO
       (repeat'(first|refine Ctl ?_|(with_reducible first|(refine j_ hK ?_;clear hK hE K E)|(refine j_ hKh ?_;clear hKh Kh)|refine aq 6 [] [0,1,2,3,4,5,6,7,8,9,10,11,12,13,14,15,16] hQe fun K E hK hE=>?_)|((with_reducible refine aj (fun h=>?_) (fun h=>?_))<;>(try(exfalso;assumption)))|((first|(with_reducible first|refine ae fun K E hK hE=>?_|refine ak iC (v1 _) ?_|refine ak qp (v2 _) ?_|refine ak mz (v3 _) ?_|refine ak mz (v4 _) ?_|refine ak Fq (v5 _) ?_|refine ak my (v6 _) ?_|refine aD fun Kh hKh=>?_)|((with_reducible refine ao (fun b hb=>?_));(repeat(obtain⟨_,hb⟩:=hb));(try(try(rw[aR]at hb;obtain⟨hob,hb⟩:=hb))))|((with_reducible refine cq (fun o2 ho=>?_));(try simp(disch:=assumption) only[aQ,aS,bc,cB,a_,List.length_cons,List.length_nil,Nat.zero_add,hwm,hdl,dmC,eA,dF,dE,ed,aH,aV,dw,or_true,if_true]at ho);(repeat(obtain⟨_,ho⟩:=ho))))<;>(try simp(disch:=first|assumption|omega) only[go_sem,seval,hwm,hdl,dmC,eA,dF,dE,ed,aH,aV,dw,or_true,if_true, *]))))
       exact⟨Rw (B.set bp (.pk 26 (pgC ⟨y.doms++[⟨b1.text,(n:Nat)⟩],y.decls,y.rules⟩) rsP)) r e W (q+1+1+1+1),GS.trans (GS.of_fg (Fg.rw (v_ _ (by rw[k_ _ _ (‹_›),aR];exact⟨‹_›,hb⟩)))) (rQ z7 (‹_›) (‹_›) ho (by simp) (i:=0) rfl (by simp[pgC,dmC]) (by simp)),L2.length,HLT.out,q+1+1+1+1,f,⟨y.doms++[⟨b1.text,(n:Nat)⟩],y.decls,y.rules⟩,L2,HS4.out,HG4.out,HI2.out,HY2.out,HGO.out,rfl,rfl,ab,ab,ab⟩
      ·rw[if_neg hd]at hit
       have hdf:isT Lq 0 [100,111,109]=false:=by simpa using hd
       have v1:=fun s=>ld s r e q W [100,111,109] hql
       rw[hS.isT,hdf]at v1
       have v2:=fun s=>ld s r e q W [114,101,108] hql
       rw[hS.isT]at v2
       by_cases hr:isT Lq 0 [114,101,108]=true
       ·rw[if_pos hr]at hit
        obtain⟨hn,hc,d,hdc,rfl⟩:=Dc hit
        rw[hr]at v2
        have g1:=hS.tail hc
        have hsuf:L2 <:+ Lq.tail:=by
         obtain⟨z,M1,M3,hM,_,_,_,hgo,_,_,rfl⟩:=tO hdc
         rw[hM]
         exact(((suf_tail.trans suf_tail).trans (ka (fun _ _ _ h=>by obtain⟨z,rfl,_⟩:=dW h;exact List.suffix_cons _ _) _ hgo)).trans suf_tail).trans (List.suffix_cons _ _)
        obtain⟨q2,s2⟩:=g1.suf hsuf
        have hG4:GoodU L2:=fO (hsuf.trans suf_tail) hGq
        have HG4:=u_ hG4
        have HS4:=u_ s2
        have h8:d.doms.length<=8:=by
         have:=(mN HY2.out).2.2.2.2.1 d (by simp)
         exact(vO this)
        have v3:=fun s=>jD s r e q W (y.decls.length:Int) 32 true (by omega)
        have v4:=fun s=>Es s r e (q+1) q2 W _ L2 d hw g1 hdc s2 h8
        have hdl:(y.decls.map az).length=y.decls.length:=a_ _
        obtain⟨dn,dd⟩:=d
        simp only[az]at v4
        clear hit hd hr hc hS hGq s2 g1 hG4 v0 hdf hdc hsuf
        refine lj bp 1 (T':=66) (sz:=2) [(0,63,2),(2,43,4)] ((lf z7).trans (q_ _ _ _)) rfl (by simp) (by simp) ?_
        intro o hO hop
        have hor:ay o r:=hO.not (by simp only[lh];simp)
        rw[rP z7 hop hor]
        simp only[eA,dw,hdl,pgC,List.set]at hO ⊢
        obtain⟨_,_,hO⟩:=hO
        (repeat'(first|refine Ctl ?_|(with_reducible first|(refine j_ hK ?_;clear hK hE K E)|(refine j_ hKh ?_;clear hKh Kh)|(refine j_ hKb (aL ?_);clear hKb Kb)|refine aq 6 [] [0,1,2,3,4,5,6,7,8,9,10,11,12,13,14,15,16] hQe fun K E hK hE=>?_|refine aq 20 [([0,1,2],3,[[0,1]]),([4],5,[[],[]]),([6],7,[[],[],[]])] [] hQe fun K E hK hE=>?_)|((with_reducible refine aj (fun h=>?_) (fun h=>?_))<;>(try(exfalso;assumption)))|((first|(with_reducible first|refine ae fun K E hK hE=>?_|refine ak iC (v1 _) ?_|refine ak iC (v2 _) ?_|refine ak qp (v3 _) ?_|refine ak MF (v4 _) ?_|refine aE fun Kh hKh=>?_|refine aD fun Kh hKh=>?_|refine aM fun Kb hKb=>?_)|((with_reducible refine cq (fun o2 ho=>?_));(try simp(disch:=assumption) only[aQ,aS,bc,cB,a_,List.length_cons,List.length_nil,Nat.zero_add,hwm,hdl,az,eA,dF,dE,ed,aH,aV,dw,or_true,if_true]at ho);(repeat(obtain⟨_,ho⟩:=ho))))<;>(try simp(disch:=first|assumption|omega) only[go_sem,seval,hwm,hdl,az,eA,dF,dE,ed,aH,aV,dw,or_true,if_true, *]))))
        exact⟨Rw (B.set bp (.pk 26 (pgC ⟨y.doms,y.decls++[⟨dn,dd⟩],y.rules⟩) rsP)) r e W (q2),rQ z7 (‹_›) (‹_›) ho (by simp) (i:=1) rfl (by simp[pgC,az]) (by simp),L2.length,HLT.out,q2,f,⟨y.doms,y.decls++[⟨dn,dd⟩],y.rules⟩,L2,HS4.out,HG4.out,HI2.out,HY2.out,HGO.out,rfl,rfl,ab,ab,ab⟩
       ·rw[if_neg hr]at hit
        have hrf:isT Lq 0 [114,101,108]=false:=by simpa using hr
        obtain⟨hn,a,hra,rfl⟩:=C9 hit
        rw[hrf]at v2
        have hsuf:L2 <:+ Lq:=by
         obtain⟨M1,M2,hat,hbd,_,rfl⟩:=nE hra
         rcases hbd with ⟨_,hgo⟩|⟨_,_,rfl⟩
         ·exact((suf_tail.trans (gn _ hgo).2.2).trans suf_tail).trans (dx hat)
         ·exact suf_tail.trans (dx hat)
        obtain⟨q2,s2⟩:=hS.suf hsuf
        have hG4:GoodU L2:=fO hsuf hGq
        have HG4:=u_ hG4
        have HS4:=u_ s2
        have hra2:=(mN HY2.out).2.2.2.2.2 a (by simp)
        obtain⟨k1,k2,k3⟩:=uU hra2
        have v3:=fun s a b t=>mV s r e q W a b t hql
        have v4:=fun s b=>jD s r e q W (y.rules.length:Int) 64 b (by omega)
        have v5:=fun s=>Er s r e q q2 W _ L2 a hw hGq hS hra s2 k1 k2 k3
        have hdl:(y.rules.map ax).length=y.rules.length:=a_ _
        obtain⟨⟨an,ar,ats⟩,abd⟩:=a
        simp only[ax]at v5
        clear hit hd hr hS hGq s2 hG4 v0 hdf hra hrf hsuf hra2 k1 k2 k3
        refine lj bp 2 (T':=43) (sz:=4) [(0,63,2),(1,66,2)] ((lf z7).trans (q_ _ _ _)) rfl (by simp) (by simp) ?_
        intro o hO hop
        have hor:ay o r:=hO.not (by simp only[lh];simp)
        rw[rP z7 hop hor]
        simp only[eA,dw,hdl,pgC,List.set]at hO ⊢
        obtain⟨_,_,hO⟩:=hO
        (repeat'(first|refine Ctl ?_|(with_reducible first|(refine j_ hK ?_;clear hK hE K E)|(refine j_ hKh ?_;clear hKh Kh)|(refine j_ hKb (aL ?_);clear hKb Kb)|refine aq 6 [] [0,1,2,3,4,5,6,7,8,9,10,11,12,13,14,15,16] hQe fun K E hK hE=>?_|refine aq 7 [([0,1,2,3,4],5,[[0,1,2,3]]),([],6,[[],[]])] [] hQe fun K E hK hE=>?_|refine aq 8 [([0,1,2],3,[[0,1]]),([4],5,[[],[]]),([6],7,[[],[],[]])] [] hQe fun K E hK hE=>?_)|((with_reducible refine aj (fun h=>?_) (fun h=>?_))<;>(try(exfalso;assumption)))|((first|(with_reducible first|refine ae fun K E hK hE=>?_|refine ak iC (v1 _) ?_|refine ak iC (v2 _) ?_|refine ak qp (v4 _ _) ?_|refine ak ME (v5 _) ?_|refine aE fun Kh hKh=>?_|refine aD fun Kh hKh=>?_|refine aM fun Kb hKb=>?_)|((with_reducible refine aO xP (v3 _ _ _ _) (fun a h=>?_)))|((with_reducible refine cq (fun o2 ho=>?_));(try simp(disch:=assumption) only[aQ,aS,bc,cB,a_,List.length_cons,List.length_nil,Nat.zero_add,hwm,hdl,ax,eA,dF,dE,ed,aH,aV,dw,or_true,if_true]at ho);(repeat(obtain⟨_,ho⟩:=ho))))<;>(try simp(disch:=first|assumption|omega) only[go_sem,seval,hwm,hdl,ax,eA,dF,dE,ed,aH,aV,dw,or_true,if_true, *]))))
        exact⟨Rw (B.set bp (.pk 26 (pgC ⟨y.doms,y.decls,y.rules++[⟨⟨an,ar,ats⟩,abd⟩]⟩) rsP)) r e W (q2),rQ z7 (‹_›) (‹_›) ho (by simp) (i:=2) rfl (by simp[pgC,ax]) (by simp),L2.length,HLT.out,q2,f,⟨y.doms,y.decls,y.rules++[⟨⟨an,ar,ats⟩,abd⟩]⟩,L2,HS4.out,HG4.out,HI2.out,HY2.out,HGO.out,rfl,rfl,ab,ab,ab⟩
end Go.Proofs.YteldpmgepfaiiaaGreatDoor
namespace Go.Proofs.YteldpmgepfaiiaaGreatDoor
open Go.RowKit
theorem I4 {α:Type}{a b:List α}(hl:a.length=b.length)(h:∀i:Nat,i<a.length->a[i]?=b[i]?):a=b:=by
 apply List.ext_getElem?
 intro i
 by_cases hi:i<a.length
 ·exact h i hi
 ·rw[C_ (by omega),C_ (by omega)]
set_option maxHeartbeats 2000000 in
theorem kr (a b:List Int)(o1 o2:Own)(ha:a.length<=140737488355328)(hb:b.length<=140737488355328)(t:St):SRet Tryz.prog 31 [.lst (aB a) o1,.lst (aB b) o2] t (.bool (decide (a=b))) t:=by
 have la:(aB a).length=a.length:=bH
 have lb:(aB b).length=b.length:=bH
 by_cases hl:a.length=b.length
 ·have hli:((a.length:Int)=(b.length:Int))=True:=eq_true (by omega)
  have hlz:((b.length:Int)=(b.length:Int))=True:=eq_true rfl
  refine aw Tryz.func31 rfl Tryz.ntmps31 rfl fun Q hQ hQe=>?_
  (repeat'(first|refine Ctl ?_|((with_reducible refine j_ hK ?_);clear hK hE K E)|((with_reducible refine aj (fun h=>?_) (fun h=>?_))<;>(try(exfalso;assumption)))|(((with_reducible refine ae fun K E hK hE=>?_))<;>(try simp(disch:=omega) only[go_sem,seval, *]))))
  refine aI (fun m env s'=>∃i:Nat,i<=a.length/\m+i=a.length/\s'=t/\Hid (∀j:Nat,j<i->a[j]?=b[j]?)/\env 0=.lst (aB a) o1/\env 1=.lst (aB b) o2/\env 5=.int .i64 i) a.length ?_ ?_
  ·exact⟨t,Fg.refl _,0,by omega,by omega,rfl,u_ (fun j hj=>by omega),ab,ab,ab⟩
  ·rintro m env s' ⟨i,hi,hm,rfl,HE,e0,e1,e5⟩
   by_cases hlt:i<a.length
   ·obtain⟨c,hc⟩:=aN hlt
    obtain⟨d,hd⟩:=aN (l:=b) (i:=i) (by omega)
    have hsx:=cD hc
    have hsy:=cD hd
    have HC:=u_ hc
    have HD:=u_ hd
    clear hc hd
    by_cases hcd:c=d
    ·have HCD:=u_ hcd
     have hcc:(c=d)=True:=eq_true hcd
     (repeat'(first|refine Ctl ?_|(with_reducible first|(refine j_ hK ?_;clear hK hE K E)|(refine j_ hKh ?_;clear hKh Kh)|refine aq 6 [] [0,1,2,3,4,5,6,7,8] hQe fun K E hK hE=>?_)|((with_reducible refine aj (fun h=>?_) (fun h=>?_))<;>(try(exfalso;first|assumption|omega)))|(((with_reducible first|refine ae fun K E hK hE=>?_|refine aD fun Kh hKh=>?_))<;>(try simp(disch:=omega) only[go_sem,seval, *]))))
     refine⟨s',Fg.refl _,m - 1,by omega,i+1,by omega,by omega,rfl,u_ (fun j hj=>?_),ab,ab,ab⟩
     by_cases hj2:j=i
     ·subst hj2;rw[HC.out,HD.out,HCD.out]
     ·exact HE.out j (by omega)
    ·have hcc:(c=d)=False:=eq_false hcd
     (repeat'(first|refine Ctl ?_|(with_reducible first|(refine j_ hK ?_;clear hK hE K E)|(refine j_ hKh ?_;clear hKh Kh)|refine aq 6 [] [0,1,2,3,4,5,6,7,8] hQe fun K E hK hE=>?_)|((with_reducible refine aj (fun h=>?_) (fun h=>?_))<;>(try(exfalso;first|assumption|omega)))|(((with_reducible first|refine ae fun K E hK hE=>?_|refine aD fun Kh hKh=>?_))<;>(try simp(disch:=omega) only[go_sem,seval, *]))))
     all_goals(refine ap wN hQ ?_)
     all_goals(refine⟨_,_,Wk.of_eq ?_,?_,rfl,rfl⟩)
     ·rw[decide_eq_false (fun h=>hcd (by have:=HC.out;rw[h,HD.out]at this;injection this with this;exact this.symm))]
     ·(exact bC)
   ·(repeat'(first|refine Ctl ?_|((with_reducible refine j_ hK ?_);clear hK hE K E)|((with_reducible refine aj (fun h=>?_) (fun h=>?_))<;>(try(exfalso;omega)))|(((with_reducible refine ae fun K E hK hE=>?_))<;>(try simp(disch:=omega) only[go_sem,seval, *]))))
    all_goals(refine ap wN hQ ?_)
    all_goals(refine⟨_,_,Wk.of_eq ?_,?_,rfl,rfl⟩)
    ·rw[decide_eq_true (I4 hl (fun j hj=>HE.out j (by omega)))]
    ·(exact bC)
 ·have hli:((a.length:Int)=(b.length:Int))=False:=eq_false (by omega)
  refine aw Tryz.func31 rfl Tryz.ntmps31 rfl fun Q hQ hQe=>?_
  (repeat'(first|refine Ctl ?_|((with_reducible refine j_ hK ?_);clear hK hE K E)|((with_reducible refine aj (fun h=>?_) (fun h=>?_))<;>(try(exfalso;assumption)))|(((with_reducible refine ae fun K E hK hE=>?_))<;>(try simp(disch:=omega) only[go_sem,seval, *]))))
  all_goals(refine ap wN hQ ?_)
  all_goals(refine⟨_,_,Wk.of_eq ?_,?_,rfl,rfl⟩)
  ·rw[decide_eq_false (fun h=>hl (by rw[h]))]
  ·(exact bC)
def eI (cs:List Dcl)(n:List UInt8):Int:=match cO cs n with|some k=>k|none=>-1
def yV (cs:List Dcl)(n:List UInt8)(i:Nat):Int:=match ixT n ((cs.drop i).map (·.name))with|some k=>((k+i:Nat):Int)|none=>-1
theorem A1 {cs:List Dcl}{n:List UInt8}:yV cs n cs.length=-1:=by unfold yV;rw[G_];rfl
theorem De {cs:List Dcl}{n:List UInt8}{i:Nat}{c:Dcl}(h:cs[i]?=some c):yV cs n i=if n=c.name then(i:Int)else yV cs n (i+1):=by
 have hlt:i<cs.length:=(n_.1 h).1
 have hc:cs[i]=c:=by rw[b_ hlt]at h;injection h
 unfold yV
 rw[g_ hlt,hc,List.map_cons]
 simp only[ixT]
 by_cases e:n=c.name
 ·rw[if_pos e,if_pos e];simp
 ·rw[if_neg e,if_neg e]
  cases ixT n ((cs.drop (i+1)).map (·.name))with
  |none=>rfl
  |some k=>simp only[Option.map_some];congr 1;omega
set_option maxHeartbeats 2000000 in
theorem lR (x:Pgm)(n:List UInt8)(hx:x.decls.length<=140737488355328)(t:St):SRet Tryz.prog 41 [.agg (pgC x),.str n] t (.int .i64 (eI x.decls n)) t:=by
 obtain⟨ds,cs,rs⟩:=x
 simp only[pgC]at hx ⊢
 generalize ds.map dmC=x1
 generalize rs.map ax=x3
 have hl:(cs.map az).length=cs.length:=by simp
 generalize hR:eI cs n=R
 have HR:=u_ hR
 clear hR
 refine aw Tryz.func41 rfl Tryz.ntmps41 rfl fun Q hQ hQe=>?_
 (repeat'(first|refine Ctl ?_|((with_reducible refine j_ hK ?_);clear hK hE K E)|((first|(with_reducible refine ae fun K E hK hE=>?_)|((with_reducible refine ao (fun b hb=>?_))))<;>(try simp(disch:=omega) only[go_sem,seval, *]))))
 have hSb:(t.set b (.obj 26 [.lst x1 .no,.lst (cs.map az) .no,.lst x3 .no])) b=.obj 26 [.lst x1 .no,.lst (cs.map az) .no,.lst x3 .no]:=q_ _ _ _
 have hF:Fg (t.set b (.obj 26 [.lst x1 .no,.lst (cs.map az) .no,.lst x3 .no])) t:=v_ _ hb
 generalize t.set b (.obj 26 [.lst x1 .no,.lst (cs.map az) .no,.lst x3 .no])=S at *
 have HF:=u_ hF
 clear hF hb
 refine aI (fun m env s'=>∃i:Nat,i<=cs.length/\m+i=cs.length/\s'=S/\Hid (yV cs n i=R)/\env 2=.ptr b 0/\env 1=.str n/\env 5=.int .i64 i) cs.length ?_ ?_
 ·exact⟨S,Fg.refl _,0,by omega,by omega,rfl,HR,ab,ab,ab⟩
 ·clear HR
  rintro m env s' ⟨i,hi,hm,rfl,HE,e2,e1,e5⟩
  by_cases hlt:i<cs.length
  ·obtain⟨c,hc⟩:=aN hlt
   have hsx:=dp hc
   have hE:=HE.out
   rw[De hc]at hE
   obtain⟨cn,cd⟩:=c
   simp only at hE
   clear hc HE
   by_cases hcn:cn=n
   ·subst hcn
    rw[if_pos rfl]at hE
    have HE:=u_ hE
    clear hE
    (repeat'(first|refine Ctl ?_|((with_reducible refine j_ hK ?_);clear hK hE K E)|((with_reducible refine aj (fun h=>?_) (fun h=>?_))<;>(try(exfalso;assumption)))|(((with_reducible refine ae fun K E hK hE=>?_))<;>(try simp(disch:=omega) only[go_sem,seval,az, *]))))
    all_goals(refine ap AG hQ ?_)
    all_goals(refine⟨_,_,Wk.of_eq ?_,?_,rfl,rfl⟩)
    ·rw[show _=R from HE]
    ·exact HF.out
   ·rw[if_neg (fun h=>hcn h.symm)]at hE
    have HE:=u_ hE
    have hcf:(cn=n)=False:=eq_false hcn
    clear hE
    (repeat'(first|refine Ctl ?_|((with_reducible refine j_ hK ?_);clear hK hE K E)|((with_reducible refine aj (fun h=>?_) (fun h=>?_))<;>(try(exfalso;assumption)))|(((with_reducible refine ae fun K E hK hE=>?_))<;>(try simp(disch:=omega) only[go_sem,seval,az, *]))))
    exact⟨s',Fg.refl _,m - 1,by omega,i+1,by omega,by omega,rfl,HE,ab,ab,ab⟩
  ·have hE:=HE.out
   rw[show i=cs.length by omega,A1]at hE
   have HE2:=u_ hE
   clear hE HE
   (repeat'(first|refine Ctl ?_|((with_reducible refine j_ hK ?_);clear hK hE K E)|((with_reducible refine aj (fun h=>?_) (fun h=>?_))<;>(try(exfalso;assumption)))|(((with_reducible refine ae fun K E hK hE=>?_))<;>(try simp(disch:=omega) only[go_sem,seval, *]))))
   all_goals(refine ap AG hQ ?_)
   all_goals(refine⟨_,_,Wk.of_eq ?_,?_,rfl,rfl⟩)
   ·rw[show _=R from HE2]
   ·exact HF.out
set_option maxHeartbeats 4000000 in
theorem CN (x:Pgm)(hx:PgmOk x)(s:St):SRet Tryz.prog 123 [.agg (pgC x)] s (.bool (cm x)) s:=by
  obtain⟨h1,h2,h3,h4,h5,h6⟩:=hx
  obtain⟨ds,cs,rs⟩:=x
  simp only at h1 h2 h3 h4 h5 h6
  refine aw Tryz.func123 rfl Tryz.ntmps123 rfl fun Q hQ hQe=>?_
  (repeat'(first|refine Ctl ?_|((with_reducible refine j_ hK ?_);clear hK hE K E)|((with_reducible refine aj (fun h=>?_) (fun h=>?_))<;>(try(exfalso;assumption)))|((first|(with_reducible refine ae fun K E hK hE=>?_)|((with_reducible refine ao (fun b hb=>?_)))|((with_reducible refine dy (fun h=>?_) (fun h=>?_))))<;>(try simp(disch:=omega) only[go_sem,seval,a_,pgC, *]))))
  all_goals first
    | ((first | refine ap ic hQ ?_ | refine en ic hQ ?_ | refine jm hQ ?_)
       (refine⟨_,_,Wk.of_eq ?_,?_,rfl,rfl⟩)
       · simp[cm];omega
       · (exact bC))
    |skip
  have hs32:ds.length<=32/\cs.length<=32/\rs.length<=64:=by omega
  have HS:=u_ hs32
  clear hs32
  have hb0:s.set b (.obj 26 [.lst (ds.map dmC) .no,.lst (cs.map az) .no,.lst (rs.map ax) .no]) b=.obj 26 [.lst (ds.map dmC) .no,.lst (cs.map az) .no,.lst (rs.map ax) .no]:=q_ _ _ _
  have hF0:Fg (s.set b (.obj 26 [.lst (ds.map dmC) .no,.lst (cs.map az) .no,.lst (rs.map ax) .no])) s:=v_ _ hb
  obtain⟨bp,hbp⟩:∃bp,bp=b:=⟨_,rfl⟩
  subst hbp
  generalize s.set bp (.obj 26 [.lst (ds.map dmC) .no,.lst (cs.map az) .no,.lst (rs.map ax) .no])=B at *
  have hbf:B bp≠.free:=by rw[hb0];simp
  have HF:=u_ hF0
  rename_i q1 q2
  clear hF0 hb q1 q2 h
  refine aI (fun m env s'=>∃i:Nat,i<=ds.length/\m+i=ds.length/\s'=B/\(ds.take i).all dmB=true/\env 1=.ptr bp 0/\env 3=.int .i64 i) ds.length ?_ ?_
  · exact⟨B,Fg.refl _,0,by omega,by omega,rfl,rfl,ab,ab⟩
  · rintro m env s' ⟨i,hi,hm,rfl,hall,e1,e3⟩
    by_cases hlt:i<ds.length
    · obtain⟨c,hc⟩:=aN hlt
      have hsx:=ge hc
      have HX:=u_ hc
      have HH:=u_ hall
      clear hc hall
      obtain⟨cn,cz⟩:=c
      have w1:=fun s=>li cn s
      have w2:=fun s=>yd cz s
      cases hn:di cn
      all_goals cases hz:(decide (0<=cz) && decide (cz<=9999999999))
      all_goals rw[hn]at w1
      all_goals rw[hz]at w2
      all_goals
        (repeat'(first|refine Ctl ?_|((with_reducible refine j_ hK ?_);clear hK hE K E)|((with_reducible refine aj (fun h=>?_) (fun h=>?_))<;>(try(exfalso;assumption)))|(((with_reducible first|refine ae fun K E hK hE=>?_|refine ak lK (w1 _) ?_|refine ak Cb (w2 _) ?_))<;>(try simp(disch:=omega) only[go_sem,seval,a_,dmC, *]))))
      all_goals first
        | (have hres : cm ⟨ds, cs, rs⟩ = false := by unfold cm; simp only; rw [bO (p := dmB) HX.out (by simp [dmB, hn] at hz ⊢; try grind)]; simp
           (refine ap ic hQ ?_)
           (refine⟨_,_,Wk.of_eq ?_,?_,rfl,rfl⟩)
           · rw[hres]
           · exact HF.out)
        |exact⟨s',Fg.refl _,m - 1,by omega,i+1,by omega,by omega,rfl,bE HH.out HX.out (by simp[dmB,hn]at hz ⊢;grind),ab,ab⟩
    · have hiL:i=ds.length:=by omega
      rw[hiL,f_]at hall
      have HA:=u_ hall
      clear hall
      (repeat'(first|refine Ctl ?_|((with_reducible refine j_ hK ?_);clear hK hE K E)|((with_reducible refine aj (fun h=>?_) (fun h=>?_))<;>(try(exfalso;omega)))|(((with_reducible refine ae fun K E hK hE=>?_))<;>(try simp(disch:=omega) only[go_sem,seval,a_, *]))))
      clear e3 h hlt hiL hi hm
      refine aI (fun m env t=>∃i:Nat,i<=cs.length/\m+i=cs.length/\t=s'/\(cs.take i).all eS=true/\env 1=.ptr bp 0/\env 4=.int .i64 i) cs.length ?_ ?_
      · exact⟨s',Fg.refl _,0,by omega,by omega,rfl,rfl,ab,ab⟩
      · clear e1 env
        rintro m env t ⟨i,hi,hm,rfl,hall,e1,e4⟩
        by_cases hlt:i<cs.length
        · obtain⟨c,hc⟩:=aN hlt
          obtain⟨hc1,hc2,hc3⟩:=h5 c (p_ hc)
          have hsx:=dp hc
          have HX:=u_ hc
          have HH:=u_ hall
          clear hc hall
          obtain⟨cn,cd⟩:=c
          simp only at hc1 hc2 hc3
          have hsl:(aA cd).length=cd.length:=by simp[aA]
          (repeat'(first|refine Ctl ?_|((with_reducible refine j_ hK ?_);clear hK hE K E)|((with_reducible refine aj (fun h=>?_) (fun h=>?_))<;>(try(exfalso;assumption)))|((first|(with_reducible first|refine ae fun K E hK hE=>?_|refine ak lK (li _ _) ?_)|((with_reducible refine ao (fun b hb=>?_)))|((with_reducible refine dy (fun h=>?_) (fun h=>?_))))<;>(try simp(disch:=omega) only[go_sem,seval,a_,az, *]))))
          all_goals first
            | (have hres : cm ⟨ds, cs, rs⟩ = false := by unfold cm; simp only; rw [bO (p := eS) HX.out (tQ (by first | exact .inl (‹_›) | exact .inr (.inl (by omega)) | exact .inr (.inr (by omega))))]; simp
               (refine ap ic hQ ?_)
               (refine⟨_,_,Wk.of_eq ?_,?_,rfl,rfl⟩)
               · rw[hres]
               · exact(v_ _ hb).trans HF.out)
            |skip
          have HG:di cn=true/\cd.length≠0/\cd.length<=8:=⟨‹_›,by omega,by omega⟩
          obtain⟨bd,hbd⟩:∃x,x=b:=⟨_,rfl⟩
          subst hbd
          have hd0:t.set bd (.obj 66 [.str cn,.lst (aA cd) .no]) bd=.obj 66 [.str cn,.lst (aA cd) .no]:=q_ _ _ _
          have hp0:t.set bd (.obj 66 [.str cn,.lst (aA cd) .no]) bp=.obj 26 [.lst (ds.map dmC) .no,.lst (cs.map az) .no,.lst (rs.map ax) .no]:=by rw[k_ _ _ (by intro e;rw[e]at hbf;exact hbf hb)];exact hb0
          have hFd:Fg (t.set bd (.obj 66 [.str cn,.lst (aA cd) .no])) t:=v_ _ hb
          generalize t.set bd (.obj 66 [.str cn,.lst (aA cd) .no])=D at *
          have HFD:=u_ hFd
          clear hFd
          refine aI (fun m2 env t'=>∃j:Nat,j<=cd.length/\m2+j=cd.length/\t'=D/\(cd.take j).all di=true/\env 1=.ptr bp 0/\env 4=.int .i64 i/\env 5=.ptr bd 0/\env 6=.int .i64 j) cd.length ?_ ?_
          · exact⟨D,Fg.refl _,0,by omega,by omega,rfl,rfl,ab,ab,ab,ab⟩
          · clear e1 e4 env
            rintro m2 env t' ⟨j,hj,hm2,rfl,hall,e1,e4,e5,e6⟩
            by_cases hlt2:j<cd.length
            · obtain⟨c,hc⟩:=aN hlt2
              have hsy:=dm hc
              have HY:=u_ hc
              have HH2:=u_ hall
              clear hc hall
              (repeat'(first|refine Ctl ?_|((with_reducible refine j_ hK ?_);clear hK hE K E)|((with_reducible refine aj (fun h=>?_) (fun h=>?_))<;>(try(exfalso;assumption)))|(((with_reducible first|refine ae fun K E hK hE=>?_|refine ak lK (li _ _) ?_))<;>(try simp(disch:=omega) only[go_sem,seval, *]))))
              all_goals first
                | (have hres : cm ⟨ds, cs, rs⟩ = false := by unfold cm; simp only; rw [bO (p := eS) HX.out (by unfold eS; simp only; rw [bO (p := di) HY.out (‹_›)]; simp)]; simp
                   (refine ap ic hQ ?_)
                   (refine⟨_,_,Wk.of_eq ?_,?_,rfl,rfl⟩)
                   · rw[hres]
                   · exact HFD.out.trans HF.out)
                |exact⟨t',Fg.refl _,m2 - 1,by omega,j+1,by omega,by omega,rfl,bE HH2.out HY.out (‹_›),ab,ab,ab,ab⟩
            · have hjL:j=cd.length:=by omega
              rw[hjL,f_]at hall
              have HA2:=u_ hall
              clear hall
              (repeat'(first|refine Ctl ?_|((with_reducible refine j_ hK ?_);clear hK hE K E)|((with_reducible refine aj (fun h=>?_) (fun h=>?_))<;>(try(exfalso;omega)))|(((with_reducible refine ae fun K E hK hE=>?_))<;>(try simp(disch:=omega) only[go_sem,seval, *]))))
              exact⟨t,HFD.out,m - 1,by omega,i+1,by omega,by omega,rfl,bE HH.out HX.out (by have:=HA2.out;simp[eS,HG,this]),ab,ab⟩
        · have hiL:i=cs.length:=by omega
          rw[hiL,f_]at hall
          have HA2:=u_ hall
          clear hall
          (repeat'(first|refine Ctl ?_|((with_reducible refine j_ hK ?_);clear hK hE K E)|((with_reducible refine aj (fun h=>?_) (fun h=>?_))<;>(try(exfalso;omega)))|(((with_reducible refine ae fun K E hK hE=>?_))<;>(try simp(disch:=omega) only[go_sem,seval,a_, *]))))
          clear e4 h hlt hiL hi hm
          refine aI (fun m env s'=>∃i:Nat,i<=rs.length/\m+i=rs.length/\s'=t/\(rs.take i).all dJ=true/\env 1=.ptr bp 0/\env 7=.int .i64 i) rs.length ?_ ?_
          · exact⟨t,Fg.refl _,0,by omega,by omega,rfl,rfl,ab,ab⟩
          · clear e1 env
            rintro m env s' ⟨i,hi,hm,rfl,hall,e1,e7⟩
            by_cases hlt:i<rs.length
            · obtain⟨c,hc⟩:=aN hlt
              obtain⟨hc1,hc2,hc3⟩:=h6 c (p_ hc)
              have hsx:=fc hc
              have HX:=u_ hc
              have HH:=u_ hall
              clear hc hall
              obtain⟨⟨hn,hr,ht⟩,cb⟩:=c
              simp only at hc1 hc2 hc3
              have w1:=fun s=>qE ⟨hn,hr,ht⟩ .no hc1 s
              simp only at w1
              cases hn
              all_goals
                (repeat'(first|refine Ctl ?_|((with_reducible refine j_ hK ?_);clear hK hE K E)|((with_reducible refine aj (fun h=>?_) (fun h=>?_))<;>(try(exfalso;assumption)))|((first|(with_reducible first|refine ae fun K E hK hE=>?_|refine ak Ca (w1 _) ?_)|((with_reducible refine ao (fun b hb=>?_)))|((with_reducible refine dy (fun h=>?_) (fun h=>?_))))<;>(try simp(disch:=omega) only[go_sem,seval,a_,ax, *]))))
              all_goals first
                | (have hres : cm ⟨ds, cs, rs⟩ = false := by unfold cm; simp only; rw [bO (p := dJ) HX.out (sI (by first | exact .inl rfl | exact .inr (.inl (‹_›)) | exact .inr (.inr (.inl (of_eq_true (‹_›)))) | exact .inr (.inr (.inr (.inl (of_eq_true (‹_›))))) | exact .inr (.inr (.inr (.inr (by omega))))))]; simp
                   (refine ap ic hQ ?_)
                   (refine⟨_,_,Wk.of_eq ?_,?_,rfl,rfl⟩)
                   · rw[hres]
                   · exact(v_ _ hb).trans HF.out)
                |skip
              have HG:dh ⟨false,hr,ht⟩=true/\¬ hr=[100,111,109]/\¬ hr=[114,101,108]/\cb.length<=8:=⟨‹_›,‹_›,‹_›,by omega⟩
              clear w1
              obtain⟨bd,hbd⟩:∃x,x=b:=⟨_,rfl⟩
              subst hbd
              have hd0:s'.set bd (.obj 43 [.bool false,.str hr,.lst (ht.map aC) .no,.lst (cb.map aG) .no]) bd=.obj 43 [.bool false,.str hr,.lst (ht.map aC) .no,.lst (cb.map aG) .no]:=q_ _ _ _
              have hp0:s'.set bd (.obj 43 [.bool false,.str hr,.lst (ht.map aC) .no,.lst (cb.map aG) .no]) bp=.obj 26 [.lst (ds.map dmC) .no,.lst (cs.map az) .no,.lst (rs.map ax) .no]:=by rw[k_ _ _ (by intro e;rw[e]at hbf;exact hbf hb)];exact hb0
              have hFd:Fg (s'.set bd (.obj 43 [.bool false,.str hr,.lst (ht.map aC) .no,.lst (cb.map aG) .no])) s':=v_ _ hb
              generalize s'.set bd (.obj 43 [.bool false,.str hr,.lst (ht.map aC) .no,.lst (cb.map aG) .no])=D at *
              have HFD:=u_ hFd
              clear hFd
              refine aI (fun m2 env t'=>∃j:Nat,j<=cb.length/\m2+j=cb.length/\t'=D/\(cb.take j).all dh=true/\env 1=.ptr bp 0/\env 7=.int .i64 i/\env 8=.ptr bd 0/\env 9=.int .i64 j) cb.length ?_ ?_
              · exact⟨D,Fg.refl _,0,by omega,by omega,rfl,rfl,ab,ab,ab,ab⟩
              · clear e1 e7 env
                rintro m2 env t' ⟨j,hj,hm2,rfl,hall,e1,e7,e8,e9⟩
                by_cases hlt2:j<cb.length
                · obtain⟨c,hc⟩:=aN hlt2
                  have hcl:=hc3 c (p_ hc)
                  have hsy:=cX hc
                  have HY:=u_ hc
                  have HH2:=u_ hall
                  clear hc hall
                  obtain⟨an,ar,at_⟩:=c
                  have w1:=fun s=>qE ⟨an,ar,at_⟩ .no hcl s
                  simp only at w1
                  (repeat'(first|refine Ctl ?_|((with_reducible refine j_ hK ?_);clear hK hE K E)|((with_reducible refine aj (fun h=>?_) (fun h=>?_))<;>(try(exfalso;assumption)))|(((with_reducible first|refine ae fun K E hK hE=>?_|refine ak Ca (w1 _) ?_))<;>(try simp(disch:=omega) only[go_sem,seval,a_,aG, *]))))
                  all_goals first
                    | (have hres : cm ⟨ds, cs, rs⟩ = false := by unfold cm; simp only; rw [bO (p := dJ) HX.out (by unfold dJ; simp only; rw [bO (p := dh) HY.out (‹_›)]; simp)]; simp
                       (refine ap ic hQ ?_)
                       (refine⟨_,_,Wk.of_eq ?_,?_,rfl,rfl⟩)
                       · rw[hres]
                       · exact HFD.out.trans HF.out)
                    |exact⟨t',Fg.refl _,m2 - 1,by omega,j+1,by omega,by omega,rfl,bE HH2.out HY.out (‹_›),ab,ab,ab,ab⟩
                · have hjL:j=cb.length:=by omega
                  rw[hjL,f_]at hall
                  have HA3:=u_ hall
                  clear hall
                  (repeat'(first|refine Ctl ?_|((with_reducible refine j_ hK ?_);clear hK hE K E)|((with_reducible refine aj (fun h=>?_) (fun h=>?_))<;>(try(exfalso;omega)))|(((with_reducible refine ae fun K E hK hE=>?_))<;>(try simp(disch:=omega) only[go_sem,seval,a_, *]))))
                  exact⟨s',HFD.out,m - 1,by omega,i+1,by omega,by omega,rfl,bE HH.out HX.out (by have:=HA3.out;simp[dJ,HG,this]),ab,ab⟩
            · have hiL:i=rs.length:=by omega
              rw[hiL,f_]at hall
              have HA3:=u_ hall
              clear hall
              (repeat'(first|refine Ctl ?_|((with_reducible refine j_ hK ?_);clear hK hE K E)|((with_reducible refine aj (fun h=>?_) (fun h=>?_))<;>(try(exfalso;omega)))|(((with_reducible refine ae fun K E hK hE=>?_))<;>(try simp(disch:=omega) only[go_sem,seval,a_, *]))))
              all_goals(refine ap ic hQ ?_)
              all_goals(refine⟨_,_,Wk.of_eq ?_,?_,rfl,rfl⟩)
              · have k1:=HA.out;have k2:=HA2.out;have k3:=HA3.out;simp[cm,k1,k2,k3,HS.out]
              · exact HF.out
section
attribute [local go_sem] d_
end
end Go.Proofs.YteldpmgepfaiiaaGreatDoor
namespace Go.Proofs.YteldpmgepfaiiaaGreatDoor
open Go.RowKit
def zx (ds:List Dm)(n:List UInt8)(i:Nat):Int:=da (ds.drop i) n
theorem BJ {ds:List Dm}{n:List UInt8}:zx ds n ds.length=0:=by unfold zx;rw[G_];rfl
theorem Em {ds:List Dm}{n:List UInt8}{i:Nat}{c:Dm}(h:ds[i]?=some c):zx ds n i=if n=c.name then c.size else zx ds n (i+1):=by
 have hlt:i<ds.length:=(n_.1 h).1
 have hc:ds[i]=c:=by rw[b_ hlt]at h;injection h
 unfold zx
 rw[g_ hlt,hc]
 rfl
set_option maxHeartbeats 2000000 in
theorem rT (x:Pgm)(n:List UInt8)(hx:x.doms.length<=140737488355328)(t:St):SRet Tryz.prog 18 [.agg (pgC x),.str n] t (.int .i64 (da x.doms n)) t:=by
 obtain⟨ds,cs,rs⟩:=x
 simp only[pgC]at hx ⊢
 generalize cs.map az=x1
 generalize rs.map ax=x3
 have hl:(ds.map dmC).length=ds.length:=by simp
 generalize hR:da ds n=R
 have HR:=u_ hR
 clear hR
 refine aw Tryz.func18 rfl Tryz.ntmps18 rfl fun Q hQ hQe=>?_
 (repeat'(first|refine Ctl ?_|((with_reducible refine j_ hK ?_);clear hK hE K E)|((first|(with_reducible refine ae fun K E hK hE=>?_)|((with_reducible refine ao (fun b hb=>?_))))<;>(try simp(disch:=omega) only[go_sem,seval, *]))))
 have hSb:(t.set b (.obj 26 [.lst (ds.map dmC) .no,.lst x1 .no,.lst x3 .no])) b=.obj 26 [.lst (ds.map dmC) .no,.lst x1 .no,.lst x3 .no]:=q_ _ _ _
 have hF:Fg (t.set b (.obj 26 [.lst (ds.map dmC) .no,.lst x1 .no,.lst x3 .no])) t:=v_ _ hb
 generalize t.set b (.obj 26 [.lst (ds.map dmC) .no,.lst x1 .no,.lst x3 .no])=S at *
 have HF:=u_ hF
 clear hF hb
 refine aI (fun m env s'=>∃i:Nat,i<=ds.length/\m+i=ds.length/\s'=S/\Hid (zx ds n i=R)/\env 2=.ptr b 0/\env 1=.str n/\env 5=.int .i64 i) ds.length ?_ ?_
 ·exact⟨S,Fg.refl _,0,by omega,by omega,rfl,HR,ab,ab,ab⟩
 ·clear HR
  rintro m env s' ⟨i,hi,hm,rfl,HE,e2,e1,e5⟩
  by_cases hlt:i<ds.length
  ·obtain⟨c,hc⟩:=aN hlt
   have hsx:=ge hc
   have hE:=HE.out
   rw[Em hc]at hE
   obtain⟨cn,cd⟩:=c
   simp only at hE
   clear hc HE
   by_cases hcn:cn=n
   ·subst hcn
    rw[if_pos rfl]at hE
    have HE:=u_ hE
    clear hE
    (repeat'(first|refine Ctl ?_|((with_reducible refine j_ hK ?_);clear hK hE K E)|((with_reducible refine aj (fun h=>?_) (fun h=>?_))<;>(try(exfalso;assumption)))|(((with_reducible refine ae fun K E hK hE=>?_))<;>(try simp(disch:=omega) only[go_sem,seval,dmC, *]))))
    all_goals(refine ap AN hQ ?_)
    all_goals(refine⟨_,_,Wk.of_eq ?_,?_,rfl,rfl⟩)
    ·rw[show _=R from HE]
    ·exact HF.out
   ·rw[if_neg (fun h=>hcn h.symm)]at hE
    have HE:=u_ hE
    have hcf:(cn=n)=False:=eq_false hcn
    clear hE
    (repeat'(first|refine Ctl ?_|((with_reducible refine j_ hK ?_);clear hK hE K E)|((with_reducible refine aj (fun h=>?_) (fun h=>?_))<;>(try(exfalso;assumption)))|(((with_reducible refine ae fun K E hK hE=>?_))<;>(try simp(disch:=omega) only[go_sem,seval,dmC, *]))))
    exact⟨s',Fg.refl _,m - 1,by omega,i+1,by omega,by omega,rfl,HE,ab,ab,ab⟩
  ·have hE:=HE.out
   rw[show i=ds.length by omega,BJ]at hE
   have HE2:=u_ hE
   clear hE HE
   (repeat'(first|refine Ctl ?_|((with_reducible refine j_ hK ?_);clear hK hE K E)|((with_reducible refine aj (fun h=>?_) (fun h=>?_))<;>(try(exfalso;assumption)))|(((with_reducible refine ae fun K E hK hE=>?_))<;>(try simp(disch:=omega) only[go_sem,seval, *]))))
   all_goals(refine ap AN hQ ?_)
   all_goals(refine⟨_,_,Wk.of_eq ?_,?_,rfl,rfl⟩)
   ·rw[show _=R from HE2]
   ·exact HF.out
def ixZ (n:List UInt8)(l:List (List UInt8)):Int:=match ixT n l with|some k=>k|none=>-1
def ixD (n:List UInt8)(l:List (List UInt8))(i:Nat):Int:=match ixT n (l.drop i)with|some k=>((k+i:Nat):Int)|none=>-1
theorem DZ {n:List UInt8}{l:List (List UInt8)}:ixD n l l.length=-1:=by unfold ixD;rw[G_];rfl
theorem I7 {n c:List UInt8}{l:List (List UInt8)}{i:Nat}(h:l[i]?=some c):ixD n l i=if n=c then(i:Int)else ixD n l (i+1):=by
 have hlt:i<l.length:=(n_.1 h).1
 have hc:l[i]=c:=by rw[b_ hlt]at h;injection h
 unfold ixD
 rw[g_ hlt,hc]
 simp only[ixT]
 by_cases e:n=c
 ·rw[if_pos e,if_pos e];simp
 ·rw[if_neg e,if_neg e]
  cases ixT n (l.drop (i+1))with
  |none=>rfl
  |some k=>simp only[Option.map_some];congr 1;omega
set_option maxHeartbeats 2000000 in
theorem EG (l:List (List UInt8))(n:List UInt8)(o:Own)(hx:l.length<=140737488355328)(t:St):SRet Tryz.prog 112 [.lst (aA l) o,.str n] t (.int .i64 (ixZ n l)) t:=by
 have hl:(aA l).length=l.length:=by simp[aA]
 generalize hR:ixZ n l=R
 have HR:=u_ hR
 clear hR
 refine aw Tryz.func112 rfl Tryz.ntmps112 rfl fun Q hQ hQe=>?_
 (repeat'(first|refine Ctl ?_|((with_reducible refine j_ hK ?_);clear hK hE K E)|(((with_reducible refine ae fun K E hK hE=>?_))<;>(try simp(disch:=omega) only[go_sem,seval, *]))))
 refine aI (fun m env s'=>∃i:Nat,i<=l.length/\m+i=l.length/\s'=t/\Hid (ixD n l i=R)/\env 0=.lst (aA l) o/\env 1=.str n/\env 5=.int .i64 i) l.length ?_ ?_
 ·exact⟨_,Fg.refl _,0,by omega,by omega,rfl,HR,ab,ab,ab⟩
 ·clear HR
  rintro m env s' ⟨i,hi,hm,rfl,HE,e0,e1,e5⟩
  by_cases hlt:i<l.length
  ·obtain⟨c,hc⟩:=aN hlt
   have hsx:=dm hc
   have hE:=HE.out
   rw[I7 hc]at hE
   clear hc HE
   by_cases hcn:c=n
   ·subst hcn
    rw[if_pos rfl]at hE
    have HE:=u_ hE
    clear hE
    (repeat'(first|refine Ctl ?_|((with_reducible refine j_ hK ?_);clear hK hE K E)|((with_reducible refine aj (fun h=>?_) (fun h=>?_))<;>(try(exfalso;assumption)))|(((with_reducible refine ae fun K E hK hE=>?_))<;>(try simp(disch:=omega) only[go_sem,seval, *]))))
    all_goals(refine ap va hQ ?_)
    all_goals(refine⟨_,_,Wk.of_eq ?_,?_,rfl,rfl⟩)
    ·rw[show _=R from HE]
    ·(exact bC)
   ·rw[if_neg (fun h=>hcn h.symm)]at hE
    have HE:=u_ hE
    have hcf:(c=n)=False:=eq_false hcn
    clear hE
    (repeat'(first|refine Ctl ?_|((with_reducible refine j_ hK ?_);clear hK hE K E)|((with_reducible refine aj (fun h=>?_) (fun h=>?_))<;>(try(exfalso;assumption)))|(((with_reducible refine ae fun K E hK hE=>?_))<;>(try simp(disch:=omega) only[go_sem,seval, *]))))
    exact⟨s',Fg.refl _,m - 1,by omega,i+1,by omega,by omega,rfl,HE,ab,ab,ab⟩
  ·have hE:=HE.out
   rw[show i=l.length by omega,DZ]at hE
   have HE2:=u_ hE
   clear hE HE
   (repeat'(first|refine Ctl ?_|((with_reducible refine j_ hK ?_);clear hK hE K E)|((with_reducible refine aj (fun h=>?_) (fun h=>?_))<;>(try(exfalso;assumption)))|(((with_reducible refine ae fun K E hK hE=>?_))<;>(try simp(disch:=omega) only[go_sem,seval, *]))))
   all_goals(refine ap va hQ ?_)
   all_goals(refine⟨_,_,Wk.of_eq ?_,?_,rfl,rfl⟩)
   ·rw[show _=R from HE2]
   ·(exact bC)
theorem lm {x:Pgm}(h:(soundP x).2.1≠0):(soundP x).2.2=[]:=by
 unfold soundP at h ⊢
 by_cases hr:cp x=0
 ·rw[if_neg (by simp[hr])]at h ⊢
  cases hb:em x 0 x.rules with
  |some q=>rfl
  |none=>
   rw[hb]at h
   simp only at h ⊢
   cases hs:stgP x with
   |none=>rfl
   |some l=>rw[hs]at h;exact absurd rfl h
 ·rw[if_pos hr]
theorem ua {p:Pgm}:∀(l:List Rul) (k i:Nat) (e:Int),em p k l=some (i,e)->e≠0
 |[],_,_,_,h=>by cases h
 |a::l,k,i,e,h=>by
  simp only[em]at h
  cases ha:bJ p a with
  |error e'=>rw[ha]at h;injection h with h;injection h with h1 h2;subst h2;exact j5 ha
  |ok Y=>rw[ha]at h;exact ua l (k+1) i e h
theorem eq {x:Pgm}(h:(soundP x).2.1=0):∃l,soundP x=(-1,0,l)/\cp x=0/\em x 0 x.rules=none/\stgP x=some l:=by
 unfold soundP at h ⊢
 by_cases hr:cp x=0
 ·rw[if_neg (by simp[hr])]at h ⊢
  cases hb:em x 0 x.rules with
  |some q=>rw[hb]at h;obtain⟨k,e⟩:=q;exact absurd h (ua _ _ _ _ hb)
  |none=>
   rw[hb]at h
   simp only at h ⊢
   cases hs:stgP x with
   |none=>rw[hs]at h;cases h
   |some l=>exact⟨l,rfl,hr,trivial,rfl⟩
 ·rw[if_pos hr]at h;exact absurd h hr
theorem xS {p:Pgm}{X Y:Scp}{a:Atm}(h:bU p X a=.ok Y):eI p.decls a.rel=(ixR p a.rel:Int):=by
 unfold bU at h
 unfold ixR eI
 cases hk:cO p.decls a.rel with
 |none=>rw[hk]at h;cases h
 |some k=>rfl
theorem ud {p:Pgm}:∀(l:List Atm) {X Y:Scp},cL p X l=.ok Y->∀a,a∈l->eI p.decls a.rel=(ixR p a.rel:Int)
 |[],_,_,_,a,ha=>by cases ha
 |b::l,X,Y,h,a,ha=>by
  simp only[cL]at h
  cases hb:bU p X b with
  |error e=>rw[hb]at h;cases h
  |ok Z=>
   rw[hb,dX]at h
   rcases F_.1 ha with rfl|ha
   ·exact xS hb
   ·exact ud l h a ha
theorem Aj {p:Pgm}{r:Rul}{Y:Scp}(h:bJ p r=.ok Y):eI p.decls r.head.rel=(ixR p r.head.rel:Int)/\∀a,a∈r.body->eI p.decls a.rel=(ixR p a.rel:Int):=by
 unfold bJ at h
 cases h1:bU p ⟨[],[]⟩ r.head with
 |error e=>rw[h1]at h;cases h
 |ok X=>
  rw[h1,dX]at h
  cases h2:cL p X r.body with
  |error e=>rw[h2]at h;cases h
  |ok Z=>exact⟨xS h1,ud _ h2⟩
theorem pB {x:Pgm}(h:em x 0 x.rules=none){r:Rul}(hr:r∈x.rules) :
  (ixR x r.head.rel<x.decls.length/\eI x.decls r.head.rel=(ixR x r.head.rel:Int))/\∀a,a∈r.body->ixR x a.rel<x.decls.length/\eI x.decls a.rel=(ixR x a.rel:Int):=by
 obtain⟨Y,hY⟩:=fo _ _ h r hr
 have h1:=j0 hY
 have h2:=Aj hY
 exact⟨⟨h1.1,h2.1⟩,fun a ha=>⟨h1.2 a ha,h2.2 a ha⟩⟩
def iL (l:List Nat):List (List VV):=aB (List.map (fun n:Nat=>(n:Int)) l)
theorem vE {l:List Nat}:(iL l).length=l.length:=by simp[iL,aB]
theorem Bx {l:List Nat}{i:Nat}(h:i<l.length):(iL l)[i]?=some [.int .i64 (gt l i:Int)]:=by
 have:=mu h
 simp[iL,aB,this]
def Rch (l:List Nat)(F:List Edg)(R:List Bool):Prop:=∀e,e∈F->gt l e.h=gt l e.b+e.w->R[e.h]?=some true
theorem Rch.step {l:List Nat}{F:List Edg}{R:List Bool}{e:Edg}{b:Bool}(H:Rch l F R)(hb:R[e.h]?=some b):Rch l (F++[e]) (R.set e.h (b || decide (gt l e.h=gt l e.b+e.w))):=by
 have hlt:e.h<R.length:=(n_.1 hb).1
 intro e' he' hg
 rw[List.getElem?_set]
 rcases l_.1 he' with h|h
 ·have:=H e' h hg
  by_cases hh:e.h=e'.h
  ·rw[if_pos hh,if_pos hlt]
   rw[<- hh,hb]at this
   injection this with this
   subst this
   simp
  ·rw[if_neg hh];exact this
 ·rw[e_]at h
  subst h
  rw[if_pos rfl,if_pos hlt]
  simp[hg]
theorem oM {p q:Pgm}(h1:q.doms=p.doms)(h2:q.decls=p.decls)(X:Scp)(a:Atm):bU q X a=bU p X a:=by
 unfold bU;rw[h1,h2]
theorem mA {p q:Pgm}(h1:q.doms=p.doms)(h2:q.decls=p.decls):∀(l:List Atm) (X:Scp),cL q X l=cL p X l
 |[],X=>rfl
 |a::l,X=>by
  simp only[cL]
  rw[oM h1 h2]
  cases bU p X a with
  |error e=>rfl
  |ok Y=>exact mA h1 h2 l Y
theorem mc {p q:Pgm}(h1:q.doms=p.doms)(h2:q.decls=p.decls)(r:Rul):bJ q r=bJ p r:=by
 unfold bJ
 rw[oM h1 h2]
 cases bU p ⟨[],[]⟩ r.head with
 |error e=>rfl
 |ok Y=>simp only[dX];rw[mA h1 h2]
theorem lM {p:Pgm}:∀(l:List Rul) (k:Nat),(∀r,r∈l->∃Y,bJ p r=.ok Y)->em p k l=none
 |[],_,_=>rfl
 |a::l,k,h=>by
  obtain⟨Y,hY⟩:=h a (by simp)
  simp only[em]
  rw[hY]
  exact lM l (k+1) fun r hr=>h r (by simp[hr])
theorem lJ {p q:Pgm}(h2:q.decls=p.decls)(r:Rul):gd q r=gd p r:=by
 unfold gd ixR;rw[h2]
theorem ot {p:Pgm}{e:Edg}(h:e∈eJ p):∃r,r∈p.rules/\e∈gd p r:=by
 unfold eJ at h
 obtain⟨l,hl,he⟩:=List.mem_flatten.1 h
 obtain⟨r,hr,rfl⟩:=E_.1 hl
 exact⟨r,hr,he⟩
theorem rA {p:Pgm}{e:Edg}{r:Rul}(hr:r∈p.rules)(he:e∈gd p r):e∈eJ p:=
 List.mem_flatten.2 ⟨_,E_.2 ⟨r,hr,rfl⟩,he⟩
theorem PgmOk.sub {x:Pgm}(h:PgmOk x){rs:List Rul}(hs:∀r,r∈rs->r∈x.rules)(hl:rs.length<=x.rules.length):PgmOk ⟨x.doms,x.decls,rs⟩:=by
 obtain⟨h1,h2,h3,h4,h5,h6⟩:=h
 exact⟨h1,h2,by simp only;omega,h4,h5,fun y hy=>h6 y (hs y hy)⟩
end Go.Proofs.YteldpmgepfaiiaaGreatDoor
