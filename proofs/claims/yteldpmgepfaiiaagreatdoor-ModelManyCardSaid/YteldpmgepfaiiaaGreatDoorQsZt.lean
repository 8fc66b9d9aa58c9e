/- Walks of functions, and plain facts. Conditions: those in the statements. -/
import Derived.Test.YteldpmgepfaiiaaGreatDoorQsYij
set_option linter.unusedSimpArgs false
set_option linter.unusedVariables false
set_option maxRecDepth 100000
namespace Go.Proofs.YteldpmgepfaiiaaGreatDoor
open Go.RowKit
attribute [local go_sem] lh lQ lg jk lf dF dE eA ed
attribute [local go_sem] aH aV cH
theorem Fg.own2 {B s:St}(h:Fg B s){o:Own}{T sz n m:Nat}(ho:OwnOk B o m):Fg (B.own o T sz n) (s.own o T sz n):=by
 cases o with
 |no=>exact h
 |full=>exact h
 |at_ b=>
  intro x
  by_cases e:x=b
  ·subst e
   exact .inr ((q_ _ _ _).trans (q_ _ _ _).symm)
  ·have:=h x
   simp only[St.own]
   rw[k_ _ _ e,k_ _ _ e]
   exact this
theorem M8 {B s:St}(h:Fg B s){o:Own}{m:Nat}(ho:OwnOk B o m):OwnOk s o m:=by
 cases o with
 |no=>exact ho
 |full=>exact ho
 |at_ b=>
  simp only[OwnOk]at ho ⊢
  rcases h b with e|e
  ·exact e
  ·exact e.trans ho
set_option maxHeartbeats 8000000 in
theorem M7 (l:List UInt8)(hl:l.length<=9223372036854775000)(x:Pgm)(hx:nU l=.ok x)(s:St):SCalls Tryz.prog 17 [.str l] s fun w u=>∃q:Own×St,w=.ret (.tup [.agg [.lst (x.doms.map dmC) .no,.lst (x.decls.map az) .no,.lst (x.rules.map ax) q.1],.int .i64 0,.int .i64 0])/\u=q.2/\(OwnOk s q.1 x.rules.length/\q.2=s.own q.1 43 4 x.rules.length):=by
 have hsig:=fun s=>CK l hl s
 cases hL:bG l with
 |error q=>unfold nU at hx;rw[hL]at hx;cases hx
 |ok W=>
  rw[hL]at hsig
  simp only[nx]at hsig
  rw[yY hL]at hx
  have hIn:=ti hL
  obtain⟨hG,hWl⟩:=nY hL
  have hw:W.length<=40000:=by omega
  have hgo:∃Le,kf l.length (W.length+1) ⟨[],[],[]⟩ W=.ok (x,Le):=by
   cases hI:kf l.length (W.length+1) ⟨[],[],[]⟩ W with
   |error q=>rw[hI]at hx;cases hx
   |ok q=>obtain⟨y,Le⟩:=q;rw[hI]at hx;injection hx with hx;subst hx;exact⟨Le,rfl⟩
  obtain⟨Le,hgo⟩:=hgo
  have HGO:=u_ hgo
  have HIN:=u_ hIn
  have HG:=u_ hG
  clear hx hL hgo hIn hG
  generalize hle:l.length=e at *
  refine aw Tryz.func17 rfl Tryz.ntmps17 rfl fun Q hQ hQe=>?_
  (repeat'(first|refine Ctl ?_|((with_reducible refine j_ hK ?_);clear hK hE K E)|((with_reducible refine aj (fun h=>?_) (fun h=>?_))<;>(try(exfalso;assumption)))|((first|(with_reducible first|refine ae fun K E hK hE=>?_|refine ak MG (hsig _) ?_)|((with_reducible refine ao (fun b hb=>?_));(repeat(obtain⟨_,hb⟩:=hb))))<;>(try simp(disch:=omega) only[go_sem,seval,hle, *]))))
  rename_i bz hbz r z5 z6 hr z7 z8 z9 z10
  obtain⟨bp,hbp⟩:∃x,x=b:=⟨_,rfl⟩
  subst hbp
  clear hsig h
  have hBz:(s.set bz (.obj 26 [.lst [] .full,.lst [] .full,.lst [] .full])) bz=.obj 26 [.lst [] .full,.lst [] .full,.lst [] .full]:=q_ _ _ _
  have hBf:Fg (s.set bz (.obj 26 [.lst [] .full,.lst [] .full,.lst [] .full])) s:=v_ _ hbz
  have hBr:(s.set bz (.obj 26 [.lst [] .full,.lst [] .full,.lst [] .full])) r=.free:=by rw[k_ _ _ z5];exact hr
  have hBp:(s.set bz (.obj 26 [.lst [] .full,.lst [] .full,.lst [] .full])) bp=.free:=by rw[k_ _ _ z9];exact hb
  change Kp _ _ _ _ _ _ _ ((Rw (s.set bz (.obj 26 [.lst [] .full,.lst [] .full,.lst [] .full])) r e W 0).set bp (.obj 26 [.lst [] .full,.lst [] .full,.lst [] .full]))
  generalize s.set bz (.obj 26 [.lst [] .full,.lst [] .full,.lst [] .full])=B at *
  have HBF:=u_ hBf
  have HBZ:=u_ hBz
  have HBR:=u_ hBr
  have HBP:=u_ hBp
  have HZ:=u_ (And.intro hbz (And.intro hr hb))
  clear hBf hbz hr hb hBr hBp
  refine pc (GS.pg0 (q_ _ _ _)) ?_
  rw[St.set_set,jk z7]
  refine ef (fun m env t=>∃(q f:Nat) (y:Pgm) (Lq:List Sgn),Sfx W q Lq/\GoodU Lq/\InU e Lq/\cm y=true/\kf e f y Lq=.ok (x,Le)/\m=Lq.length/\t=Rw (B.set bp (.pk 26 (pgC y) rsP)) r e W q /\
   env 2=.ptr bz 0/\env 8=.ptr r 0/\env 9=.ptr bp 0) W.length ?_ ?_
  ·exact⟨_,GS.refl _,0,_,⟨[],[],[]⟩,W,⟨by omega,rfl⟩,HG.out,HIN.out,by decide,HGO.out,rfl,rfl,ab,ab,ab⟩
  ·clear HGO HIN HG
   rintro m env t ⟨q,f,y,Lq,hS,hGq,hIq,hy,hgo,rfl,rfl,e2,e8,e9⟩
   have hql:=hS.1
   have hwm:(W.map gw).length=W.length:=a_ _
   cases f with
   |zero=>cases hgo
   |succ f=>
    simp only[kf]at hgo
    by_cases hnil:Lq=[]
    ·rw[if_pos hnil]at hgo
     injection hgo with hgo;injection hgo with hgo _
     subst hnil
     have hqe:=hS.nil
     subst hqe
     subst hgo
     simp only[pgC]
     clear hS hGq hIq
     have hdl:(y.rules.map ax).length=y.rules.length:=a_ _
     refine lj bp 2 (T':=43) (sz:=4) [(0,63,2),(1,66,2)] ((lf z7).trans (q_ _ _ _)) rfl (by simp) (by simp) ?_
     intro o hO hop
     have hor:ay o r:=hO.not (by simp only[lh];simp)
     rw[rP z7 hop hor]
     simp only[eA,dw,hdl,List.set]at hO ⊢
     obtain⟨_,_,hO⟩:=hO
     have hoz:ay o bz:=hO.not (by rw[HBZ.out];simp)
     have HOO:=u_ (And.intro hO (And.intro hop (And.intro hor hoz)))
     (repeat'(first|refine Ctl ?_|(with_reducible first|(refine j_ hK ?_;clear hK hE K E)|(refine j_ hKh ?_;clear hKh Kh)|refine aq 6 [] [0,1,2,3,4,5,6,7,8,9,10,11,12,13,14,15,16] hQe fun K E hK hE=>?_)|((with_reducible refine aj (fun h=>?_) (fun h=>?_))<;>(try(exfalso;first|assumption|omega)))|(((with_reducible first|refine ae fun K E hK hE=>?_|refine aD fun Kh hKh=>?_))<;>(try simp(disch:=first|assumption|omega) only[go_sem,seval,hwm,eA,dF,dE,ed,aH,aV,dw,or_true,if_true, *]))))
     all_goals(refine ap E8 hQ ?_)
     obtain⟨hO,hop,hor,hoz⟩:=HOO.out
     refine⟨_,s.own o 43 4 y.rules.length,Wk.refl _,?_,(o,_),rfl,rfl,M8 HBF.out hO,rfl⟩
     exact w_ (w_ (w_ (Fg.own2 HBF.out hO) (by rw[aR];exact⟨hop,HZ.out.2.2⟩)) (by rw[aR];exact⟨hoz,HZ.out.1⟩)) (by rw[aR];exact⟨hor,HZ.out.2.1⟩)
    ·rw[if_neg hnil]at hgo
     have hqlt:q<W.length:=by
      rcases Nat.lt_or_ge q W.length with h|h
      ·exact h
      ·have:=hS.2;rw[List.drop_eq_nil_of_le h]at this;exact absurd this.symm hnil
     cases hit:tp e y Lq with
     |error q=>rw[hit]at hgo;cases hgo
     |ok qq=>
      obtain⟨y2,L2⟩:=qq
      rw[hit,bW]at hgo
      have hpl:=PlU.item hy hIq
      rw[hit]at hpl
      obtain⟨hy2,hI2,hlt⟩:=hpl
      have HGO:=u_ hgo
      have HY2:=u_ hy2
      have HI2:=u_ hI2
      have HLT:=u_ hlt
      have v0:=fun s t=>ld s r e q W t hql
      clear hgo hI2 hlt hIq hy
      unfold tp at hit
      by_cases hd:isT Lq 0 [100,111,109]=true
      ·rw[if_pos hd]at hit
       obtain⟨hn,a,b1,c,d,rfl,ha,hb1,hc,hdd,rfl⟩:=Ek hit
       obtain⟨g0,s1,_⟩:=hS.cons
       obtain⟨g1,s2,_⟩:=s1.cons
       obtain⟨g2,s3,_⟩:=s2.cons
       obtain⟨g3,s4,_⟩:=s3.cons
       have hG4:GoodU L2:=fun z hz=>hGq z (by simp[hz])
       have HG4:=u_ hG4
       have HS4:=u_ s4
       have v1:=fun s=>ld s r e q W [100,111,109] hql
       rw[show isT W q [100,111,109]=true by simp[isT,g0,ha]]at v1
       have v2:=fun s=>jD s r e q W (y.doms.length:Int) 32 true (by omega)
       have v3:=fun s=>gp s r e (q+1) W b1 1 hw g1 hb1
       have v4:=fun s=>gp s r e (q+1+1) W c 2 hw g2 hc
       obtain⟨n,hn2,hnl⟩:=hGq c (by simp) hc
       have hnn:ra c.text=n:=by simp[ra,hn2]
       have v5:=fun s=>C2 c.text n hnl hn2 s
       have v6:=fun s=>fq s r e (q+1+1+1) W [46] hw (by simp[isT,g3,hdd])
       have hdl:(y.doms.map dmC).length=y.doms.length:=a_ _
       clear hit hd hS hGq s1 s2 s3 s4 g0 g1 g2 g3 hG4 ha hb1 hc hdd hn2 hnl v0
       rw[hnn]at HY2 HGO
       clear hnn
       refine lj bp 0 (T':=63) (sz:=2) [(1,66,2),(2,43,4)] ((lf z7).trans (q_ _ _ _)) rfl (by simp) (by simp) ?_
       intro o hO hop
       have hor:ay o r:=hO.not (by simp only[lh];simp)
       rw[rP z7 hop hor]
       simp only[eA,dw,hdl,pgC,List.set]at hO ⊢
       obtain⟨_,_,hO⟩:=hO
       (repeat'(first|refine Ctl ?_|(with_reducible first|(refine j_ hK ?_;clear hK hE K E)|(refine j_ hKh ?_;clear hKh Kh)|refine aq 6 [] [0,1,2,3,4,5,6,7,8,9,10,11,12,13,14,15,16] hQe fun K E hK hE=>?_)|((with_reducible refine aj (fun h=>?_) (fun h=>?_))<;>(try(exfalso;assumption)))|((first|(with_reducible first|refine ae fun K E hK hE=>?_|refine ak iC (v1 _) ?_|refine ak qp (v2 _) ?_|refine ak mz (v3 _) ?_|refine ak mz (v4 _) ?_|refine ak Fq (v5 _) ?_|refine ak my (v6 _) ?_|refine aD fun Kh hKh=>?_)|((with_reducible refine ao (fun b hb=>?_));(repeat(obtain⟨_,hb⟩:=hb));(try(try(rw[aR]at hb;obtain⟨hob,hb⟩:=hb))))|((with_reducible refine cq (fun o2 ho=>?_));(try simp(disch:=assumption) only[aQ,aS,bc,cB,a_,List.length_cons,List.length_nil,Nat.zero_add,hwm,hdl,dmC,eA,dF,dE,ed,aH,aV,dw,or_true,if_true]at ho);(repeat(obtain⟨_,ho⟩:=ho))))<;>(try simp(disch:=first|assumption|omega) only[go_sem,seval,hwm,hdl,dmC,eA,dF,dE,ed,aH,aV,dw,or_true,if_true, *]))))
       exact⟨Rw (B.set bp (.pk 26 (pgC ⟨y.doms++[⟨b1.text,(n:Nat)⟩],y.decls,y.rules⟩) rsP)) r e W (q+1+1+1+1),GS.trans (GS.of_fg (Fg.rw (v_ _ (by rw[k_ _ _ (‹_›),aR];exact⟨‹_›,hb⟩)))) (rQ z7 (‹_›) (‹_›) ho (by simp) (i:=0) rfl (by simp[pgC,dmC]) (by simp)),L2.length,HLT.out,q+1+1+1+1,f,⟨y.doms++[⟨b1.text,(n:Nat)⟩],y.decls,y.rules⟩,L2,HS4.out,HG4.out,HI2.out,HY2.out,HGO.out,rfl,rfl,ab,ab,ab⟩
      ·rw[if_neg hd]at hit
       have hdf:isT Lq 0 [100,111,109]=false:=by simpa using hd
       have v1:=fun s=>ld s r e q W [100,111,109] hql
       rw[hS.isT,hdf]at v1
       have v2:=fun s=>ld s r e q W [114,101,108] hql
       rw[hS.isT]at v2
       by_cases hr:isT Lq 0 [114,101,108]=true
       ·rw[if_pos hr]at hit
        obtain⟨hn,hc,d,hdc,rfl⟩:=Dc hit
        rw[hr]at v2
        have g1:=hS.tail hc
        have hsuf:L2 <:+ Lq.tail:=by
         obtain⟨z,M1,M3,hM,_,_,_,hgo,_,_,rfl⟩:=tO hdc
         rw[hM]
         exact(((suf_tail.trans suf_tail).trans (ka (fun _ _ _ h=>by obtain⟨z,rfl,_⟩:=dW h;exact List.suffix_cons _ _) _ hgo)).trans suf_tail).trans (List.suffix_cons _ _)
        obtain⟨q2,s2⟩:=g1.suf hsuf
        have hG4:GoodU L2:=fO (hsuf.trans suf_tail) hGq
        have HG4:=u_ hG4
        have HS4:=u_ s2
        have h8:d.doms.length<=8:=by
         have:=(mN HY2.out).2.2.2.2.1 d (by simp)
         exact(vO this)
        have v3:=fun s=>jD s r e q W (y.decls.length:Int) 32 true (by omega)
        have v4:=fun s=>Es s r e (q+1) q2 W _ L2 d hw g1 hdc s2 h8
        have hdl:(y.decls.map az).length=y.decls.length:=a_ _
        obtain⟨dn,dd⟩:=d
        simp only[az]at v4
        clear hit hd hr hc hS hGq s2 g1 hG4 v0 hdf hdc hsuf
        refine lj bp 1 (T':=66) (sz:=2) [(0,63,2),(2,43,4)] ((lf z7).trans (q_ _ _ _)) rfl (by simp) (by simp) ?_
        intro o hO hop
        have hor:ay o r:=hO.not (by simp only[lh];simp)
        rw[rP z7 hop hor]
        simp only[eA,dw,hdl,pgC,List.set]at hO ⊢
        obtain⟨_,_,hO⟩:=hO
        (repeat'(first|refine Ctl ?_|(with_reducible first|(refine j_ hK ?_;clear hK hE K E)|(refine j_ hKh ?_;clear hKh Kh)|(refine j_ hKb (aL ?_);clear hKb Kb)|refine aq 6 [] [0,1,2,3,4,5,6,7,8,9,10,11,12,13,14,15,16] hQe fun K E hK hE=>?_|refine aq 20 [([0,1,2],3,[[0,1]]),([4],5,[[],[]]),([6],7,[[],[],[]])] [] hQe fun K E hK hE=>?_)|((with_reducible refine aj (fun h=>?_) (fun h=>?_))<;>(try(exfalso;assumption)))|((first|(with_reducible first|refine ae fun K E hK hE=>?_|refine ak iC (v1 _) ?_|refine ak iC (v2 _) ?_|refine ak qp (v3 _) ?_|refine ak MF (v4 _) ?_|refine aE fun Kh hKh=>?_|refine aD fun Kh hKh=>?_|refine aM fun Kb hKb=>?_)|((with_reducible refine cq (fun o2 ho=>?_));(try simp(disch:=assumption) only[aQ,aS,bc,cB,a_,List.length_cons,List.length_nil,Nat.zero_add,hwm,hdl,az,eA,dF,dE,ed,aH,aV,dw,or_true,if_true]at ho);(repeat(obtain⟨_,ho⟩:=ho))))<;>(try simp(disch:=first|assumption|omega) only[go_sem,seval,hwm,hdl,az,eA,dF,dE,ed,aH,aV,dw,or_true,if_true, *]))))
        exact⟨Rw (B.set bp (.pk 26 (pgC ⟨y.doms,y.decls++[⟨dn,dd⟩],y.rules⟩) rsP)) r e W (q2),rQ z7 (‹_›) (‹_›) ho (by simp) (i:=1) rfl (by simp[pgC,az]) (by simp),L2.length,HLT.out,q2,f,⟨y.doms,y.decls++[⟨dn,dd⟩],y.rules⟩,L2,HS4.out,HG4.out,HI2.out,HY2.out,HGO.out,rfl,rfl,ab,ab,ab⟩
       ·rw[if_neg hr]at hit
        have hrf:isT Lq 0 [114,101,108]=false:=by simpa using hr
        obtain⟨hn,a,hra,rfl⟩:=C9 hit
        rw[hrf]at v2
        have hsuf:L2 <:+ Lq:=by
         obtain⟨M1,M2,hat,hbd,_,rfl⟩:=nE hra
         rcases hbd with ⟨_,hgo⟩|⟨_,_,rfl⟩
         ·exact((suf_tail.trans (gn _ hgo).2.2).trans suf_tail).trans (dx hat)
         ·exact suf_tail.trans (dx hat)
        obtain⟨q2,s2⟩:=hS.suf hsuf
        have hG4:GoodU L2:=fO hsuf hGq
        have HG4:=u_ hG4
        have HS4:=u_ s2
        have hra2:=(mN HY2.out).2.2.2.2.2 a (by simp)
        obtain⟨k1,k2,k3⟩:=uU hra2
        have v3:=fun s a b t=>mV s r e q W a b t hql
        have v4:=fun s b=>jD s r e q W (y.rules.length:Int) 64 b (by omega)
        have v5:=fun s=>Er s r e q q2 W _ L2 a hw hGq hS hra s2 k1 k2 k3
        have hdl:(y.rules.map ax).length=y.rules.length:=a_ _
        obtain⟨⟨an,ar,ats⟩,abd⟩:=a
        simp only[ax]at v5
        clear hit hd hr hS hGq s2 hG4 v0 hdf hra hrf hsuf hra2 k1 k2 k3
        refine lj bp 2 (T':=43) (sz:=4) [(0,63,2),(1,66,2)] ((lf z7).trans (q_ _ _ _)) rfl (by simp) (by simp) ?_
        intro o hO hop
        have hor:ay o r:=hO.not (by simp only[lh];simp)
        rw[rP z7 hop hor]
        simp only[eA,dw,hdl,pgC,List.set]at hO ⊢
        obtain⟨_,_,hO⟩:=hO
        (repeat'(first|refine Ctl ?_|(with_reducible first|(refine j_ hK ?_;clear hK hE K E)|(refine j_ hKh ?_;clear hKh Kh)|(refine j_ hKb (aL ?_);clear hKb Kb)|refine aq 6 [] [0,1,2,3,4,5,6,7,8,9,10,11,12,13,14,15,16] hQe fun K E hK hE=>?_|refine aq 7 [([0,1,2,3,4],5,[[0,1,2,3]]),([],6,[[],[]])] [] hQe fun K E hK hE=>?_|refine aq 8 [([0,1,2],3,[[0,1]]),([4],5,[[],[]]),([6],7,[[],[],[]])] [] hQe fun K E hK hE=>?_)|((with_reducible refine aj (fun h=>?_) (fun h=>?_))<;>(try(exfalso;assumption)))|((first|(with_reducible first|refine ae fun K E hK hE=>?_|refine ak iC (v1 _) ?_|refine ak iC (v2 _) ?_|refine ak qp (v4 _ _) ?_|refine ak ME (v5 _) ?_|refine aE fun Kh hKh=>?_|refine aD fun Kh hKh=>?_|refine aM fun Kb hKb=>?_)|((with_reducible refine aO xP (v3 _ _ _ _) (fun a h=>?_)))|((with_reducible refine cq (fun o2 ho=>?_));(try simp(disch:=assumption) only[aQ,aS,bc,cB,a_,List.length_cons,List.length_nil,Nat.zero_add,hwm,hdl,ax,eA,dF,dE,ed,aH,aV,dw,or_true,if_true]at ho);(repeat(obtain⟨_,ho⟩:=ho))))<;>(try simp(disch:=first|assumption|omega) only[go_sem,seval,hwm,hdl,ax,eA,dF,dE,ed,aH,aV,dw,or_true,if_true, *]))))
        exact⟨Rw (B.set bp (.pk 26 (pgC ⟨y.doms,y.decls,y.rules++[⟨⟨an,ar,ats⟩,abd⟩]⟩) rsP)) r e W (q2),rQ z7 (‹_›) (‹_›) ho (by simp) (i:=2) rfl (by simp[pgC,ax]) (by simp),L2.length,HLT.out,q2,f,⟨y.doms,y.decls,y.rules++[⟨⟨an,ar,ats⟩,abd⟩]⟩,L2,HS4.out,HG4.out,HI2.out,HY2.out,HGO.out,rfl,rfl,ab,ab,ab⟩
end Go.Proofs.YteldpmgepfaiiaaGreatDoor
