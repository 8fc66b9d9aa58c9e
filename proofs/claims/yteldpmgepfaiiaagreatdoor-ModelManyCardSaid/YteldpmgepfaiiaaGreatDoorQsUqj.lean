/- Walks of functions, and plain facts. Conditions: those in the statements. -/
import Derived.Test.YteldpmgepfaiiaaGreatDoorQsUlj
set_option linter.unusedSimpArgs false
set_option linter.unusedVariables false
set_option maxRecDepth 100000
namespace Go.Proofs.YteldpmgepfaiiaaGreatDoor
open Go.RowKit
attribute [local go_sem] dA bD
theorem gK {s:St}{o2 o:Own}{T sz n m:Nat}(h:OwnOk (s.own o2 T sz n) o m):OwnOk s o m:=by
 cases o with
 |at_ x=>simp only[OwnOk,aR]at h;exact h.2
 |_=>exact h
theorem Ff {s:St}{o2 o:Own}{T sz n m T' sz':Nat}(h2:OwnOk s o2 n):Fg ((s.own o2 T sz n).own o T' sz' m) (s.own o T' sz' m):=by
 cases o with
 |at_ x=>exact Fg.set (Fg.own h2) _ _
 |_=>exact Fg.own h2
def lD (x:Pgm):VV:=if cm x=true then(match bG (Bc x)with|.ok _=>.tup [.str (Bc x),.int .i64 0]|.error _=>.tup [.str [],.int .i64 2])else .tup [.str [],.int .i64 1]
set_option maxHeartbeats 4000000 in
theorem Cx (x:Pgm)(hx:PgmOk x)(s:St):SRet Tryz.prog 124 [.agg (pgC x)] s (lD x) s:=by
 have hck:=fun s=>zZ x hx s
 refine aw Tryz.func124 rfl Tryz.ntmps124 rfl fun Q hQ hQe=>?_
 cases hB:cm x with
 |false=>
  rw[hB]at hck
  simp only[pgC]at hck
  (repeat'(first|refine Ctl ?_|((with_reducible refine j_ hK ?_);clear hK hE K E)|((with_reducible refine aj (fun h=>?_) (fun h=>?_))<;>(try(exfalso;assumption)))|((first|(with_reducible first|refine ae fun K E hK hE=>?_|refine ak B9 (hck _) ?_)|((with_reducible refine ao (fun b hb=>?_))))<;>(try simp(disch:=omega) only[go_sem,seval,pgC, *]))))
  all_goals(refine ap qO hQ ?_)
  all_goals(refine⟨_,_,Wk.of_eq ?_,?_,rfl,rfl⟩)
  ·simp[lD,hB]
  ·(exact bC)
 |true=>
  rw[hB]at hck
  simp only[pgC]at hck
  (repeat'(first|refine Ctl ?_|((with_reducible refine j_ hK ?_);clear hK hE K E)|((with_reducible refine aj (fun h=>?_) (fun h=>?_))<;>(try(exfalso;assumption)))|((first|(with_reducible first|refine ae fun K E hK hE=>?_|refine ak B9 (hck _) ?_)|((with_reducible refine ao (fun b hb=>?_));(repeat(obtain⟨_,hb⟩:=hb))))<;>(try simp(disch:=omega) only[go_sem,seval,pgC, *]))))
  rename_i bp hbp n1 n2
  obtain⟨ds,cs,rs⟩:=x
  simp only at hB hck ⊢
  have hS:(∀d,d∈ds->dmB d=true)/\(∀d,d∈cs->eS d=true)/\(∀y,y∈rs->dJ y=true)/\ds.length<=32/\cs.length<=32/\rs.length<=64:=by
   simp only[cm,Bool.and_eq_true,decide_eq_true_eq,List.all_eq_true]at hB
   obtain⟨⟨⟨⟨⟨k1,k2⟩,k3⟩,k4⟩,k5⟩,k6⟩:=hB
   exact⟨k4,k5,k6,k1,k2,k3⟩
  obtain⟨g1,g2,g3,g4,g5,g6⟩:=hS
  have hb0:(s.set bp (.obj 26 [.lst (ds.map dmC) .no,.lst (cs.map az) .no,.lst (rs.map ax) .no])) bp=.obj 26 [.lst (ds.map dmC) .no,.lst (cs.map az) .no,.lst (rs.map ax) .no]:=q_ _ _ _
  have hF0:Fg (s.set bp (.obj 26 [.lst (ds.map dmC) .no,.lst (cs.map az) .no,.lst (rs.map ax) .no])) s:=v_ _ hbp
  have hbw:(s.set bp (.obj 26 [.lst (ds.map dmC) .no,.lst (cs.map az) .no,.lst (rs.map ax) .no])) b=.free:=by rw[k_ _ _ n1];exact hb
  generalize s.set bp (.obj 26 [.lst (ds.map dmC) .no,.lst (cs.map az) .no,.lst (rs.map ax) .no])=B at *
  have hbf:B bp≠.free:=by rw[hb0];simp
  have HF:=u_ hF0
  have HBW:=u_ hbw
  clear hF0 hbp h hck hbw hb
  obtain⟨bw,hbw⟩:∃bw,bw=b:=⟨_,rfl⟩
  subst hbw
  refine aI (fun m env t=>∃(i:Nat) (o:Own) (ad:VV) (bs:List UInt8),i<=ds.length/\m+i=ds.length/\bs=((ds.take i).map dmT).flatten/\t=Wb (B.own o 5 1 bs.length) bw ad bs o/\OwnOk B o bs.length/\ay o bw/\AdB bw ad/\(o=.full\/bs≠[]) /\
   env 1=.ptr bp 0/\env 4=.ptr bw 0/\env 21=.lst (ds.map dmC) .no/\env 22=.int .i64 ds.length/\env 23=.int .i64 i) ds.length ?_ ?_
  ·exact⟨_,Fg.refl _,0,.full,.raw (.pointer none),[],by omega,by omega,rfl,rfl,rfl,trivial,.inl rfl,.inl rfl,ab,ab,ab,ab,ab⟩
  ·rintro m env t ⟨i,o,ad,bs,hi,hm,hbs,rfl,hO,hno,had,hne,e1,e4,e21,e22,e23⟩
   have hop:=hO.not hbf
   by_cases hlt:i<ds.length
   ·obtain⟨c,hc⟩:=aN hlt
    obtain⟨k1,k2,k3,k4⟩:=kX (g1 c (p_ hc))
    have hsx:=ge hc
    have hbl:bs.length<=3200:=by
     have:=ip (f:=dmT) (m:=100) (l:=ds.take i) fun y hy=>(kX (g1 y (List.mem_of_mem_take hy))).1
     rw[<- hbs,A_]at this
     have h2:min i ds.length*100<=32*100:=Nat.mul_le_mul_right _ (by omega)
     omega
    have HX:=u_ hc
    have HBS:=u_ hbs
    have HNE:=u_ hne
    clear hc hbs hne
    obtain⟨cn,cz⟩:=c
    simp only at k2 k3 k4
    have k5:=Lib.itoa_length_le cz (by omega) (by omega)
    (repeat'(first|refine Ctl ?_|(with_reducible first|(refine j_ hK ?_;clear hK hE K E)|(refine j_ hKh ?_;clear hKh Kh)|(refine j_ hKb (aL ?_);clear hKb Kb)|refine aq 7 [([0,1,2,3,4,5],6,[[0,1,2,3]]),([7,8],9,[[],[]])] [] hQe fun K E hK hE=>?_)|((with_reducible refine aj (fun h=>?_) (fun h=>?_))<;>(try(exfalso;assumption)))|((first|(with_reducible first|refine ae fun K E hK hE=>?_|refine ak Ce (CX _ (by omega) (by omega) _) ?_|refine aE fun Kh hKh=>?_|refine aD fun Kh hKh=>?_|refine aM fun Kb hKb=>?_|refine mB ?_)|((with_reducible refine aO rF (EQ _ _ _ _ _ _ (‹_›) (by simp(disch:=assumption) only[go_sem,seval, *]) (‹_›) (by simp only[d_,List.length_cons,List.length_nil];omega)) (fun a h=>?_));(obtain⟨hO2,hn2,had2⟩:=h;simp(disch:=assumption) only[aQ,aS,bc]at hO2;obtain⟨hn3,hO2⟩:=hO2))|((with_reducible refine ao (fun b hb=>?_));(repeat(obtain⟨_,hb⟩:=hb));(try(try(rw[aR]at hb;obtain⟨hob,hb⟩:=hb)))))<;>(try simp(disch:=first|assumption|omega) only[go_sem,seval,dmC,rJ,d_, *]))))
    refine⟨Wb (B.own a.1 5 1 (bs++100::111::109::32::(cn++[32]++Lib.itoa cz++[46,10])).length) bw a.2 (bs++100::111::109::32::(cn++[32]++Lib.itoa cz++[46,10])) a.1,?_,m - 1,by omega,i+1,a.1,a.2,_,by omega,by omega,?_,rfl,hO2,hn2,had2,.inr (by simp),ab,ab,ab,ab,ab⟩
    ·simp only[WbS,Wb]
     rw[aQ hob,aS hO,aZ hn3]
     exact Fg.set (v_ _ (by rw[aR];exact⟨hn3,hb⟩)) _ _
    ·rw[mQ HX.out,<- HBS.out]
     simp[dmT]
   ·have hiL:i=ds.length:=by omega
    rw[hiL,f_]at hbs
    have hbl:bs.length<=3200:=by
     have:=ip (f:=dmT) (m:=100) (l:=ds) fun y hy=>(kX (g1 y hy)).1
     rw[<- hbs]at this
     have h2:ds.length*100<=32*100:=Nat.mul_le_mul_right _ g4
     omega
    have HB1:=u_ hbs
    have HNE:=u_ hne
    clear hbs hne
    (repeat'(first|refine Ctl ?_|((with_reducible refine j_ hK ?_);clear hK hE K E)|((with_reducible refine aj (fun h=>?_) (fun h=>?_))<;>(try(exfalso;omega)))|(((with_reducible refine ae fun K E hK hE=>?_))<;>(try simp(disch:=first|assumption|omega) only[go_sem,seval,a_, *]))))
    clear e21 e22 e23 hlt hiL hi hm h
    refine aI (fun m env t=>∃(i:Nat) (o:Own) (ad:VV) (bs2:List UInt8),i<=cs.length/\m+i=cs.length/\bs2=bs++((cs.take i).map vP).flatten/\t=Wb (B.own o 5 1 bs2.length) bw ad bs2 o/\OwnOk B o bs2.length/\ay o bw/\AdB bw ad/\(o=.full\/bs2≠[]) /\
     env 1=.ptr bp 0/\env 4=.ptr bw 0/\env 39=.lst (cs.map az) .no/\env 40=.int .i64 cs.length/\env 41=.int .i64 i) cs.length ?_ ?_
    ·exact⟨_,Fg.refl _,0,o,ad,bs,by omega,by omega,by simp,rfl,hO,hno,had,HNE,ab,ab,ab,ab,ab⟩
    ·clear e1 e4 hO hno had HNE hop env o ad m
     rintro m env t ⟨i,o,ad,bs2,hi,hm,hbs,rfl,hO,hno,had,hne,e1,e4,e39,e40,e41⟩
     have hop:=hO.not hbf
     by_cases hlt:i<cs.length
     ·obtain⟨c,hc⟩:=aN hlt
      obtain⟨k1,k2,k3,k4⟩:=jB (g2 c (p_ hc))
      have hsx:=dp hc
      have hbl2:bs2.length<=16000:=by
       have:=ip (f:=vP) (m:=400) (l:=cs.take i) fun y hy=>(jB (g2 y (List.mem_of_mem_take hy))).1
       have h2:min i cs.length*400<=32*400:=Nat.mul_le_mul_right _ (by omega)
       rw[A_]at this
       rw[hbs,d_]
       omega
      have HX:=u_ hc
      have HBS:=u_ hbs
      have HNE:=u_ hne
      clear hc hbs hne
      obtain⟨cn,cd⟩:=c
      simp only at k2 k3 k4
      have k5:(Lib.join cd [44,32]).length<=140737488355328:=by omega
      have k6:cd.length<=140737488355328:=by omega
      (repeat'(first|refine Ctl ?_|(with_reducible first|(refine j_ hK ?_;clear hK hE K E)|(refine j_ hKh ?_;clear hKh Kh)|(refine j_ hKb (aL ?_);clear hKb Kb)|refine aq 12 [([0,1,2,3,4,5],6,[[0,1,2,3]]),([7,8],9,[[],[]])] [] hQe fun K E hK hE=>?_)|((with_reducible refine aj (fun h=>?_) (fun h=>?_))<;>(try(exfalso;assumption)))|((first|(with_reducible first|refine ae fun K E hK hE=>?_|refine ak rE (rY _ _ _ (‹_›) (‹_›) _) ?_|refine aE fun Kh hKh=>?_|refine aD fun Kh hKh=>?_|refine aM fun Kb hKb=>?_|refine mB ?_)|((with_reducible refine aO rF (EQ _ _ _ _ _ _ (‹_›) (by simp(disch:=assumption) only[go_sem,seval, *]) (‹_›) (by simp only[d_,List.length_cons,List.length_nil];omega)) (fun a h=>?_));(obtain⟨hO2,hn2,had2⟩:=h;simp(disch:=assumption) only[aQ,aS,bc]at hO2;obtain⟨hn3,hO2⟩:=hO2))|((with_reducible refine ao (fun b hb=>?_));(repeat(obtain⟨_,hb⟩:=hb));(try(try(rw[aR]at hb;obtain⟨hob,hb⟩:=hb)))))<;>(try simp(disch:=first|assumption|omega) only[go_sem,seval,az,rJ,d_, *]))))
      refine⟨Wb (B.own a.1 5 1 (bs2++114::101::108::32::(cn++[40]++Lib.join cd [44,32]++[41,46,10])).length) bw a.2 (bs2++114::101::108::32::(cn++[40]++Lib.join cd [44,32]++[41,46,10])) a.1,?_,m - 1,by omega,i+1,a.1,a.2,_,by omega,by omega,?_,rfl,hO2,hn2,had2,.inr (by simp),ab,ab,ab,ab,ab⟩
      ·simp only[WbS,Wb]
       rw[aQ hob,aS hO,aZ hn3]
       exact Fg.set (v_ _ (by rw[aR];exact⟨hn3,hb⟩)) _ _
      ·rw[mQ HX.out,<- List.append_assoc,<- HBS.out]
       simp[vP]
     ·have hiL:i=cs.length:=by omega
      rw[hiL,f_]at hbs
      have hbl2:bs2.length<=16000:=by
       have:=ip (f:=vP) (m:=400) (l:=cs) fun y hy=>(jB (g2 y hy)).1
       have h2:cs.length*400<=32*400:=Nat.mul_le_mul_right _ g5
       rw[hbs,d_]
       omega
      have HB2:=u_ hbs
      have HNE:=u_ hne
      clear hbs hne
      (repeat'(first|refine Ctl ?_|((with_reducible refine j_ hK ?_);clear hK hE K E)|((with_reducible refine aj (fun h=>?_) (fun h=>?_))<;>(try(exfalso;omega)))|(((with_reducible refine ae fun K E hK hE=>?_))<;>(try simp(disch:=first|assumption|omega) only[go_sem,seval,a_, *]))))
      clear e39 e40 e41 hlt hiL hi hm h
      refine aI (fun m env t=>∃(i:Nat) (o:Own) (ad:VV) (bs3:List UInt8),i<=rs.length/\m+i=rs.length/\bs3=bs2++((rs.take i).map sH).flatten/\t=Wb (B.own o 5 1 bs3.length) bw ad bs3 o/\OwnOk B o bs3.length/\ay o bw/\AdB bw ad/\(o=.full\/bs3≠[]) /\
       env 1=.ptr bp 0/\env 4=.ptr bw 0/\env 57=.lst (rs.map ax) .no/\env 58=.int .i64 rs.length/\env 59=.int .i64 i) rs.length ?_ ?_
      ·exact⟨_,Fg.refl _,0,o,ad,bs2,by omega,by omega,by simp,rfl,hO,hno,had,HNE,ab,ab,ab,ab,ab⟩
      ·clear e1 e4 hO hno had HNE hop env o ad m
       rintro m env t ⟨i,o,ad,bs3,hi,hm,hbs,rfl,hO,hno,had,hne,e1,e4,e57,e58,e59⟩
       have hop:=hO.not hbf
       by_cases hlt:i<rs.length
       ·obtain⟨c,hc⟩:=aN hlt
        obtain⟨k1,k2,k3,k4,k5,k6⟩:=ls (g3 c (p_ hc))
        have hsx:=fc hc
        have hbl3:bs3.length<=300000:=by
         have:=ip (f:=sH) (m:=4000) (l:=rs.take i) fun y hy=>(ls (g3 y (List.mem_of_mem_take hy))).1
         have h2:min i rs.length*4000<=64*4000:=Nat.mul_le_mul_right _ (by omega)
         rw[A_]at this
         rw[hbs,d_]
         omega
        have HX:=u_ hc
        have HBS:=u_ hbs
        have HNE:=u_ hne
        clear hc hbs hne
        obtain⟨⟨hn,hr,ht⟩,cb⟩:=c
        simp only at k2 k3 k4 k5 k6
        have hsp:=fun o0 s=>sf ⟨hn,hr,ht⟩ o0 k2 s
        simp only at hsp
        generalize hT:gB ⟨hn,hr,ht⟩=T at *
        (repeat'(first|refine Ctl ?_|((with_reducible refine j_ hK ?_);clear hK hE K E)|((with_reducible refine aj (fun h=>?_) (fun h=>?_))<;>(try(exfalso;assumption)))|((first|(with_reducible first|refine ae fun K E hK hE=>?_|refine ak B8 (hsp _ _) ?_)|((with_reducible refine aO rF (EQ _ _ _ _ _ _ (‹_›) (by simp(disch:=assumption) only[go_sem,seval, *]) (‹_›) (by omega)) (fun a h=>?_));(obtain⟨hO2,hn2,had2⟩:=h;simp(disch:=assumption) only[aQ,aS,bc]at hO2;obtain⟨hn3,hO2⟩:=hO2))|((with_reducible refine ao (fun b hb=>?_));(repeat(obtain⟨_,hb⟩:=hb));(try(try(rw[aR]at hb;obtain⟨hob,hb⟩:=hb)))))<;>(try simp(disch:=first|assumption|omega) only[go_sem,seval,a_,ax,rJ,WbS,d_, *]))))
        clear hsp
        obtain⟨bs4,hbs4⟩:∃l,bs3++T=l:=⟨_,rfl⟩
        have hbl4:bs4.length=bs3.length+T.length:=by rw[<- hbs4,d_]
        rw[<- hbl4]
        rw[hbs4]at hO2 ⊢
        have HB4:=u_ hbs4
        have HBL4:=u_ hbl4
        have hbl5:bs4.length<=300400:=by omega
        clear hbs4 hbl4
        obtain⟨o4,ad4⟩:=a
        simp only at hO2 hn2 hn3 had2 ⊢
        have hMb:(B.own o4 5 1 bs4.length) b=.free:=by rw[aR];exact⟨hn3,hb⟩
        have hMw:(B.own o4 5 1 bs4.length) bw=.free:=by rw[aR];exact⟨hn2,HBW.out⟩
        have HMW:=u_ hMw
        refine aI (fun m2 env t=>∃(j:Nat) (ol:Own),j<=cb.length/\m2+j=cb.length/\t=Wb ((B.own o4 5 1 bs4.length).own ol 9 1 j) bw ad4 bs4 o4/\OwnOk (B.own o4 5 1 bs4.length) ol j/\ay ol bw /\
         env 1=.ptr bp 0/\env 4=.ptr bw 0/\env 57=.lst (rs.map ax) .no/\env 58=.int .i64 rs.length/\env 59=.int .i64 i/\env 11=.lst (aA ((cb.take j).map gB)) ol/\env 68=.lst (cb.map aG) .no/\env 69=.int .i64 cb.length/\env 70=.int .i64 j) cb.length ?_ ?_
        ·exact⟨_,Fg.set (v_ _ hMb) _ _,0,.full,by omega,by omega,rfl,rfl,trivial,ab,ab,ab,ab,ab,ab,ab,ab,ab⟩
        ·clear e1 e4 e57 e58 e59 env h hb hMb hob hn3 hno had hO hop
         rintro m2 env t ⟨j,ol,hj,hm2,rfl,hOl,hlw,e1,e4,e57,e58,e59,e11,e68,e69,e70⟩
         by_cases hlt2:j<cb.length
         ·obtain⟨c,hc⟩:=aN hlt2
          have hq:=k5 c (p_ hc)
          have hsy:=cX hc
          have htk:aA ((cb.take (j+1)).map gB)=aA ((cb.take j).map gB)++[[.str (gB c)]]:=by rw[bY hc];simp[aA]
          have hst:(aA ((cb.take j).map gB)).length=j:=by simp[aA];omega
          have HT:=u_ htk
          clear hc htk
          obtain⟨an,ar,at_⟩:=c
          (repeat'(first|refine Ctl ?_|((with_reducible refine j_ hK ?_);clear hK hE K E)|((with_reducible refine aj (fun h=>?_) (fun h=>?_))<;>(try(exfalso;assumption)))|((first|(with_reducible first|refine ae fun K E hK hE=>?_|refine ak B8 (sf _ _ (‹_›) _) ?_)|((with_reducible refine ao (fun b hb=>?_));(repeat(obtain⟨_,hb⟩:=hb));(try(try(rw[aR]at hb;obtain⟨hob,hb⟩:=hb))))|((with_reducible refine cq (fun o2 ho=>?_));(try simp(disch:=assumption) only[hst]at ho);(repeat(obtain⟨_,ho⟩:=ho))))<;>(try simp(disch:=first|assumption|omega) only[go_sem,seval,aG,rJ, *]))))
          exact⟨Wb ((B.own o4 5 1 bs4.length).own o2 9 1 (j+1)) bw ad4 bs4 o4,Fg.set (v_ _ (by rw[aR];exact⟨‹_›,hb⟩)) _ _,m2 - 1,by omega,j+1,o2,by omega,by omega,rfl,ho,‹_›,ab,ab,ab,ab,ab,by(rw[show aA (List.map gB (List.take (j+1) cb))=_ from HT];((try simp(disch:=assumption) only[go_sem,seval, *])<;>rfl)),ab,ab,ab⟩
         ·have hjL:j=cb.length:=by omega
          subst hjL
          rw[f_]at e11
          have hst:(aA (cb.map gB)).length=cb.length:=by simp[aA]
          have k7:(Lib.join (cb.map gB) [44,32]).length<=140737488355328:=by omega
          have k8:(cb.map gB).length<=140737488355328:=by rw[a_];omega
          clear hlt2 hj hm2
          (repeat'(first|refine Ctl ?_|((with_reducible refine j_ hK ?_);clear hK hE K E)|((with_reducible refine aj (fun h=>?_) (fun h=>?_))<;>(try(exfalso;omega)))|((first|(with_reducible first|refine ae fun K E hK hE=>?_|refine ak rE (rY _ _ _ (‹_›) (‹_›) _) ?_|refine mB ?_)|((with_reducible refine aO rF (EQ _ _ _ _ _ _ (‹_›) (by simp(disch:=assumption) only[go_sem,seval,dA, *]) (‹_›) (by(simp only[d_,List.length_cons,List.length_nil];omega))) (fun a h=>?_));(obtain⟨hO2,hn2,had2⟩:=h;simp(disch:=assumption) only[bD,aS]at hO2)))<;>(try simp(disch:=first|assumption|omega) only[go_sem,seval,WbS, *]))))
          ·have hcb:¬ cb=[]:=by intro e;rw[e]at h;simp at h
           refine⟨Wb (B.own a.1 5 1 (bs4++32::58::45::32::Lib.join (List.map gB cb) [44,32]++[46,10]).length) bw a.2 (bs4++32::58::45::32::Lib.join (List.map gB cb) [44,32]++[46,10]) a.1,Fg.set (Ff (gK hOl)) _ _,m - 1,by omega,i+1,a.1,a.2,_,by omega,by omega,?_,rfl,gK hO2,hn2,had2,.inr (by simp),ab,ab,ab,ab,ab⟩
           rw[mQ HX.out,<- List.append_assoc,<- HBS.out,<- show _=bs4 from HB4]
           simp[sH,hT,hcb]
          ·have hcb:cb=[]:=by
            cases cb with
            |nil=>rfl
            |cons a l=>exact absurd (by simp only[List.length_cons];omega) h
           refine⟨Wb (B.own a.1 5 1 (bs4++[46,10]).length) bw a.2 (bs4++[46,10]) a.1,Fg.set (Ff (gK hOl)) _ _,m - 1,by omega,i+1,a.1,a.2,_,by omega,by omega,?_,rfl,gK hO2,hn2,had2,.inr (by simp),ab,ab,ab,ab,ab⟩
           rw[mQ HX.out,<- List.append_assoc,<- HBS.out,<- show _=bs4 from HB4]
           simp[sH,hT,hcb]
       ·have hiL:i=rs.length:=by omega
        rw[hiL,f_]at hbs
        have hpt:bs3=Bc ⟨ds,cs,rs⟩:=by rw[hbs,HB2.out,HB1.out];simp[Bc]
        have hbl3:bs3.length<=9223372036854775000:=by
         have:=ip (f:=sH) (m:=4000) (l:=rs) fun y hy=>(ls (g3 y hy)).1
         have h2:rs.length*4000<=64*4000:=Nat.mul_le_mul_right _ g6
         rw[hbs,d_]
         omega
        have hsg:=fun s=>C4 bs3 hbl3 s
        have how:eB (B.own o 5 1 bs3.length) o 5 1 bs3.length:=by rw[gL hO];trivial
        have HPT:=u_ hpt
        clear hbs hpt
        cases hL:bG bs3 with
        |error q=>
         obtain⟨a,e⟩:=q
         have he:=pn hL
         have he':¬ (e:Int)=0:=by omega
         rw[hL]at hsg
         simp only[nx]at hsg
         (repeat'(first|refine Ctl ?_|((with_reducible refine j_ hK ?_);clear hK hE K E)|((with_reducible refine aj (fun h=>?_) (fun h=>?_))<;>(try(exfalso;first|assumption|omega)))|(((with_reducible first|refine ae fun K E hK hE=>?_|refine ak B7 (hsg _) ?_|refine ak B6 (MS _ _ _ _ _ how (‹_›) (‹_›)) ?_))<;>(try simp(disch:=omega) only[go_sem,seval, *]))))
         all_goals(refine ap qO hQ ?_)
         all_goals(refine⟨_,_,Wk.of_eq ?_,?_,rfl,rfl⟩)
         ·simp only[lD,hB,if_true]
          rw[<- show bs3=_ from HPT,hL]
         ·exact((v_ _ (by rw[aR];exact⟨hno,HBW.out⟩)).trans (Fg.own hO)).trans HF
        |ok L=>
         rw[hL]at hsg
         simp only[nx]at hsg
         (repeat'(first|refine Ctl ?_|((with_reducible refine j_ hK ?_);clear hK hE K E)|((with_reducible refine aj (fun h=>?_) (fun h=>?_))<;>(try(exfalso;first|assumption|omega)))|(((with_reducible first|refine ae fun K E hK hE=>?_|refine ak B7 (hsg _) ?_|refine ak B6 (MS _ _ _ _ _ how (‹_›) (‹_›)) ?_))<;>(try simp(disch:=omega) only[go_sem,seval, *]))))
         all_goals(refine ap qO hQ ?_)
         all_goals(refine⟨_,_,Wk.of_eq ?_,?_,rfl,rfl⟩)
         ·simp only[lD,hB,if_true]
          rw[<- show bs3=_ from HPT,hL]
         ·exact((v_ _ (by rw[aR];exact⟨hno,HBW.out⟩)).trans (Fg.own hO)).trans HF
end Go.Proofs.YteldpmgepfaiiaaGreatDoor
namespace Go.Proofs.YteldpmgepfaiiaaGreatDoor
open Go.RowKit
theorem zG (x:Pgm)(hx:PgmOk x)(s:St):SRet Tryz.prog 113 [.agg (pgC x)] s (.bool (cm x)) s:=by
 have p1:=fun s=>Cx x hx s
 have hv:∃(t:List UInt8) (e:Int),lD x=.tup [.str t,.int .i64 e]/\(cm x=true↔¬ e=1):=by
  unfold lD
  cases hB:cm x with
  |false=>exact⟨_,_,rfl,by simp⟩
  |true=>
   rw[if_pos rfl]
   cases bG (Bc x)with
   |ok L=>exact⟨_,_,rfl,by simp⟩
   |error q=>exact⟨_,_,rfl,by simp⟩
 obtain⟨t,e,hp,he⟩:=hv
 rw[hp]at p1
 simp only[pgC]at p1 ⊢
 cases hB:cm x
 all_goals
  rw[hB]at he
  simp only[true_iff,Bool.false_eq_true,false_iff,Classical.not_not]at he
  generalize x.doms.map dmC=x1 at p1 ⊢
  generalize x.decls.map az=x2 at p1 ⊢
  generalize x.rules.map ax=x3 at p1 ⊢
  clear hp hB
  refine aw Tryz.func113 rfl Tryz.ntmps113 rfl fun Q hQ hQe=>?_
  (repeat'(first|refine Ctl ?_|((with_reducible refine j_ hK ?_);clear hK hE K E)|((first|(with_reducible first|refine ae fun K E hK hE=>?_|refine ak Jy (p1 _) ?_)|((with_reducible refine ao (fun b hb=>?_))))<;>(try simp(disch:=omega) only[go_sem,seval, *]))))
  all_goals(refine ap AY hQ ?_)
  all_goals(refine⟨_,_,Wk.of_eq ?_,?_,rfl,rfl⟩)
  all_goals first|rfl|(exact bC)
theorem mU {α:Type}{p:α->Bool}{l:List α}{i:Nat}{x:α}(h:l[i]?=some x)(hp:p x=false):l.all p=false:=bO h hp
set_option maxHeartbeats 2000000 in
theorem zD (a:Atm)(o0:Own)(bm:Nat)(mp:List (List UInt8×Bool))(ha:a.ts.length<=140737488355328)(t:St)(hm:t bm=.map (mpV cW mp)) :
    SRet Tryz.prog 110 [.agg [.bool a.not,.str a.rel,.lst (a.ts.map aC) o0],.mp bm] t (.bool (a.ts.all fun x=>!x.var || (lkA x.nm mp).getD false)) t:=by
  obtain⟨an,ar,ts⟩:=a
  simp only at ha ⊢
  generalize hp:(fun x:Trm=>!x.var || (lkA x.nm mp).getD false)=P
  have hmf:t bm≠.free:=by rw[hm];simp
  refine aw Tryz.func110 rfl Tryz.ntmps110 rfl fun Q hQ hQe=>?_
  (repeat'(first|refine Ctl ?_|((with_reducible refine j_ hK ?_);clear hK hE K E)|((first|(with_reducible refine ae fun K E hK hE=>?_)|((with_reducible refine ao (fun b hb=>?_));(try(obtain⟨_,_⟩:=nef hb hmf))))<;>(try simp(disch:=omega) only[go_sem,seval,a_, *]))))
  have hb0:t.set b (.obj 40 [.bool an,.str ar,.lst (ts.map aC) o0]) b=.obj 40 [.bool an,.str ar,.lst (ts.map aC) o0]:=q_ _ _ _
  have hm0:t.set b (.obj 40 [.bool an,.str ar,.lst (ts.map aC) o0]) bm=.map (mpV cW mp):=by rw[k_ _ _ (‹_›)];exact hm
  have hF0:Fg (t.set b (.obj 40 [.bool an,.str ar,.lst (ts.map aC) o0])) t:=v_ _ hb
  generalize t.set b (.obj 40 [.bool an,.str ar,.lst (ts.map aC) o0])=B at *
  have HF:=u_ hF0
  have hbf:B b≠.free:=by rw[hb0];simp
  have hmf2:B bm≠.free:=by rw[hm0];simp
  clear hF0 hb hm hmf
  refine aI (fun m env s'=>∃i:Nat,i<=ts.length/\m+i=ts.length/\s'=B/\(ts.take i).all P=true/\env 1=.mp bm/\env 2=.ptr b 0/\env 8=.lst (ts.map aC) o0/\env 9=.int .i64 ts.length/\env 10=.int .i64 i) ts.length ?_ ?_
  · exact⟨B,Fg.refl _,0,by omega,by omega,rfl,rfl,ab,ab,ab,ab,ab⟩
  · rintro m env s' ⟨i,hi,hm,rfl,hall,e1,e2,e8,e9,e10⟩
    have HH:=u_ hall
    clear hall
    by_cases hlt:i<ts.length
    · obtain⟨c,hc⟩:=aN hlt
      have hsx:=dl hc
      have HX:=u_ hc
      obtain⟨cv,cn,cz⟩:=c
      have hpc:P ⟨cv,cn,cz⟩=(!cv || (lkA cn mp).getD false):=by rw[<- hp]
      have HP:=u_ hpc
      clear hc hpc hp
      cases cv
      all_goals cases hk:(lkA cn mp).getD false
      all_goals(repeat'(first|refine Ctl ?_|((with_reducible refine j_ hK ?_);clear hK hE K E)|((with_reducible refine aj (fun h=>?_) (fun h=>?_))<;>(try(exfalso;assumption)))|((first|(with_reducible refine ae fun K E hK hE=>?_)|((with_reducible refine ao (fun b hb=>?_));(try(obtain⟨_,_⟩:=nef hb hbf;obtain⟨_,_⟩:=nef hb hmf2))))<;>(try simp(disch:=omega) only[go_sem,seval,aC, *]))))
      all_goals first
        | ((first | refine ap qP hQ ?_ | refine en qP hQ ?_ | refine jm hQ ?_)
           (refine⟨_,_,Wk.of_eq ?_,?_,rfl,rfl⟩)
           · rw[mU HX.out (by rw[HP.out,hk];rfl)]
           · exact(v_ _ hb).trans HF.out)
        |exact⟨s',v_ _ hb,m - 1,by omega,i+1,by omega,by omega,rfl,bE HH.out HX.out (by rw[HP.out,hk];rfl),ab,ab,ab,ab,ab⟩
    · (repeat'(first|refine Ctl ?_|((with_reducible refine j_ hK ?_);clear hK hE K E)|((with_reducible refine aj (fun h=>?_) (fun h=>?_))<;>(try(exfalso;assumption)))|(((with_reducible refine ae fun K E hK hE=>?_))<;>(try simp(disch:=omega) only[go_sem,seval, *]))))
      all_goals(refine ap qP hQ ?_)
      all_goals(refine⟨_,_,Wk.of_eq ?_,?_,rfl,rfl⟩)
      · have:=HH.out;rw[show i=ts.length by omega,f_]at this;rw[this]
      · exact HF.out
theorem Fg.keep {u s:St}(h:Fg u s){b:Nat}(hb:s b≠.free):u b=s b:=((h b).resolve_left hb).symm
def PrAt (t:St)(p b1 b2:Nat)(x:Pgm):Prop:=t p=.obj 183 [.lst (x.doms.map dmC) .no,.lst (x.decls.map az) .no,.lst (x.rules.map ax) .no,.mp b1,.mp b2]/\t b1=.map (mpV bL (szA x.doms))/\t b2=.map (mpV bL (rlA x.decls))
theorem PrAt.fg {u t:St}{p b1 b2:Nat}{x:Pgm}(h:PrAt t p b1 b2 x)(hf:Fg u t):PrAt u p b1 b2 x:=by
 obtain⟨h1,h2,h3⟩:=h
 exact⟨(hf.keep (by rw[h1];simp)).trans h1,(hf.keep (by rw[h2];simp)).trans h2,(hf.keep (by rw[h3];simp)).trans h3⟩
def qU (ds:List Dm):List (List UInt8×Int):=fS (fun d:Dm=>d.name) (fun _ d=>d.size) 0 ds []
def qT (cs:List Dcl):List (List UInt8×Int):=fS (fun d:Dcl=>d.name) (fun i _=>(i:Int)) 0 cs []
theorem wW {ds:List Dm}{i:Nat}{d:Dm}(h:ds[i]?=some d):qU (ds.take (i+1))=ptA d.name d.size (qU (ds.take i)):=by
 unfold qU;rw[bY h,ju]
theorem wU {cs:List Dcl}{i:Nat}{d:Dcl}(h:cs[i]?=some d):qT (cs.take (i+1))=ptA d.name (i:Int) (qT (cs.take i)):=by
 unfold qT;rw[bY h,ju,A_,Nat.min_eq_left (Nat.le_of_lt (n_.1 h).1),Nat.zero_add]
theorem Ba {ds:List Dm}:(qU ds).length=ds.length↔(ds.map (·.name)).Nodup:=pU ds
theorem A9 {cs:List Dcl}:(qT cs).length=cs.length↔(cs.map (·.name)).Nodup:=pU cs
theorem wV {ds:List Dm}(h:(ds.map (·.name)).Nodup):qU ds=szA ds:=by unfold qU szA;rw[fj 0 ds [] (by simpa using h),List.nil_append]
theorem wT {cs:List Dcl}(h:(cs.map (·.name)).Nodup):qT cs=rlA cs:=by unfold qT rlA;rw[fj 0 cs [] (by simpa using h),List.nil_append]
def jW (d:Dm):Bool:=!(decide (d.size<1) || decide (1073741824<d.size))
theorem sk {ds:List Dm}:ds.any (fun d=>decide (d.size<1) || decide (1073741824<d.size))=!(ds.all jW):=by
 rw[List.not_all_eq_any_not];congr 1;funext d;simp[jW]
def kwn (ds:List Dm)(c:Dcl):Bool:=c.doms.all fun s=>!decide (da ds s=0)
theorem xq {ds:List Dm}{cs:List Dcl}:cs.any (fun d=>d.doms.any fun s=>decide (da ds s=0))=!(cs.all (kwn ds)):=by
 rw[List.not_all_eq_any_not];congr 1;funext d;simp only[kwn];rw[List.not_all_eq_any_not];congr 1;funext s;simp
set_option maxHeartbeats 8000000 in
theorem xV (x:Pgm)(hx:PgmOk x)(s:St):SCalls Tryz.prog 85 [.agg (pgC x)] s fun w u=>
    (cp x≠0->w=.ret (.tup [.raw (.pointer none),.int .i64 (cp x)])/\u=s)/\(cp x=0->∃p b1 b2,w=.ret (.tup [.ptr p 0,.int .i64 0])/\PrAt u p b1 b2 x/\Fg u s):=by
  have w1:=fun s=>zG x hx s
  obtain⟨ds,cs,rs⟩:=x
  obtain⟨hd,hc,hr,hdd,hdc,_⟩:=hx
  simp only at hd hc hr hdd hdc
  cases hB:cm ⟨ds,cs,rs⟩with
  |false=>
    have he:cp ⟨ds,cs,rs⟩=1:=by unfold cp;rw[if_pos hB]
    rw[hB]at w1
    simp only[pgC]at w1 ⊢
    rw[he]
    clear he hB
    refine aw Tryz.func85 rfl Tryz.ntmps85 rfl fun Q hQ hQe=>?_
    (repeat'(first|refine Ctl ?_|((with_reducible refine j_ hK ?_);clear hK hE K E)|((with_reducible refine aj (fun h=>?_) (fun h=>?_))<;>(try(exfalso;assumption)))|((first|(with_reducible first|refine ae fun K E hK hE=>?_|refine ak Cf (w1 _) ?_)|((with_reducible refine ao (fun b hb=>?_))))<;>(try simp(disch:=omega) only[go_sem,seval, *]))))
    all_goals(refine ap nJ hQ ?_)
    refine⟨_,_,Wk.refl _,(bC:Fg _ s),fun _=>⟨rfl,rfl⟩,fun h=>absurd h (by decide)⟩
  |true=>
    rw[hB]at w1
    have hE:∀e:Int,e=cp ⟨ds,cs,rs⟩->cp ⟨ds,cs,rs⟩=e:=fun _ h=>h.symm
    have hread:cp ⟨ds,cs,rs⟩=if ds.all jW=false then 1 else if ¬ (ds.map (·.name)).Nodup\/¬ (cs.map (·.name)).Nodup then 120 else if cs.all (kwn ds)=false then 121 else 0:=by
      unfold cp
      simp only[hB,sk,xq,Bool.not_eq_true',Bool.true_eq_false,if_false]
    generalize cp ⟨ds,cs,rs⟩=RE at hread
    clear hE
    have HRD:=u_ hread
    clear hread hB
    simp only[pgC]at w1 ⊢
    refine aw Tryz.func85 rfl Tryz.ntmps85 rfl fun Q hQ hQe=>?_
    (repeat'(first|refine Ctl ?_|((with_reducible refine j_ hK ?_);clear hK hE K E)|((with_reducible refine aj (fun h=>?_) (fun h=>?_))<;>(try(exfalso;assumption)))|((first|(with_reducible first|refine ae fun K E hK hE=>?_|refine ak Cf (w1 _) ?_)|((with_reducible refine ao (fun b hb=>?_));(repeat(obtain⟨_,hb⟩:=hb))))<;>(try simp(disch:=omega) only[go_sem,seval, *]))))
    rename_i bx hbx b1 n1 n2 hb1 b2 n3 n4 n5 n6 hb2 n7 n8 n9 n10 n11 n12
    obtain⟨pp,hpp⟩:∃x,x=b:=⟨_,rfl⟩
    subst hpp
    clear w1 h
    have hx0:((((s.set bx (.obj 26 [.lst (ds.map dmC) .no,.lst (cs.map az) .no,.lst (rs.map ax) .no])).set b1 (.map [])).set b2 (.map [])).set pp (.obj 183 [.lst (ds.map dmC) .no,.lst (cs.map az) .no,.lst (rs.map ax) .no,.mp b1,.mp b2])) bx=.obj 26 [.lst (ds.map dmC) .no,.lst (cs.map az) .no,.lst (rs.map ax) .no]:=by simp(disch:=assumption) only[k_,q_,ne_eq]
    have hp0:((((s.set bx (.obj 26 [.lst (ds.map dmC) .no,.lst (cs.map az) .no,.lst (rs.map ax) .no])).set b1 (.map [])).set b2 (.map [])).set pp (.obj 183 [.lst (ds.map dmC) .no,.lst (cs.map az) .no,.lst (rs.map ax) .no,.mp b1,.mp b2])) pp=.obj 183 [.lst (ds.map dmC) .no,.lst (cs.map az) .no,.lst (rs.map ax) .no,.mp b1,.mp b2]:=q_ _ _ _
    have h10:((((s.set bx (.obj 26 [.lst (ds.map dmC) .no,.lst (cs.map az) .no,.lst (rs.map ax) .no])).set b1 (.map [])).set b2 (.map [])).set pp (.obj 183 [.lst (ds.map dmC) .no,.lst (cs.map az) .no,.lst (rs.map ax) .no,.mp b1,.mp b2])) b1=.map (mpV bL []):=by simp(disch:=assumption) only[k_,q_,ne_eq];rfl
    have h20:((((s.set bx (.obj 26 [.lst (ds.map dmC) .no,.lst (cs.map az) .no,.lst (rs.map ax) .no])).set b1 (.map [])).set b2 (.map [])).set pp (.obj 183 [.lst (ds.map dmC) .no,.lst (cs.map az) .no,.lst (rs.map ax) .no,.mp b1,.mp b2])) b2=.map (mpV bL []):=by simp(disch:=assumption) only[k_,q_,ne_eq];rfl
    have hF0:Fg ((((s.set bx (.obj 26 [.lst (ds.map dmC) .no,.lst (cs.map az) .no,.lst (rs.map ax) .no])).set b1 (.map [])).set b2 (.map [])).set pp (.obj 183 [.lst (ds.map dmC) .no,.lst (cs.map az) .no,.lst (rs.map ax) .no,.mp b1,.mp b2])) s:=bC
    generalize ((((s.set bx (.obj 26 [.lst (ds.map dmC) .no,.lst (cs.map az) .no,.lst (rs.map ax) .no])).set b1 (.map [])).set b2 (.map [])).set pp (.obj 183 [.lst (ds.map dmC) .no,.lst (cs.map az) .no,.lst (rs.map ax) .no,.mp b1,.mp b2]))=B at *
    have HF:=u_ hF0
    have HS1:=u_ hb1
    have HS2:=u_ hb2
    have hxf:B bx≠.free:=by rw[hx0];simp
    have hpf:B pp≠.free:=by rw[hp0];simp
    have h1f:B b1≠.free:=by rw[h10];simp
    have h2f:B b2≠.free:=by rw[h20];simp
    have hFg1:∀c,Fg (B.set b1 c) s:=fun c=>w_ HF.out HS1.out
    have HFG1:=u_ hFg1
    clear hF0 hbx hb1 hb2 hb hFg1
    refine aI (fun m env t=>∃(i:Nat) (M:List (List UInt8×Int)),i<=ds.length/\m+i=ds.length/\M=qU (ds.take i)/\(ds.take i).all jW=true/\t=B.set b1 (.map (mpV bL M))/\env 1=.ptr bx 0/\env 4=.ptr pp 0/\env 22=.lst (ds.map dmC) .no/\env 23=.int .i64 ds.length/\env 24=.int .i64 i) ds.length ?_ ?_
    · exact⟨B.set b1 (.map (mpV bL [])),by rw[x_ _ _ _ h10];exact Fg.refl _,0,[],by omega,by omega,rfl,rfl,rfl,ab,ab,ab,ab,ab⟩
    · rintro m env t ⟨i,M,hi,hm,hM,hall,rfl,e1,e4,e22,e23,e24⟩
      have HH:=u_ hall
      have HM:=u_ hM
      clear hall hM
      by_cases hlt:i<ds.length
      · obtain⟨c,hcc⟩:=aN hlt
        have hsx:=ge hcc
        have HX:=u_ hcc
        have hA:=wW hcc
        rw[<- HM.out]at hA
        have HA:=u_ hA
        clear hcc hA
        obtain⟨cn,cz⟩:=c
        by_cases hz1:cz<1\/1073741824<cz
        · have hbad:jW ⟨cn,cz⟩=false:=by simp[jW];omega
          have hR1:RE=1:=by rw[HRD.out,if_pos (mU HX.out hbad)]
          have HR1:=u_ hR1
          by_cases hz2:cz<1
          all_goals first
            | (have hz3 : 1073741824 < cz := by omega
               skip)
            |skip
          all_goals clear hz1 hbad hR1
          all_goals(repeat'(first|refine Ctl ?_|((with_reducible refine j_ hK ?_);clear hK hE K E)|((with_reducible refine aj (fun h=>?_) (fun h=>?_))<;>(try(exfalso;assumption)))|((first|(with_reducible refine ae fun K E hK hE=>?_)|((with_reducible refine ao (fun b hb=>?_));(repeat(obtain⟨_,hb⟩:=hb));(try(obtain⟨_,_⟩:=nef hb hxf;obtain⟨_,_⟩:=nef hb hpf;obtain⟨_,_⟩:=nef hb h1f;obtain⟨_,_⟩:=nef hb h2f))))<;>(try simp(disch:=omega) only[go_sem,seval,a_,hsx,dmC, *]))))
          all_goals(refine ap nJ hQ ?_)
          all_goals exact⟨_,s,Wk.refl _,Fg.trans (v_ _ (by rw[k_ _ _ (‹_›)];assumption)) (HFG1.out _),fun _=>⟨by rw[HR1.out],rfl⟩,fun h=>absurd h (by rw[HR1.out];decide)⟩
        · have hz2:¬ cz<1:=by omega
          have hz3:¬ 1073741824<cz:=by omega
          have hgood:jW ⟨cn,cz⟩=true:=by simp[jW];omega
          have HG:=u_ hgood
          clear hz1 hgood
          (repeat'(first|refine Ctl ?_|(with_reducible first|(refine j_ hK ?_;clear hK hE K E)|(refine j_ hKh ?_;clear hKh Kh)|(refine j_ hKb (aL ?_);clear hKb Kb)|refine aq 9 [([0,1,2,3,4,5,6,7],8,[[]])] [] hQe fun K E hK hE=>?_)|((with_reducible refine aj (fun h=>?_) (fun h=>?_))<;>(try(exfalso;assumption)))|((first|(with_reducible first|refine ae fun K E hK hE=>?_|refine aE fun Kh hKh=>?_|refine aD fun Kh hKh=>?_|refine aM fun Kb hKb=>?_)|((with_reducible refine ao (fun b hb=>?_));(repeat(obtain⟨_,hb⟩:=hb));(try(obtain⟨_,_⟩:=nef hb hxf;obtain⟨_,_⟩:=nef hb hpf;obtain⟨_,_⟩:=nef hb h1f;obtain⟨_,_⟩:=nef hb h2f))))<;>(try simp(disch:=first|assumption|omega) only[go_sem,seval,a_,hsx,dmC, *]))))
          exact⟨B.set b1 (.map (mpV bL (ptA cn cz M))),v_ _ (by rw[k_ _ _ (‹_›)];exact hb),m - 1,by omega,i+1,_,by omega,by omega,HA.out.symm,bE HH.out HX.out HG.out,rfl,ab,ab,ab,ab,ab⟩
      · have hiL:i=ds.length:=by omega
        have hMd:M=qU ds:=by rw[HM.out,hiL,f_]
        have hallD:ds.all jW=true:=by have:=HH.out;rwa [hiL,f_]at this
        have HMD:=u_ hMd
        have HAD:=u_ hallD
        have hx1:(B.set b1 (.map (mpV bL M))) bx=.obj 26 [.lst (ds.map dmC) .no,.lst (cs.map az) .no,.lst (rs.map ax) .no]:=by rw[k_ _ _ (‹_›)];exact hx0
        have hp1:(B.set b1 (.map (mpV bL M))) pp=.obj 183 [.lst (ds.map dmC) .no,.lst (cs.map az) .no,.lst (rs.map ax) .no,.mp b1,.mp b2]:=by rw[k_ _ _ (‹_›)];exact hp0
        have h11:(B.set b1 (.map (mpV bL M))) b1=.map (mpV bL M):=q_ _ _ _
        have h21:(B.set b1 (.map (mpV bL M))) b2=.map (mpV bL []):=by rw[k_ _ _ (‹_›)];exact h20
        have hF1:Fg (B.set b1 (.map (mpV bL M))) s:=HFG1.out _
        clear hMd hallD HM HH hiL HF HFG1
        generalize B.set b1 (.map (mpV bL M))=B1 at *
        clear hx0 hp0 h10 h20 hxf hpf h1f h2f
        have hxf:B1 bx≠.free:=by rw[hx1];simp
        have hpf:B1 pp≠.free:=by rw[hp1];simp
        have h1f:B1 b1≠.free:=by rw[h11];simp
        have h2f:B1 b2≠.free:=by rw[h21];simp
        have hFg2:∀c,Fg (B1.set b2 c) s:=fun c=>w_ hF1 HS2.out
        have HFG2:=u_ hFg2
        clear hFg2 hF1
        (repeat'(first|refine Ctl ?_|((with_reducible refine j_ hK ?_);clear hK hE K E)|((with_reducible refine aj (fun h=>?_) (fun h=>?_))<;>(try(exfalso;assumption)))|(((with_reducible refine ae fun K E hK hE=>?_))<;>(try simp(disch:=omega) only[go_sem,seval,a_, *]))))
        clear e22 e23 e24 hi hm hlt h
        refine aI (fun m env t=>∃(i:Nat) (N:List (List UInt8×Int)),i<=cs.length/\m+i=cs.length/\N=qT (cs.take i)/\t=B1.set b2 (.map (mpV bL N))/\env 1=.ptr bx 0/\env 4=.ptr pp 0/\env 46=.lst (cs.map az) .no/\env 47=.int .i64 cs.length/\env 48=.int .i64 i) cs.length ?_ ?_
        · exact⟨B1.set b2 (.map (mpV bL [])),by rw[x_ _ _ _ h21];exact Fg.refl _,0,[],by omega,by omega,rfl,rfl,ab,ab,ab,ab,ab⟩
        · clear e1 e4 env i m
          rintro m env t ⟨i,N,hi,hm,hN,rfl,e1,e4,e46,e47,e48⟩
          have HN:=u_ hN
          clear hN
          by_cases hlt:i<cs.length
          · obtain⟨c,hcc⟩:=aN hlt
            have hsx:=dp hcc
            have hA:=wU hcc
            rw[<- HN.out]at hA
            have HA:=u_ hA
            clear hcc hA
            obtain⟨cn,cd⟩:=c
            (repeat'(first|refine Ctl ?_|(with_reducible first|(refine j_ hK ?_;clear hK hE K E)|(refine j_ hKh ?_;clear hKh Kh)|(refine j_ hKb (aL ?_);clear hKb Kb)|refine aq 14 [([0,1,2,3,4,5,6],7,[[]])] [] hQe fun K E hK hE=>?_)|((with_reducible refine aj (fun h=>?_) (fun h=>?_))<;>(try(exfalso;assumption)))|((first|(with_reducible first|refine ae fun K E hK hE=>?_|refine aE fun Kh hKh=>?_|refine aD fun Kh hKh=>?_|refine aM fun Kb hKb=>?_)|((with_reducible refine ao (fun b hb=>?_));(repeat(obtain⟨_,hb⟩:=hb));(try(obtain⟨_,_⟩:=nef hb hxf;obtain⟨_,_⟩:=nef hb hpf;obtain⟨_,_⟩:=nef hb h1f;obtain⟨_,_⟩:=nef hb h2f))))<;>(try simp(disch:=first|assumption|omega) only[go_sem,seval,a_,hsx,az, *]))))
            exact⟨B1.set b2 (.map (mpV bL (ptA cn (i:Int) N))),v_ _ (by rw[k_ _ _ (‹_›)];exact hb),m - 1,by omega,i+1,_,by omega,by omega,HA.out.symm,rfl,ab,ab,ab,ab,ab⟩
          · have hiL:i=cs.length:=by omega
            have hNd:N=qT cs:=by rw[HN.out,hiL,f_]
            have HND:=u_ hNd
            have hx2:(B1.set b2 (.map (mpV bL N))) bx=.obj 26 [.lst (ds.map dmC) .no,.lst (cs.map az) .no,.lst (rs.map ax) .no]:=by rw[k_ _ _ (‹_›)];exact hx1
            have hp2:(B1.set b2 (.map (mpV bL N))) pp=.obj 183 [.lst (ds.map dmC) .no,.lst (cs.map az) .no,.lst (rs.map ax) .no,.mp b1,.mp b2]:=by rw[k_ _ _ (‹_›)];exact hp1
            have h12:(B1.set b2 (.map (mpV bL N))) b1=.map (mpV bL M):=by rw[k_ _ _ (‹_›)];exact h11
            have h22:(B1.set b2 (.map (mpV bL N))) b2=.map (mpV bL N):=q_ _ _ _
            have hF2:Fg (B1.set b2 (.map (mpV bL N))) s:=HFG2.out _
            have hlD:¬ (ds.map (·.name)).Nodup↔¬ M.length=ds.length:=by rw[HMD.out,Ba]
            have hlR:¬ (cs.map (·.name)).Nodup↔¬ N.length=cs.length:=by rw[HND.out,A9]
            have HLD:=u_ hlD
            have HLR:=u_ hlR
            clear hNd HN hiL HFG2 hlD hlR
            generalize B1.set b2 (.map (mpV bL N))=B2 at *
            clear hx1 hp1 h11 h21 hxf hpf h1f h2f
            have hxf:B2 bx≠.free:=by rw[hx2];simp
            have hpf:B2 pp≠.free:=by rw[hp2];simp
            have h1f:B2 b1≠.free:=by rw[h12];simp
            have h2f:B2 b2≠.free:=by rw[h22];simp
            have HF2:=u_ hF2
            clear hF2
            by_cases hl1:M.length=ds.length
            · have hl1i:((M.length:Int)=(ds.length:Int))=True:=eq_true (by omega)
              by_cases hl2:N.length=cs.length
              · have hl2i:((N.length:Int)=(cs.length:Int))=True:=eq_true (by omega)
                have hnd:(ds.map (·.name)).Nodup:=Classical.byContradiction fun h=>(HLD.out.1 h) hl1
                have hnr:(cs.map (·.name)).Nodup:=Classical.byContradiction fun h=>(HLR.out.1 h) hl2
                have hMs:M=szA ds:=by rw[HMD.out,wV hnd]
                have hNs:N=rlA cs:=by rw[HND.out,wT hnr]
                subst hMs
                subst hNs
                have hR2:RE=if cs.all (kwn ds)=false then 121 else 0:=by
                  rw[HRD.out,if_neg (by rw[HAD.out];simp),if_neg (by rintro(h|h);exact h hnd;exact h hnr)]
                have HR2:=u_ hR2
                clear hnd hnr hR2 hl1 hl2
                (repeat'(first|refine Ctl ?_|(with_reducible first|(refine j_ hK ?_;clear hK hE K E)|(refine j_ hKh ?_;clear hKh Kh)|refine aq 16 [] [0,1,2,3,4,5,6,7,8,9,10,11,12,13,14,15,16,17,18,19] hQe fun K E hK hE=>?_)|((with_reducible refine aj (fun h=>?_) (fun h=>?_))<;>(try(exfalso;assumption)))|(((with_reducible first|refine ae fun K E hK hE=>?_|refine aD fun Kh hKh=>?_))<;>(try simp(disch:=omega) only[go_sem,seval,a_, *]))))
                refine aI (fun m env t=>∃(i:Nat),i<=cs.length/\m+i=cs.length/\(cs.take i).all (kwn ds)=true/\t=B2/\env 1=.ptr bx 0/\env 4=.ptr pp 0/\env 82=.lst (cs.map az) .no/\env 83=.int .i64 cs.length/\env 84=.int .i64 i) cs.length ?_ ?_
                · exact⟨B2,Fg.refl _,0,by omega,by omega,rfl,rfl,ab,ab,ab,ab,ab⟩
                · clear e1 e4 e46 e47 e48 hlt hm hi env i m h
                  rintro m env t ⟨i,hi,hm,hall,rfl,e1,e4,e82,e83,e84⟩
                  have HH:=u_ hall
                  clear hall
                  by_cases hlt:i<cs.length
                  · obtain⟨c,hcc⟩:=aN hlt
                    have hsx:=dp hcc
                    have HX:=u_ hcc
                    have hcl:=(hdc c (p_ hcc)).2.1
                    clear hcc
                    obtain⟨cn,cd⟩:=c
                    simp only at hcl
                    have hsl:(aA cd).length=cd.length:=by simp[aA]
                    (repeat'(first|refine Ctl ?_|((with_reducible refine j_ hK ?_);clear hK hE K E)|((with_reducible refine aj (fun h=>?_) (fun h=>?_))<;>(try(exfalso;assumption)))|((first|(with_reducible refine ae fun K E hK hE=>?_)|((with_reducible refine ao (fun b hb=>?_));(try(obtain⟨_,_⟩:=nef hb hxf;obtain⟨_,_⟩:=nef hb hpf;obtain⟨_,_⟩:=nef hb h1f;obtain⟨_,_⟩:=nef hb h2f))))<;>(try simp(disch:=omega) only[go_sem,seval,a_,hsx,az,hsl, *]))))
                    refine aI (fun m2 env t'=>∃(j:Nat),j<=cd.length/\m2+j=cd.length/\(cd.take j).all (fun s=>!decide (da ds s=0))=true/\t'=t/\env 1=.ptr bx 0/\env 4=.ptr pp 0/\env 82=.lst (cs.map az) .no/\env 83=.int .i64 cs.length/\env 84=.int .i64 i/\env 89=.lst (aA cd) .no/\env 90=.int .i64 cd.length/\env 91=.int .i64 j) cd.length ?_ ?_
                    · exact⟨t,v_ _ hb,0,by omega,by omega,rfl,rfl,ab,ab,ab,ab,ab,ab,ab,ab⟩
                    · clear e1 e4 e82 e83 e84 env hb h
                      rintro m2 env t' ⟨j,hj,hm2,hall2,rfl,e1,e4,e82,e83,e84,e89,e90,e91⟩
                      have HH2:=u_ hall2
                      clear hall2
                      by_cases hlt2:j<cd.length
                      · obtain⟨u,hu⟩:=aN hlt2
                        have hsu:=dm hu
                        have HU:=u_ hu
                        have hlk:=qG (ds:=ds) u
                        clear hu
                        cases hz:decide (da ds u=0)
                        · have hz2:¬ da ds u=0:=by simpa using hz
                          have HZ:=u_ hz
                          clear hz
                          (repeat'(first|refine Ctl ?_|((with_reducible refine j_ hK ?_);clear hK hE K E)|((with_reducible refine aj (fun h=>?_) (fun h=>?_))<;>(try(exfalso;assumption)))|(((with_reducible refine ae fun K E hK hE=>?_))<;>(try simp(disch:=omega) only[go_sem,seval,a_,hsu,hsl,hlk, *]))))
                          exact⟨t',Fg.refl _,m2 - 1,by omega,j+1,by omega,by omega,bE HH2.out HU.out (by rw[HZ.out];rfl),rfl,ab,ab,ab,ab,ab,ab,ab,ab⟩
                        · have hz2:(da ds u=0)=True:=eq_true (by simpa using hz)
                          have HZ:=u_ hz
                          clear hz
                          (repeat'(first|refine Ctl ?_|((with_reducible refine j_ hK ?_);clear hK hE K E)|((with_reducible refine aj (fun h=>?_) (fun h=>?_))<;>(try(exfalso;assumption)))|(((with_reducible refine ae fun K E hK hE=>?_))<;>(try simp(disch:=omega) only[go_sem,seval,a_,hsu,hsl,hlk, *]))))
                          have hR3:RE=121:=by
                            rw[HR2.out,if_pos]
                            exact mU HX.out (by unfold kwn;exact mU HU.out (by rw[HZ.out];rfl))
                          (refine ap nJ hQ ?_)
                          exact⟨_,s,Wk.refl _,HF2.out,fun _=>⟨by rw[hR3],rfl⟩,fun h=>absurd h (by rw[hR3];decide)⟩
                      · have hjL:j=cd.length:=by omega
                        have hk:kwn ds ⟨cn,cd⟩=true:=by unfold kwn;have:=HH2.out;rwa [hjL,f_]at this
                        have HK:=u_ hk
                        clear hk
                        (repeat'(first|refine Ctl ?_|((with_reducible refine j_ hK ?_);clear hK hE K E)|((with_reducible refine aj (fun h=>?_) (fun h=>?_))<;>(try(exfalso;omega)))|(((with_reducible refine ae fun K E hK hE=>?_))<;>(try simp(disch:=omega) only[go_sem,seval,a_,hsl, *]))))
                        exact⟨t',Fg.refl _,m - 1,by omega,i+1,by omega,by omega,bE HH.out HX.out HK.out,rfl,ab,ab,ab,ab,ab⟩
                  · have hiL:i=cs.length:=by omega
                    have hk:cs.all (kwn ds)=true:=by have:=HH.out;rwa [hiL,f_]at this
                    have hR3:RE=0:=by rw[HR2.out,if_neg (by rw[hk];simp)]
                    have HR3:=u_ hR3
                    clear hk hR3
                    (repeat'(first|refine Ctl ?_|((with_reducible refine j_ hK ?_);clear hK hE K E)|((with_reducible refine aj (fun h=>?_) (fun h=>?_))<;>(try(exfalso;omega)))|(((with_reducible refine ae fun K E hK hE=>?_))<;>(try simp(disch:=omega) only[go_sem,seval,a_, *]))))
                    all_goals(refine ap nJ hQ ?_)
                    exact⟨_,t,Wk.refl _,Fg.refl _,fun h=>absurd HR3.out h,fun _=>⟨pp,b1,b2,rfl,⟨hp2,h12,h22⟩,HF2.out⟩⟩
              · have hl2i:¬ ((N.length:Int)=(cs.length:Int)):=by omega
                have hR2:RE=120:=by
                  rw[HRD.out,if_neg (by rw[HAD.out];simp),if_pos (.inr (HLR.out.2 hl2))]
                have HR2:=u_ hR2
                clear hR2 hl1 hl2
                (repeat'(first|refine Ctl ?_|(with_reducible first|(refine j_ hK ?_;clear hK hE K E)|(refine j_ hKh ?_;clear hKh Kh)|refine aq 16 [] [0,1,2,3,4,5,6,7,8,9,10,11,12,13,14,15,16,17,18,19] hQe fun K E hK hE=>?_)|((with_reducible refine aj (fun h=>?_) (fun h=>?_))<;>(try(exfalso;assumption)))|(((with_reducible first|refine ae fun K E hK hE=>?_|refine aD fun Kh hKh=>?_))<;>(try simp(disch:=omega) only[go_sem,seval,a_, *]))))
                all_goals(refine ap nJ hQ ?_)
                exact⟨_,s,Wk.refl _,HF2.out,fun _=>⟨by rw[HR2.out],rfl⟩,fun h=>absurd h (by rw[HR2.out];decide)⟩
            · have hl1i:¬ ((M.length:Int)=(ds.length:Int)):=by omega
              have hR2:RE=120:=by
                rw[HRD.out,if_neg (by rw[HAD.out];simp),if_pos (.inl (HLD.out.2 hl1))]
              have HR2:=u_ hR2
              clear hR2 hl1
              (repeat'(first|refine Ctl ?_|(with_reducible first|(refine j_ hK ?_;clear hK hE K E)|(refine j_ hKh ?_;clear hKh Kh)|refine aq 16 [] [0,1,2,3,4,5,6,7,8,9,10,11,12,13,14,15,16,17,18,19] hQe fun K E hK hE=>?_)|((with_reducible refine aj (fun h=>?_) (fun h=>?_))<;>(try(exfalso;assumption)))|(((with_reducible first|refine ae fun K E hK hE=>?_|refine aD fun Kh hKh=>?_))<;>(try simp(disch:=omega) only[go_sem,seval,a_, *]))))
              all_goals(refine ap nJ hQ ?_)
              exact⟨_,s,Wk.refl _,HF2.out,fun _=>⟨by rw[HR2.out],rfl⟩,fun h=>absurd h (by rw[HR2.out];decide)⟩
structure Tab where
 b:Nat
 m:Nat
 g:Nat
 l:List (List Int)
def Tab.F (y:Tab)(z:Nat):Prop:=gi y.b y.m y.g y.l z
def Tab.At (y:Tab)(t:St):Prop:=TabAt t y.b y.m y.g y.l
structure TbsAt (t:St) (X:List Tab):Prop where
 at_:∀y,y∈X->y.At t
 dis:X.Pairwise fun x y=>∀z,x.F z->¬ y.F z
def TbF (X:List Tab)(z:Nat):Prop:=∃y,y∈X/\y.F z
theorem TbsAt.live {t:St}{X:List Tab}(h:TbsAt t X){z:Nat}(hz:TbF X z):t z≠.free:=by
 obtain⟨y,hy,hF⟩:=hz
 exact TabAt.live (h.at_ y hy) hF
theorem TbsAt.keep {t u:St}{X:List Tab}(h:TbsAt t X)(hk:∀z,TbF X z->u z=t z):TbsAt u X:=
 ⟨fun y hy=>TabAt.keep (h.at_ y hy) fun z hz=>hk z ⟨y,hy,hz⟩,h.dis⟩
theorem TbsAt.apart {t:St}{X:List Tab}(h:TbsAt t X){j k:Nat}{x y:Tab}(hj:X[j]?=some x)(hk:X[k]?=some y)(hne:j≠k){z:Nat}(hz:x.F z):¬ y.F z:=by
 obtain⟨hj1,rfl⟩:=n_.1 hj
 obtain⟨hk1,rfl⟩:=n_.1 hk
 have hd:=List.pairwise_iff_getElem.1 h.dis
 rcases Nat.lt_or_ge j k with e|e
 ·exact hd j k hj1 hk1 e z hz
 ·intro hy
  exact hd k j hk1 hj1 (by omega) z hy hz
theorem TbsAt.upd {t u:St}{X:List Tab}(h:TbsAt t X){k:Nat}{x:Tab}(hx:X[k]?=some x){g':Nat}{l':List (List Int)}(ht:TabAt u x.b x.m g' l')(hk:Keep t u x.F)
  (hF:∀z,gi x.b x.m g' l' z->x.F z\/t z=.free):TbsAt u (X.set k ⟨x.b,x.m,g',l'⟩):=by
 have hother:∀(j:Nat) (y:Tab),X[j]?=some y->j≠k->y.At u/\∀z,y.F z->¬ gi x.b x.m g' l' z:=fun j y hj hne=>by
  have hy:=h.at_ y (p_ hj)
  refine⟨TabAt.keep hy fun z hz=>hk z (TabAt.live hy hz) fun hxz=>h.apart hj hx hne hz hxz,fun z hz hz2=>?_⟩
  rcases hF z hz2 with e|e
  ·exact h.apart hj hx hne hz e
  ·exact TabAt.live hy hz e
 constructor
 ·intro y hy
  obtain⟨j,hj⟩:=h_.1 hy
  by_cases e:j=k
  ·subst e
   have hlt:j<X.length:=(n_.1 hx).1
   rw[i_ hlt]at hj
   injection hj with hj
   subst hj
   exact ht
  ·rw[s_ (Ne.symm e)]at hj
   exact(hother j y hj e).1
 ·rw[List.pairwise_iff_getElem]
  intro i j hi hj hij z hz
  rw[List.length_set]at hi hj
  have hgi:=b_ hi
  have hgj:=b_ hj
  by_cases e1:k=i
  ·subst e1
   have e2:¬ k=j:=by omega
   rw[List.getElem_set_self]at hz
   rw[List.getElem_set_ne e2]
   exact fun hz2=>(hother j _ hgj (by omega)).2 z hz2 hz
  ·rw[List.getElem_set_ne e1]at hz
   by_cases e2:k=j
   ·subst e2
    rw[List.getElem_set_self]
    exact fun hz2=>(hother i _ hgi (by omega)).2 z hz hz2
   ·rw[List.getElem_set_ne e2]
    exact h.apart hgi hgj (by omega) hz
structure MdAt (t:St) (p bm bz:Nat) (x:Pgm) (V:List (List (List UInt8))) (X:List Tab):Prop where
 o:t p=.obj 77 [.lst (x.doms.map dmC) .no,.lst (x.decls.map az) .no,.lst (x.rules.map ax) .no,.mp bm,.mp bz,.lst (X.map fun y=>[.ptr y.b 0]) .no,.lst (V.map fun v=>[.lst (aA v) .no]) .no]
 h1:t bm=.map (mpV bL (rlA x.decls))
 h2:t bz=.map (mpV bL (szA x.doms))
 tb:TbsAt t X
 dis:∀z,TbF X z->z≠p/\z≠bm/\z≠bz
theorem MdAt.keep {t u:St}{p bm bz:Nat}{x:Pgm}{V:List (List (List UInt8))}{X:List Tab}(h:MdAt t p bm bz x V X)(hk:∀z,z=p\/z=bm\/z=bz\/TbF X z->u z=t z):MdAt u p bm bz x V X:=
 ⟨(hk p (.inl rfl)).trans h.o,(hk bm (.inr (.inl rfl))).trans h.h1,(hk bz (.inr (.inr (.inl rfl)))).trans h.h2,h.tb.keep fun z hz=>hk z (.inr (.inr (.inr hz))),h.dis⟩
theorem xU {X:List Tab}{k:Nat}{y:Tab}{z:Nat}(h:TbF (X.set k y) z):TbF X z\/y.F z:=by
 obtain⟨x,hx,hz⟩:=h
 rcases List.mem_or_eq_of_mem_set hx with e|e
 ·exact .inl ⟨x,e,hz⟩
 ·subst e;exact .inr hz
theorem MdAt.upd {t u:St}{p bm bz:Nat}{x:Pgm}{V:List (List (List UInt8))}{X:List Tab}(h:MdAt t p bm bz x V X){k:Nat}{y:Tab}(hy:X[k]?=some y){g':Nat}{l':List (List Int)}(ht:TabAt u y.b y.m g' l')(hk:Keep t u y.F)
  (hF:∀z,gi y.b y.m g' l' z->y.F z\/t z=.free):MdAt u p bm bz x V (X.set k ⟨y.b,y.m,g',l'⟩):=by
 have hyT:∀z,y.F z->TbF X z:=fun z hz=>⟨y,p_ hy,hz⟩
 have hp:t p≠.free:=by rw[h.o];simp
 have hm:t bm≠.free:=by rw[h.h1];simp
 have hz:t bz≠.free:=by rw[h.h2];simp
 refine⟨?_,?_,?_,h.tb.upd hy ht hk hF,fun z hzz=>?_⟩
 ·rw[hk p hp fun e=>(h.dis p (hyT p e)).1 rfl,h.o]
  have:(X.set k ⟨y.b,y.m,g',l'⟩).map (fun y=>[VV.ptr y.b 0])=X.map fun y=>[VV.ptr y.b 0]:=by
   rw[List.map_set]
   apply List.ext_getElem?
   intro j
   by_cases e:k=j
   ·subst e
    have hlt:k<X.length:=(n_.1 hy).1
    rw[i_ (by simpa using hlt),c_,hy]
    rfl
   ·rw[s_ e]
  rw[this]
 ·rw[hk bm hm fun e=>(h.dis bm (hyT bm e)).2.1 rfl,h.h1]
 ·rw[hk bz hz fun e=>(h.dis bz (hyT bz e)).2.2 rfl,h.h2]
 ·rcases xU hzz with e|e
  ·exact h.dis z e
  ·rcases hF z e with e|e
   ·exact h.dis z (hyT z e)
   ·exact⟨fun e'=>hp (e' ▸ e),fun e'=>hm (e' ▸ e),fun e'=>hz (e' ▸ e)⟩
abbrev Rlt:=List UInt8->List Int->Prop
abbrev Sig:=List UInt8->Int
def ei (g:Sig)(ts:List Trm):List Int:=ts.map fun t=>if t.var=true then g t.nm else t.n
def uo (T:Rlt)(g:Sig)(a:Atm):Prop:=if a.not=true then ¬ T a.rel (ei g a.ts)else T a.rel (ei g a.ts)
def Sat (T:Rlt)(g:Sig)(b:List Atm):Prop:=∀a,a∈b->uo T g a
def pq (Q:List Rul)(st:List UInt8->Nat)(s:Nat)(T:Rlt):Prop:=∀r,r∈Q->st r.head.rel=s->∀g,Sat T g r.body->T r.head.rel (ei g r.head.ts)
def Mdl (Q:List Rul)(st:List UInt8->Nat)(T0:Rlt):Nat->Rlt
 |0=>T0
 |s+1=>fun n row=>∀T:Rlt,(∀n row,Mdl Q st T0 s n row->T n row)->(∀n row,st n≠s->T n row->Mdl Q st T0 s n row)->pq Q st s T->T n row
def Cy (Q:List Rul)(st:List UInt8->Nat):Prop:=∀r,r∈Q->∀a,a∈r.body->(a.not=true->st a.rel<st r.head.rel)/\st a.rel<=st r.head.rel
section
variable {Q Q' : List Rul} {st : List UInt8 -> Nat} {T0 T T' : Rlt} {s : Nat} {n : List UInt8} {row : List Int}
theorem im (h:Mdl Q st T0 s n row):Mdl Q st T0 (s+1) n row:=fun T hT _ _=>hT n row h
theorem mO (hn:st n≠s)(h:Mdl Q st T0 (s+1) n row):Mdl Q st T0 s n row:=by
 have:=h (fun n row=>st n=s\/Mdl Q st T0 s n row) (fun _ _ h=>.inr h) (fun n row hn h=>h.resolve_left hn) (fun r hr hs g _=>.inl hs)
 exact this.resolve_left hn
theorem iQ {g:Sig}{b:List Atm}(h1:∀a,a∈b->a.not=false->∀row,T a.rel row->T' a.rel row)(h2:∀a,a∈b->a.not=true->∀row,T' a.rel row->T a.rel row)(h:Sat T g b):Sat T' g b:=fun a ha=>by
 have h3:=h a ha
 unfold uo at h3 ⊢
 by_cases hn:a.not=true
 ·rw[if_pos hn]at h3 ⊢
  exact fun h4=>h3 (h2 a ha hn _ h4)
 ·rw[if_neg hn]at h3 ⊢
  exact h1 a ha (by simpa using hn) _ h3
theorem xj (hst:Cy Q st):pq Q st s (Mdl Q st T0 (s+1)):=fun r hr hs g hg T h1 h2 h3=>by
 refine h3 r hr hs g (iQ (fun a ha _ row hrow=>hrow T h1 h2 h3) (fun a ha hn row hrow=>?_) hg)
 have hlt:=(hst r hr a ha).1 hn
 exact im (h2 _ _ (by omega) hrow)
theorem s9 (hst:Cy Q st)(h1:∀n row,Mdl Q st T0 s n row->T n row)(h2:∀n row,T n row->Mdl Q st T0 (s+1) n row){r:Rul}(hr:r∈Q)(hs:st r.head.rel=s){g:Sig}(hg:Sat T g r.body) :
  Mdl Q st T0 (s+1) r.head.rel (ei g r.head.ts):=by
 refine xj hst r hr hs g (iQ (fun a ha _ row hrow=>h2 _ _ hrow) (fun a ha hn row hrow=>?_) hg)
 have hlt:=(hst r hr a ha).1 hn
 exact h1 _ _ (mO (by omega) hrow)
theorem xi (h1:∀n row,Mdl Q st T0 s n row->T n row)(h2:∀n row,T n row->Mdl Q st T0 (s+1) n row)(h3:pq Q st s T)(n:List UInt8)(row:List Int):T n row↔Mdl Q st T0 (s+1) n row:=
 ⟨h2 n row,fun h=>h T h1 (fun n row hn h=>mO hn (h2 n row h)) h3⟩
theorem zd (h:∀r,r∈Q->st r.head.rel≠s)(n:List UInt8)(row:List Int):Mdl Q st T0 (s+1) n row↔Mdl Q st T0 s n row:=
 ⟨fun h'=>h' (Mdl Q st T0 s) (fun _ _ h=>h) (fun _ _ _ h=>h) (fun r hr hs=>absurd hs (h r hr)),im⟩
theorem vr {s':Nat}(h:s<=s')(hm:Mdl Q st T0 s n row):Mdl Q st T0 s' n row:=by
 induction h with
 |refl=>exact hm
 |step _ ih=>exact im ih
theorem p8 (h:∀s T,pq Q st s T↔pq Q' st s T):∀(s:Nat) (n:List UInt8) (row:List Int),Mdl Q st T0 s n row↔Mdl Q' st T0 s n row
 |0,n,row=>Iff.rfl
 |s+1,n,row=>by
  have e:Mdl Q st T0 s=Mdl Q' st T0 s:=by funext n row;exact propext (p8 h s n row)
  simp only[Mdl,e,h]
theorem p7 {F:List Rul}(hst:Cy Q st)(hF:∀r,r∈F->r.body=[]/\∀g,T0 r.head.rel (ei g r.head.ts))(hG:∀n row,T0 n row->∃r,r∈F/\r.head.rel=n/\∀g,ei g r.head.ts=row) :
  ∀(s:Nat) (n:List UInt8) (row:List Int),(st n<s->(Mdl Q st T0 s n row↔Mdl (Q++F) st (fun _ _=>False) s n row))/\(s<=st n->(Mdl Q st T0 s n row↔T0 n row)/\¬ Mdl (Q++F) st (fun _ _=>False) s n row)
 |0,n,row=>⟨fun h=>absurd h (Nat.not_lt_zero _),fun _=>⟨Iff.rfl,fun h=>h⟩⟩
 |s+1,n,row=>by
  have ih:=p7 hst hF hG s
  have hout:∀n row,st n≠s->(st n<s->(Mdl Q st T0 (s+1) n row↔Mdl (Q++F) st (fun _ _=>False) (s+1) n row))/\(s<st n->(Mdl Q st T0 (s+1) n row↔T0 n row)/\¬ Mdl (Q++F) st (fun _ _=>False) (s+1) n row):=fun n row hn=>by
   have e1:Mdl Q st T0 (s+1) n row↔Mdl Q st T0 s n row:=⟨mO hn,im⟩
   have e2:Mdl (Q++F) st (fun _ _=>False) (s+1) n row↔Mdl (Q++F) st (fun _ _=>False) s n row:=⟨mO hn,im⟩
   rw[e1,e2]
   exact⟨(ih n row).1,fun h=>(ih n row).2 (by omega)⟩
  by_cases hn:st n=s
  ·refine⟨fun _=>⟨fun h=>?_,fun h=>?_⟩,fun h=>by omega⟩
   ·intro T h1 h2 h3
    have hb:∀r,r∈Q->st r.head.rel=s->∀a,a∈r.body->st a.rel<=s:=fun r hr hs a ha=>hs ▸ (hst r hr a ha).2
    have:=h (fun n row=>(st n<=s->T n row)/\(s<st n->T0 n row)) ?_ ?_ ?_
    ·exact this.1 (by omega)
    ·intro n row hm
     refine⟨fun hle=>?_,fun hlt=>((ih n row).2 (by omega)).1.1 hm⟩
     by_cases e:st n=s
     ·obtain⟨r,hr,rfl,hrow⟩:=hG n row (((ih n row).2 (by omega)).1.1 hm)
      have:=h3 r (by simp[hr]) e (fun _=>0) (by rw[(hF r hr).1];intro a ha;cases ha)
      rw[hrow]at this
      exact this
     ·exact h1 _ _ (((ih n row).1 (by omega)).1 hm)
    ·intro n row hne hT
     by_cases e:st n<s
     ·exact((ih n row).1 e).2 (h2 _ _ hne (hT.1 (by omega)))
     ·exact((ih n row).2 (by omega)).1.2 (hT.2 (by omega))
    ·intro r hr hs g hg
     refine⟨fun _=>h3 r (by simp[hr]) hs g (iQ (fun a ha _ row hrow=>hrow.1 (hb r hr hs a ha)) (fun a ha _ row hrow=>⟨fun _=>hrow,fun hlt=>absurd (hb r hr hs a ha) (by omega)⟩) hg),fun hlt=>by omega⟩
   ·intro T h1 h2 h3
    have hb:∀r,r∈Q->st r.head.rel=s->∀a,a∈r.body->st a.rel<=s:=fun r hr hs a ha=>hs ▸ (hst r hr a ha).2
    have:=h (fun n row=>st n<=s/\T n row) ?_ ?_ ?_
    ·exact this.2
    ·intro n row hm
     by_cases e:st n<s
     ·exact⟨by omega,h1 _ _ (((ih n row).1 e).2 hm)⟩
     ·exact absurd hm ((ih n row).2 (by omega)).2
    ·intro n row hne hT
     have e:st n<s:=by have:=hT.1;omega
     exact((ih n row).1 e).1 (h2 _ _ hne hT.2)
    ·intro r hr hs g hg
     rcases l_.1 hr with hr|hr
     ·exact⟨by omega,h3 r hr hs g (iQ (fun a ha _ row hrow=>hrow.2) (fun a ha _ row hrow=>⟨hb r hr hs a ha,hrow⟩) hg)⟩
     ·exact⟨by omega,h1 _ _ (((ih _ _).2 (by omega)).1.2 ((hF r hr).2 g))⟩
  ·exact⟨fun h=>(hout n row hn).1 (by omega),fun h=>(hout n row hn).2 (by omega)⟩
end
end Go.Proofs.YteldpmgepfaiiaaGreatDoor
