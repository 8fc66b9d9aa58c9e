/- Walks of functions that the claim reaches, and plain facts of them. Conditions: those in the statements. -/
import Derived.Test.YteldpmgepfaiiaaGreatDoorQrUlj
import Derived.Test.YteldpmgepfaiiaaGreatDoorQrUkj
import Derived.KernelRfl
set_option linter.unusedSimpArgs false
set_option linter.unusedVariables false
set_option maxRecDepth 100000
namespace Go.Proofs.YteldpmgepfaiiaaGreatDoor
open Go.RowKit
attribute [local go_sem] dp gv
theorem gA {s:St}{o2 o:Own}{T sz n m:Nat}(h:OwnOk (s.own o2 T sz n) o m):OwnOk s o m:=by
 cases o with
 |at_ x=>simp only[OwnOk,aR]at h;exact h.2
 |_=>exact h
theorem DR {s:St}{o2 o:Own}{T sz n m T' sz':Nat}(h2:OwnOk s o2 n):Fg ((s.own o2 T sz n).own o T' sz' m) (s.own o T' sz' m):=by
 cases o with
 |at_ x=>exact Fg.set (Fg.own h2) _ _
 |_=>exact Fg.own h2
def kS (x:Pgm):VV:=if cE x=true then(match bD (zG x)with|.ok _=>.tup [.str (zG x),.int .i64 0]|.error _=>.tup [.str [],.int .i64 2])else .tup [.str [],.int .i64 1]
set_option maxHeartbeats 4000000 in
theorem A4 (x:Pgm)(hx:PgmOk x)(s:St):SRet Tryz.prog 124 [.agg (pgC x)] s (kS x) s:=by
 have hck:=fun s=>ym x hx s
 refine bh Tryz.func124 rfl Tryz.ntmps124 rfl fun Q hQ hQe=>?_
 cases hB:cE x with
 |false=>
  rw[hB]at hck
  simp only[pgC]at hck
  (repeat'(first|refine Ctl ?_|((with_reducible refine j_ hK ?_);clear hK hE K E)|((with_reducible refine aj (fun h=>?_) (fun h=>?_))<;>(try(exfalso;assumption)))|((first|(with_reducible first|refine ae fun K E hK hE=>?_|refine ak AI (hck _) ?_)|((with_reducible refine ao (fun b hb=>?_))))<;>(try simp(disch:=omega) only[go_sem,seval,pgC, *]))))
  all_goals(refine ap pQ hQ ?_)
  all_goals(refine⟨_,_,Wk.of_eq ?_,?_,rfl,rfl⟩)
  ·simp[kS,hB]
  ·(exact bj)
 |true=>
  rw[hB]at hck
  simp only[pgC]at hck
  (repeat'(first|refine Ctl ?_|((with_reducible refine j_ hK ?_);clear hK hE K E)|((with_reducible refine aj (fun h=>?_) (fun h=>?_))<;>(try(exfalso;assumption)))|((first|(with_reducible first|refine ae fun K E hK hE=>?_|refine ak AI (hck _) ?_)|((with_reducible refine ao (fun b hb=>?_));(repeat(obtain⟨_,hb⟩:=hb))))<;>(try simp(disch:=omega) only[go_sem,seval,pgC, *]))))
  rename_i bp hbp n1 n2
  obtain⟨ds,cs,rs⟩:=x
  simp only at hB hck ⊢
  have hS:(∀d,d∈ds->dmB d=true)/\(∀d,d∈cs->eO d=true)/\(∀y,y∈rs->d8 y=true)/\ds.length<=32/\cs.length<=32/\rs.length<=64:=by
   simp only[cE,Bool.and_eq_true,decide_eq_true_eq,List.all_eq_true]at hB
   obtain⟨⟨⟨⟨⟨k1,k2⟩,k3⟩,k4⟩,k5⟩,k6⟩:=hB
   exact⟨k4,k5,k6,k1,k2,k3⟩
  obtain⟨g1,g2,g3,g4,g5,g6⟩:=hS
  have hb0:(s.set bp (.obj 26 [.lst (ds.map dmC) .no,.lst (cs.map aB) .no,.lst (rs.map az) .no])) bp=.obj 26 [.lst (ds.map dmC) .no,.lst (cs.map aB) .no,.lst (rs.map az) .no]:=q_ _ _ _
  have hF0:Fg (s.set bp (.obj 26 [.lst (ds.map dmC) .no,.lst (cs.map aB) .no,.lst (rs.map az) .no])) s:=v_ _ hbp
  have hbw:(s.set bp (.obj 26 [.lst (ds.map dmC) .no,.lst (cs.map aB) .no,.lst (rs.map az) .no])) b=.free:=by rw[k_ _ _ n1];exact hb
  generalize s.set bp (.obj 26 [.lst (ds.map dmC) .no,.lst (cs.map aB) .no,.lst (rs.map az) .no])=B at *
  have hbf:B bp≠.free:=by rw[hb0];simp
  have HF:=u_ hF0
  have HBW:=u_ hbw
  clear hF0 hbp h hck hbw hb
  obtain⟨bw,hbw⟩:∃bw,bw=b:=⟨_,rfl⟩
  subst hbw
  refine aI (fun m env t=>∃(i:Nat) (o:Own) (ad:VV) (bs:List UInt8),i<=ds.length/\m+i=ds.length/\bs=((ds.take i).map dmT).flatten/\t=Wb (B.own o 5 1 bs.length) bw ad bs o/\OwnOk B o bs.length/\ax o bw/\AdB bw ad/\(o=.full\/bs≠[]) /\
   env 1=.ptr bp 0/\env 4=.ptr bw 0/\env 21=.lst (ds.map dmC) .no/\env 22=.int .i64 ds.length/\env 23=.int .i64 i) ds.length ?_ ?_
  ·exact⟨_,Fg.refl _,0,.full,.raw (.pointer none),[],by omega,by omega,rfl,rfl,rfl,trivial,.inl rfl,.inl rfl,ab,ab,ab,ab,ab⟩
  ·rintro m env t ⟨i,o,ad,bs,hi,hm,hbs,rfl,hO,hno,had,hne,e1,e4,e21,e22,e23⟩
   have hop:=hO.not hbf
   by_cases hlt:i<ds.length
   ·obtain⟨c,hc⟩:=aO hlt
    obtain⟨k1,k2,k3,k4⟩:=km (g1 c (p_ hc))
    have hsx:=fR hc
    have hbl:bs.length<=3200:=by
     have:=hC (f:=dmT) (m:=100) (l:=ds.take i) fun y hy=>(km (g1 y (List.mem_of_mem_take hy))).1
     rw[<- hbs,A_]at this
     have h2:min i ds.length * 100<=32 * 100:=Nat.mul_le_mul_right _ (by omega)
     omega
    have HX:=u_ hc
    have HBS:=u_ hbs
    have HNE:=u_ hne
    clear hc hbs hne
    obtain⟨cn,cz⟩:=c
    simp only at k2 k3 k4
    have k5:=Lib.itoa_length_le cz (by omega) (by omega)
    (repeat'(first|refine Ctl ?_|(with_reducible first|(refine j_ hK ?_;clear hK hE K E)|(refine j_ hKh ?_;clear hKh Kh)|(refine j_ hKb (aK ?_);clear hKb Kb)|refine au 7 [([0,1,2,3,4,5],6,[[0,1,2,3]]),([7,8],9,[[],[]])] [] hQe fun K E hK hE=>?_)|((with_reducible refine aj (fun h=>?_) (fun h=>?_))<;>(try(exfalso;assumption)))|((first|(with_reducible first|refine ae fun K E hK hE=>?_|refine ak AN (Bu _ (by omega) (by omega) _) ?_|refine aE fun Kh hKh=>?_|refine aC fun Kh hKh=>?_|refine aL fun Kb hKb=>?_|refine lK ?_)|((with_reducible refine aT qp (Du _ _ _ _ _ _ (by assumption) (by simp(disch:=assumption) only[go_sem,seval, *]) (by assumption) (by simp only[d_,List.length_cons,List.length_nil];omega)) (fun a h=>?_));(obtain⟨hO2,hn2,had2⟩:=h;simp(disch:=assumption) only[aJ,aM,aU]at hO2;obtain⟨hn3,hO2⟩:=hO2))|((with_reducible refine ao (fun b hb=>?_));(repeat(obtain⟨_,hb⟩:=hb));(try(try(rw[aR]at hb;obtain⟨hob,hb⟩:=hb)))))<;>(try simp(disch:=first|assumption|omega) only[go_sem,seval,dmC,qw,d_, *]))))
    refine⟨Wb (B.own a.1 5 1 (bs++100::111::109::32::(cn++[32]++Lib.itoa cz++[46,10])).length) bw a.2 (bs++100::111::109::32::(cn++[32]++Lib.itoa cz++[46,10])) a.1,?_,m - 1,by omega,i+1,a.1,a.2,_,by omega,by omega,?_,rfl,hO2,hn2,had2,.inr (by simp),ab,ab,ab,ab,ab⟩
    ·simp only[WbS,Wb]
     rw[aJ hob,aM hO,aY hn3]
     exact Fg.set (v_ _ (by rw[aR];exact⟨hn3,hb⟩)) _ _
    ·rw[ma HX.out,<- HBS.out]
     simp[dmT]
   ·have hiL:i=ds.length:=by omega
    rw[hiL,f_]at hbs
    have hbl:bs.length<=3200:=by
     have:=hC (f:=dmT) (m:=100) (l:=ds) fun y hy=>(km (g1 y hy)).1
     rw[<- hbs]at this
     have h2:ds.length * 100<=32 * 100:=Nat.mul_le_mul_right _ g4
     omega
    have HB1:=u_ hbs
    have HNE:=u_ hne
    clear hbs hne
    (repeat'(first|refine Ctl ?_|((with_reducible refine j_ hK ?_);clear hK hE K E)|((with_reducible refine aj (fun h=>?_) (fun h=>?_))<;>(try(exfalso;omega)))|(((with_reducible refine ae fun K E hK hE=>?_))<;>(try simp(disch:=first|assumption|omega) only[go_sem,seval,a_, *]))))
    clear e21 e22 e23 hlt hiL hi hm h
    refine aI (fun m env t=>∃(i:Nat) (o:Own) (ad:VV) (bs2:List UInt8),i<=cs.length/\m+i=cs.length/\bs2=bs++((cs.take i).map uy).flatten/\t=Wb (B.own o 5 1 bs2.length) bw ad bs2 o/\OwnOk B o bs2.length/\ax o bw/\AdB bw ad/\(o=.full\/bs2≠[]) /\
     env 1=.ptr bp 0/\env 4=.ptr bw 0/\env 39=.lst (cs.map aB) .no/\env 40=.int .i64 cs.length/\env 41=.int .i64 i) cs.length ?_ ?_
    ·exact⟨_,Fg.refl _,0,o,ad,bs,by omega,by omega,by simp,rfl,hO,hno,had,HNE,ab,ab,ab,ab,ab⟩
    ·clear e1 e4 hO hno had HNE hop env o ad m
     rintro m env t ⟨i,o,ad,bs2,hi,hm,hbs,rfl,hO,hno,had,hne,e1,e4,e39,e40,e41⟩
     have hop:=hO.not hbf
     by_cases hlt:i<cs.length
     ·obtain⟨c,hc⟩:=aO hlt
      obtain⟨k1,k2,k3,k4⟩:=jf (g2 c (p_ hc))
      have hsx:=c9 hc
      have hbl2:bs2.length<=16000:=by
       have:=hC (f:=uy) (m:=400) (l:=cs.take i) fun y hy=>(jf (g2 y (List.mem_of_mem_take hy))).1
       have h2:min i cs.length * 400<=32 * 400:=Nat.mul_le_mul_right _ (by omega)
       rw[A_]at this
       rw[hbs,d_]
       omega
      have HX:=u_ hc
      have HBS:=u_ hbs
      have HNE:=u_ hne
      clear hc hbs hne
      obtain⟨cn,cd⟩:=c
      simp only at k2 k3 k4
      have k5:(Lib.join cd [44,32]).length<=140737488355328:=by omega
      have k6:cd.length<=140737488355328:=by omega
      (repeat'(first|refine Ctl ?_|(with_reducible first|(refine j_ hK ?_;clear hK hE K E)|(refine j_ hKh ?_;clear hKh Kh)|(refine j_ hKb (aK ?_);clear hKb Kb)|refine au 12 [([0,1,2,3,4,5],6,[[0,1,2,3]]),([7,8],9,[[],[]])] [] hQe fun K E hK hE=>?_)|((with_reducible refine aj (fun h=>?_) (fun h=>?_))<;>(try(exfalso;assumption)))|((first|(with_reducible first|refine ae fun K E hK hE=>?_|refine ak qo (qG _ _ _ (by assumption) (by assumption) _) ?_|refine aE fun Kh hKh=>?_|refine aC fun Kh hKh=>?_|refine aL fun Kb hKb=>?_|refine lK ?_)|((with_reducible refine aT qp (Du _ _ _ _ _ _ (by assumption) (by simp(disch:=assumption) only[go_sem,seval, *]) (by assumption) (by simp only[d_,List.length_cons,List.length_nil];omega)) (fun a h=>?_));(obtain⟨hO2,hn2,had2⟩:=h;simp(disch:=assumption) only[aJ,aM,aU]at hO2;obtain⟨hn3,hO2⟩:=hO2))|((with_reducible refine ao (fun b hb=>?_));(repeat(obtain⟨_,hb⟩:=hb));(try(try(rw[aR]at hb;obtain⟨hob,hb⟩:=hb)))))<;>(try simp(disch:=first|assumption|omega) only[go_sem,seval,aB,qw,d_, *]))))
      refine⟨Wb (B.own a.1 5 1 (bs2++114::101::108::32::(cn++[40]++Lib.join cd [44,32]++[41,46,10])).length) bw a.2 (bs2++114::101::108::32::(cn++[40]++Lib.join cd [44,32]++[41,46,10])) a.1,?_,m - 1,by omega,i+1,a.1,a.2,_,by omega,by omega,?_,rfl,hO2,hn2,had2,.inr (by simp),ab,ab,ab,ab,ab⟩
      ·simp only[WbS,Wb]
       rw[aJ hob,aM hO,aY hn3]
       exact Fg.set (v_ _ (by rw[aR];exact⟨hn3,hb⟩)) _ _
      ·rw[ma HX.out,<- List.append_assoc,<- HBS.out]
       simp[uy]
     ·have hiL:i=cs.length:=by omega
      rw[hiL,f_]at hbs
      have hbl2:bs2.length<=16000:=by
       have:=hC (f:=uy) (m:=400) (l:=cs) fun y hy=>(jf (g2 y hy)).1
       have h2:cs.length * 400<=32 * 400:=Nat.mul_le_mul_right _ g5
       rw[hbs,d_]
       omega
      have HB2:=u_ hbs
      have HNE:=u_ hne
      clear hbs hne
      (repeat'(first|refine Ctl ?_|((with_reducible refine j_ hK ?_);clear hK hE K E)|((with_reducible refine aj (fun h=>?_) (fun h=>?_))<;>(try(exfalso;omega)))|(((with_reducible refine ae fun K E hK hE=>?_))<;>(try simp(disch:=first|assumption|omega) only[go_sem,seval,a_, *]))))
      clear e39 e40 e41 hlt hiL hi hm h
      refine aI (fun m env t=>∃(i:Nat) (o:Own) (ad:VV) (bs3:List UInt8),i<=rs.length/\m+i=rs.length/\bs3=bs2++((rs.take i).map rf).flatten/\t=Wb (B.own o 5 1 bs3.length) bw ad bs3 o/\OwnOk B o bs3.length/\ax o bw/\AdB bw ad/\(o=.full\/bs3≠[]) /\
       env 1=.ptr bp 0/\env 4=.ptr bw 0/\env 57=.lst (rs.map az) .no/\env 58=.int .i64 rs.length/\env 59=.int .i64 i) rs.length ?_ ?_
      ·exact⟨_,Fg.refl _,0,o,ad,bs2,by omega,by omega,by simp,rfl,hO,hno,had,HNE,ab,ab,ab,ab,ab⟩
      ·clear e1 e4 hO hno had HNE hop env o ad m
       rintro m env t ⟨i,o,ad,bs3,hi,hm,hbs,rfl,hO,hno,had,hne,e1,e4,e57,e58,e59⟩
       have hop:=hO.not hbf
       by_cases hlt:i<rs.length
       ·obtain⟨c,hc⟩:=aO hlt
        obtain⟨k1,k2,k3,k4,k5,k6⟩:=kK (g3 c (p_ hc))
        have hsx:=fm hc
        have hbl3:bs3.length<=300000:=by
         have:=hC (f:=rf) (m:=4000) (l:=rs.take i) fun y hy=>(kK (g3 y (List.mem_of_mem_take hy))).1
         have h2:min i rs.length * 4000<=64 * 4000:=Nat.mul_le_mul_right _ (by omega)
         rw[A_]at this
         rw[hbs,d_]
         omega
        have HX:=u_ hc
        have HBS:=u_ hbs
        have HNE:=u_ hne
        clear hc hbs hne
        obtain⟨⟨hn,hr,ht⟩,cb⟩:=c
        simp only at k2 k3 k4 k5 k6
        have hsp:=fun o0 s=>qL ⟨hn,hr,ht⟩ o0 k2 s
        simp only at hsp
        generalize hT:gk ⟨hn,hr,ht⟩=T at *
        (repeat'(first|refine Ctl ?_|((with_reducible refine j_ hK ?_);clear hK hE K E)|((with_reducible refine aj (fun h=>?_) (fun h=>?_))<;>(try(exfalso;assumption)))|((first|(with_reducible first|refine ae fun K E hK hE=>?_|refine ak AH (hsp _ _) ?_)|((with_reducible refine aT qp (Du _ _ _ _ _ _ (by assumption) (by simp(disch:=assumption) only[go_sem,seval, *]) (by assumption) (by omega)) (fun a h=>?_));(obtain⟨hO2,hn2,had2⟩:=h;simp(disch:=assumption) only[aJ,aM,aU]at hO2;obtain⟨hn3,hO2⟩:=hO2))|((with_reducible refine ao (fun b hb=>?_));(repeat(obtain⟨_,hb⟩:=hb));(try(try(rw[aR]at hb;obtain⟨hob,hb⟩:=hb)))))<;>(try simp(disch:=first|assumption|omega) only[go_sem,seval,a_,az,qw,WbS,d_, *]))))
        clear hsp
        obtain⟨bs4,hbs4⟩:∃l,bs3++T=l:=⟨_,rfl⟩
        have hbl4:bs4.length=bs3.length+T.length:=by rw[<- hbs4,d_]
        rw[<- hbl4]
        rw[hbs4]at hO2 ⊢
        have HB4:=u_ hbs4
        have HBL4:=u_ hbl4
        have hbl5:bs4.length<=300400:=by omega
        clear hbs4 hbl4
        obtain⟨o4,ad4⟩:=a
        simp only at hO2 hn2 hn3 had2 ⊢
        have hMb:(B.own o4 5 1 bs4.length) b=.free:=by rw[aR];exact⟨hn3,hb⟩
        have hMw:(B.own o4 5 1 bs4.length) bw=.free:=by rw[aR];exact⟨hn2,HBW.out⟩
        have HMW:=u_ hMw
        refine aI (fun m2 env t=>∃(j:Nat) (ol:Own),j<=cb.length/\m2+j=cb.length/\t=Wb ((B.own o4 5 1 bs4.length).own ol 9 1 j) bw ad4 bs4 o4/\OwnOk (B.own o4 5 1 bs4.length) ol j/\ax ol bw /\
         env 1=.ptr bp 0/\env 4=.ptr bw 0/\env 57=.lst (rs.map az) .no/\env 58=.int .i64 rs.length/\env 59=.int .i64 i/\env 11=.lst (aw ((cb.take j).map gk)) ol/\env 68=.lst (cb.map aF) .no/\env 69=.int .i64 cb.length/\env 70=.int .i64 j) cb.length ?_ ?_
        ·exact⟨_,Fg.set (v_ _ hMb) _ _,0,.full,by omega,by omega,rfl,rfl,trivial,ab,ab,ab,ab,ab,ab,ab,ab,ab⟩
        ·clear e1 e4 e57 e58 e59 env h hb hMb hob hn3 hno had hO hop
         rintro m2 env t ⟨j,ol,hj,hm2,rfl,hOl,hlw,e1,e4,e57,e58,e59,e11,e68,e69,e70⟩
         by_cases hlt2:j<cb.length
         ·obtain⟨c,hc⟩:=aO hlt2
          have hq:=k5 c (p_ hc)
          have hsy:=c5 hc
          have htk:aw ((cb.take (j+1)).map gk)=aw ((cb.take j).map gk)++[[.str (gk c)]]:=by rw[b9 hc];simp[aw]
          have hst:(aw ((cb.take j).map gk)).length=j:=by simp[aw];omega
          have HT:=u_ htk
          clear hc htk
          obtain⟨an,ar,at_⟩:=c
          (repeat'(first|refine Ctl ?_|((with_reducible refine j_ hK ?_);clear hK hE K E)|((with_reducible refine aj (fun h=>?_) (fun h=>?_))<;>(try(exfalso;assumption)))|((first|(with_reducible first|refine ae fun K E hK hE=>?_|refine ak AH (qL _ _ (by assumption) _) ?_)|((with_reducible refine ao (fun b hb=>?_));(repeat(obtain⟨_,hb⟩:=hb));(try(try(rw[aR]at hb;obtain⟨hob,hb⟩:=hb))))|((with_reducible refine cB (fun o2 ho=>?_));(try simp(disch:=assumption) only[hst]at ho);(repeat(obtain⟨_,ho⟩:=ho))))<;>(try simp(disch:=first|assumption|omega) only[go_sem,seval,aF,qw, *]))))
          exact⟨Wb ((B.own o4 5 1 bs4.length).own o2 9 1 (j+1)) bw ad4 bs4 o4,Fg.set (v_ _ (by rw[aR];exact⟨by assumption,hb⟩)) _ _,m2 - 1,by omega,j+1,o2,by omega,by omega,rfl,ho,by assumption,ab,ab,ab,ab,ab,by(rw[show aw (List.map gk (List.take (j+1) cb))=_ from HT];((try simp(disch:=assumption) only[go_sem,seval, *])<;>rfl)),ab,ab,ab⟩
         ·have hjL:j=cb.length:=by omega
          subst hjL
          rw[f_]at e11
          have hst:(aw (cb.map gk)).length=cb.length:=by simp[aw]
          have k7:(Lib.join (cb.map gk) [44,32]).length<=140737488355328:=by omega
          have k8:(cb.map gk).length<=140737488355328:=by rw[a_];omega
          clear hlt2 hj hm2
          (repeat'(first|refine Ctl ?_|((with_reducible refine j_ hK ?_);clear hK hE K E)|((with_reducible refine aj (fun h=>?_) (fun h=>?_))<;>(try(exfalso;omega)))|((first|(with_reducible first|refine ae fun K E hK hE=>?_|refine ak qo (qG _ _ _ (by assumption) (by assumption) _) ?_|refine lK ?_)|((with_reducible refine aT qp (Du _ _ _ _ _ _ (by assumption) (by simp(disch:=assumption) only[go_sem,seval,dp, *]) (by assumption) (by(simp only[d_,List.length_cons,List.length_nil];omega))) (fun a h=>?_));(obtain⟨hO2,hn2,had2⟩:=h;simp(disch:=assumption) only[gv,aM]at hO2)))<;>(try simp(disch:=first|assumption|omega) only[go_sem,seval,WbS, *]))))
          ·have hcb:¬ cb=[]:=by intro e;rw[e]at h;simp at h
           refine⟨Wb (B.own a.1 5 1 (bs4++32::58::45::32::Lib.join (List.map gk cb) [44,32]++[46,10]).length) bw a.2 (bs4++32::58::45::32::Lib.join (List.map gk cb) [44,32]++[46,10]) a.1,Fg.set (DR (gA hOl)) _ _,m - 1,by omega,i+1,a.1,a.2,_,by omega,by omega,?_,rfl,gA hO2,hn2,had2,.inr (by simp),ab,ab,ab,ab,ab⟩
           rw[ma HX.out,<- List.append_assoc,<- HBS.out,<- show _=bs4 from HB4]
           simp[rf,hT,hcb]
          ·have hcb:cb=[]:=by
            cases cb with
            |nil=>rfl
            |cons a l=>exact absurd (by simp only[List.length_cons];omega) h
           refine⟨Wb (B.own a.1 5 1 (bs4++[46,10]).length) bw a.2 (bs4++[46,10]) a.1,Fg.set (DR (gA hOl)) _ _,m - 1,by omega,i+1,a.1,a.2,_,by omega,by omega,?_,rfl,gA hO2,hn2,had2,.inr (by simp),ab,ab,ab,ab,ab⟩
           rw[ma HX.out,<- List.append_assoc,<- HBS.out,<- show _=bs4 from HB4]
           simp[rf,hT,hcb]
       ·have hiL:i=rs.length:=by omega
        rw[hiL,f_]at hbs
        have hpt:bs3=zG ⟨ds,cs,rs⟩:=by rw[hbs,HB2.out,HB1.out];simp[zG]
        have hbl3:bs3.length<=9223372036854775000:=by
         have:=hC (f:=rf) (m:=4000) (l:=rs) fun y hy=>(kK (g3 y hy)).1
         have h2:rs.length * 4000<=64 * 4000:=Nat.mul_le_mul_right _ g6
         rw[hbs,d_]
         omega
        have hsg:=fun s=>BB bs3 hbl3 s
        have how:eh (B.own o 5 1 bs3.length) o 5 1 bs3.length:=by rw[gB hO];trivial
        have HPT:=u_ hpt
        clear hbs hpt
        cases hL:bD bs3 with
        |error q=>
         obtain⟨a,e⟩:=q
         have he:=od hL
         have he':¬ (e:Int)=0:=by omega
         rw[hL]at hsg
         simp only[mD]at hsg
         (repeat'(first|refine Ctl ?_|((with_reducible refine j_ hK ?_);clear hK hE K E)|((with_reducible refine aj (fun h=>?_) (fun h=>?_))<;>(try(exfalso;first|assumption|omega)))|(((with_reducible first|refine ae fun K E hK hE=>?_|refine ak AG (hsg _) ?_|refine ak AF (Li _ _ _ _ _ how (by assumption) (by assumption)) ?_))<;>(try simp(disch:=omega) only[go_sem,seval, *]))))
         all_goals(refine ap pQ hQ ?_)
         all_goals(refine⟨_,_,Wk.of_eq ?_,?_,rfl,rfl⟩)
         ·simp only[kS,hB,if_true]
          rw[<- show bs3=_ from HPT,hL]
         ·exact((v_ _ (by rw[aR];exact⟨hno,HBW.out⟩)).trans (Fg.own hO)).trans HF
        |ok L=>
         rw[hL]at hsg
         simp only[mD]at hsg
         (repeat'(first|refine Ctl ?_|((with_reducible refine j_ hK ?_);clear hK hE K E)|((with_reducible refine aj (fun h=>?_) (fun h=>?_))<;>(try(exfalso;first|assumption|omega)))|(((with_reducible first|refine ae fun K E hK hE=>?_|refine ak AG (hsg _) ?_|refine ak AF (Li _ _ _ _ _ how (by assumption) (by assumption)) ?_))<;>(try simp(disch:=omega) only[go_sem,seval, *]))))
         all_goals(refine ap pQ hQ ?_)
         all_goals(refine⟨_,_,Wk.of_eq ?_,?_,rfl,rfl⟩)
         ·simp only[kS,hB,if_true]
          rw[<- show bs3=_ from HPT,hL]
         ·exact((v_ _ (by rw[aR];exact⟨hno,HBW.out⟩)).trans (Fg.own hO)).trans HF
end Go.Proofs.YteldpmgepfaiiaaGreatDoor
namespace Go.Proofs.YteldpmgepfaiiaaGreatDoor
open Go.RowKit
theorem xS (x:Pgm)(hx:PgmOk x)(s:St):SRet Tryz.prog 113 [.agg (pgC x)] s (.bool (cE x)) s:=by
 have p1:=fun s=>A4 x hx s
 have hv:∃(t:List UInt8) (e:Int),kS x=.tup [.str t,.int .i64 e]/\(cE x=true↔¬ e=1):=by
  unfold kS
  cases hB:cE x with
  |false=>exact⟨_,_,rfl,by simp⟩
  |true=>
   rw[if_pos rfl]
   cases bD (zG x)with
   |ok L=>exact⟨_,_,rfl,by simp⟩
   |error q=>exact⟨_,_,rfl,by simp⟩
 obtain⟨t,e,hp,he⟩:=hv
 rw[hp]at p1
 simp only[pgC]at p1 ⊢
 cases hB:cE x
 all_goals
  rw[hB]at he
  simp only[true_iff,Bool.false_eq_true,false_iff,Classical.not_not]at he
  generalize x.doms.map dmC=x1 at p1 ⊢
  generalize x.decls.map aB=x2 at p1 ⊢
  generalize x.rules.map az=x3 at p1 ⊢
  clear hp hB
  refine bh Tryz.func113 rfl Tryz.ntmps113 rfl fun Q hQ hQe=>?_
  (repeat'(first|refine Ctl ?_|((with_reducible refine j_ hK ?_);clear hK hE K E)|((first|(with_reducible first|refine ae fun K E hK hE=>?_|refine ak H7 (p1 _) ?_)|((with_reducible refine ao (fun b hb=>?_))))<;>(try simp(disch:=omega) only[go_sem,seval, *]))))
  all_goals(refine ap zq hQ ?_)
  all_goals(refine⟨_,_,Wk.of_eq ?_,?_,rfl,rfl⟩)
  all_goals first|rfl|(exact bj)
theorem me {α:Type}{p:α->Bool}{l:List α}{i:Nat}{x:α}(h:l[i]?=some x)(hp:p x=false):l.all p=false:=bJ h hp
set_option maxHeartbeats 2000000 in
theorem xP (a:Atm)(o0:Own)(bm:Nat)(mp:List (List UInt8×Bool))(ha:a.ts.length<=140737488355328)(t:St)(hm:t bm=.map (mpV cO mp)) :
    SRet Tryz.prog 110 [.agg [.bool a.not,.str a.rel,.lst (a.ts.map aA) o0],.mp bm] t (.bool (a.ts.all fun x=>!x.var || (lkA x.nm mp).getD false)) t:=by
  obtain⟨an,ar,ts⟩:=a
  simp only at ha ⊢
  generalize hp:(fun x:Trm=>!x.var || (lkA x.nm mp).getD false)=P
  have hmf:t bm≠.free:=by rw[hm];simp
  refine bh Tryz.func110 rfl Tryz.ntmps110 rfl fun Q hQ hQe=>?_
  (repeat'(first|refine Ctl ?_|((with_reducible refine j_ hK ?_);clear hK hE K E)|((first|(with_reducible refine ae fun K E hK hE=>?_)|((with_reducible refine ao (fun b hb=>?_));(try(obtain⟨_,_⟩:=nef hb hmf))))<;>(try simp(disch:=omega) only[go_sem,seval,a_, *]))))
  have hb0:t.set b (.obj 40 [.bool an,.str ar,.lst (ts.map aA) o0]) b=.obj 40 [.bool an,.str ar,.lst (ts.map aA) o0]:=q_ _ _ _
  have hm0:t.set b (.obj 40 [.bool an,.str ar,.lst (ts.map aA) o0]) bm=.map (mpV cO mp):=by rw[k_ _ _ (by assumption)];exact hm
  have hF0:Fg (t.set b (.obj 40 [.bool an,.str ar,.lst (ts.map aA) o0])) t:=v_ _ hb
  generalize t.set b (.obj 40 [.bool an,.str ar,.lst (ts.map aA) o0])=B at *
  have HF:=u_ hF0
  have hbf:B b≠.free:=by rw[hb0];simp
  have hmf2:B bm≠.free:=by rw[hm0];simp
  clear hF0 hb hm hmf
  refine aI (fun m env s'=>∃i:Nat,i<=ts.length/\m+i=ts.length/\s'=B/\(ts.take i).all P=true/\env 1=.mp bm/\env 2=.ptr b 0/\env 8=.lst (ts.map aA) o0/\env 9=.int .i64 ts.length/\env 10=.int .i64 i) ts.length ?_ ?_
  · exact⟨B,Fg.refl _,0,by omega,by omega,rfl,rfl,ab,ab,ab,ab,ab⟩
  · rintro m env s' ⟨i,hi,hm,rfl,hall,e1,e2,e8,e9,e10⟩
    have HH:=u_ hall
    clear hall
    by_cases hlt:i<ts.length
    · obtain⟨c,hc⟩:=aO hlt
      have hsx:=c7 hc
      have HX:=u_ hc
      obtain⟨cv,cn,cz⟩:=c
      have hpc:P ⟨cv,cn,cz⟩=(!cv || (lkA cn mp).getD false):=by rw[<- hp]
      have HP:=u_ hpc
      clear hc hpc hp
      cases cv
      all_goals cases hk:(lkA cn mp).getD false
      all_goals(repeat'(first|refine Ctl ?_|((with_reducible refine j_ hK ?_);clear hK hE K E)|((with_reducible refine aj (fun h=>?_) (fun h=>?_))<;>(try(exfalso;assumption)))|((first|(with_reducible refine ae fun K E hK hE=>?_)|((with_reducible refine ao (fun b hb=>?_));(try(obtain⟨_,_⟩:=nef hb hbf;obtain⟨_,_⟩:=nef hb hmf2))))<;>(try simp(disch:=omega) only[go_sem,seval,aA, *]))))
      all_goals first
        | ((first | refine ap pR hQ ?_ | refine eE pR hQ ?_ | refine kB hQ ?_)
           (refine⟨_,_,Wk.of_eq ?_,?_,rfl,rfl⟩)
           · rw[me HX.out (by rw[HP.out,hk];rfl)]
           · exact(v_ _ hb).trans HF.out)
        |exact⟨s',v_ _ hb,m - 1,by omega,i+1,by omega,by omega,rfl,bB HH.out HX.out (by rw[HP.out,hk];rfl),ab,ab,ab,ab,ab⟩
    · (repeat'(first|refine Ctl ?_|((with_reducible refine j_ hK ?_);clear hK hE K E)|((with_reducible refine aj (fun h=>?_) (fun h=>?_))<;>(try(exfalso;assumption)))|(((with_reducible refine ae fun K E hK hE=>?_))<;>(try simp(disch:=omega) only[go_sem,seval, *]))))
      all_goals(refine ap pR hQ ?_)
      all_goals(refine⟨_,_,Wk.of_eq ?_,?_,rfl,rfl⟩)
      · have:=HH.out;rw[show i=ts.length by omega,f_]at this;rw[this]
      · exact HF.out
theorem Fg.keep {u s:St}(h:Fg u s){b:Nat}(hb:s b≠.free):u b=s b:=((h b).resolve_left hb).symm
def PrAt (t:St)(p b1 b2:Nat)(x:Pgm):Prop:=t p=.obj 183 [.lst (x.doms.map dmC) .no,.lst (x.decls.map aB) .no,.lst (x.rules.map az) .no,.mp b1,.mp b2]/\t b1=.map (mpV bG (szA x.doms))/\t b2=.map (mpV bG (rlA x.decls))
theorem PrAt.fg {u t:St}{p b1 b2:Nat}{x:Pgm}(h:PrAt t p b1 b2 x)(hf:Fg u t):PrAt u p b1 b2 x:=by
 obtain⟨h1,h2,h3⟩:=h
 exact⟨(hf.keep (by rw[h1];simp)).trans h1,(hf.keep (by rw[h2];simp)).trans h2,(hf.keep (by rw[h3];simp)).trans h3⟩
def pV (ds:List Dm):List (List UInt8×Int):=fH (fun d:Dm=>d.name) (fun _ d=>d.size) 0 ds []
def pU (cs:List Dcl):List (List UInt8×Int):=fH (fun d:Dcl=>d.name) (fun i _=>(i:Int)) 0 cs []
theorem vq {ds:List Dm}{i:Nat}{d:Dm}(h:ds[i]?=some d):pV (ds.take (i+1))=ptA d.name d.size (pV (ds.take i)):=by
 unfold pV;rw[b9 h,i8]
theorem vo {cs:List Dcl}{i:Nat}{d:Dcl}(h:cs[i]?=some d):pU (cs.take (i+1))=ptA d.name (i:Int) (pU (cs.take i)):=by
 unfold pU;rw[b9 h,i8,A_,Nat.min_eq_left (Nat.le_of_lt (n_.1 h).1),Nat.zero_add]
theorem zE {ds:List Dm}:(pV ds).length=ds.length↔(ds.map (·.name)).Nodup:=pa ds
theorem zD {cs:List Dcl}:(pU cs).length=cs.length↔(cs.map (·.name)).Nodup:=pa cs
theorem vp {ds:List Dm}(h:(ds.map (·.name)).Nodup):pV ds=szA ds:=by unfold pV szA;rw[eZ 0 ds [] (by simpa using h),List.nil_append]
theorem vn {cs:List Dcl}(h:(cs.map (·.name)).Nodup):pU cs=rlA cs:=by unfold pU rlA;rw[eZ 0 cs [] (by simpa using h),List.nil_append]
def jz (d:Dm):Bool:=!(decide (d.size<1) || decide (1073741824<d.size))
theorem qP {ds:List Dm}:ds.any (fun d=>decide (d.size<1) || decide (1073741824<d.size))=!(ds.all jz):=by
 rw[List.not_all_eq_any_not];congr 1;funext d;simp[jz]
def kwn (ds:List Dm)(c:Dcl):Bool:=c.doms.all fun s=>!decide (dM ds s=0)
theorem vI {ds:List Dm}{cs:List Dcl}:cs.any (fun d=>d.doms.any fun s=>decide (dM ds s=0))=!(cs.all (kwn ds)):=by
 rw[List.not_all_eq_any_not];congr 1;funext d;simp only[kwn];rw[List.not_all_eq_any_not];congr 1;funext s;simp
set_option maxHeartbeats 8000000 in
theorem wo (x:Pgm)(hx:PgmOk x)(s:St):SCalls Tryz.prog 85 [.agg (pgC x)] s fun w u=>
    (cD x≠0->w=.ret (.tup [.raw (.pointer none),.int .i64 (cD x)])/\u=s)/\(cD x=0->∃p b1 b2,w=.ret (.tup [.ptr p 0,.int .i64 0])/\PrAt u p b1 b2 x/\Fg u s):=by
  have w1:=fun s=>xS x hx s
  obtain⟨ds,cs,rs⟩:=x
  obtain⟨hd,hc,hr,hdd,hdc,_⟩:=hx
  simp only at hd hc hr hdd hdc
  cases hB:cE ⟨ds,cs,rs⟩with
  |false=>
    have he:cD ⟨ds,cs,rs⟩=1:=by unfold cD;rw[if_pos hB]
    rw[hB]at w1
    simp only[pgC]at w1 ⊢
    rw[he]
    clear he hB
    refine bh Tryz.func85 rfl Tryz.ntmps85 rfl fun Q hQ hQe=>?_
    (repeat'(first|refine Ctl ?_|((with_reducible refine j_ hK ?_);clear hK hE K E)|((with_reducible refine aj (fun h=>?_) (fun h=>?_))<;>(try(exfalso;assumption)))|((first|(with_reducible first|refine ae fun K E hK hE=>?_|refine ak AO (w1 _) ?_)|((with_reducible refine ao (fun b hb=>?_))))<;>(try simp(disch:=omega) only[go_sem,seval, *]))))
    all_goals(refine ap mP hQ ?_)
    refine⟨_,_,Wk.refl _,(bj:Fg _ s),fun _=>⟨rfl,rfl⟩,fun h=>absurd h (by decide)⟩
  |true=>
    rw[hB]at w1
    have hE:∀e:Int,e=cD ⟨ds,cs,rs⟩->cD ⟨ds,cs,rs⟩=e:=fun _ h=>h.symm
    have hread:cD ⟨ds,cs,rs⟩=if ds.all jz=false then 1 else if ¬ (ds.map (·.name)).Nodup\/¬ (cs.map (·.name)).Nodup then 120 else if cs.all (kwn ds)=false then 121 else 0:=by
      unfold cD
      simp only[hB,qP,vI,Bool.not_eq_true',Bool.true_eq_false,if_false]
    generalize cD ⟨ds,cs,rs⟩=RE at hread
    clear hE
    have HRD:=u_ hread
    clear hread hB
    simp only[pgC]at w1 ⊢
    refine bh Tryz.func85 rfl Tryz.ntmps85 rfl fun Q hQ hQe=>?_
    (repeat'(first|refine Ctl ?_|((with_reducible refine j_ hK ?_);clear hK hE K E)|((with_reducible refine aj (fun h=>?_) (fun h=>?_))<;>(try(exfalso;assumption)))|((first|(with_reducible first|refine ae fun K E hK hE=>?_|refine ak AO (w1 _) ?_)|((with_reducible refine ao (fun b hb=>?_));(repeat(obtain⟨_,hb⟩:=hb))))<;>(try simp(disch:=omega) only[go_sem,seval, *]))))
    rename_i bx hbx b1 n1 n2 hb1 b2 n3 n4 n5 n6 hb2 n7 n8 n9 n10 n11 n12
    obtain⟨pp,hpp⟩:∃x,x=b:=⟨_,rfl⟩
    subst hpp
    clear w1 h
    have hx0:((((s.set bx (.obj 26 [.lst (ds.map dmC) .no,.lst (cs.map aB) .no,.lst (rs.map az) .no])).set b1 (.map [])).set b2 (.map [])).set pp (.obj 183 [.lst (ds.map dmC) .no,.lst (cs.map aB) .no,.lst (rs.map az) .no,.mp b1,.mp b2])) bx=.obj 26 [.lst (ds.map dmC) .no,.lst (cs.map aB) .no,.lst (rs.map az) .no]:=by simp(disch:=assumption) only[k_,q_,ne_eq]
    have hp0:((((s.set bx (.obj 26 [.lst (ds.map dmC) .no,.lst (cs.map aB) .no,.lst (rs.map az) .no])).set b1 (.map [])).set b2 (.map [])).set pp (.obj 183 [.lst (ds.map dmC) .no,.lst (cs.map aB) .no,.lst (rs.map az) .no,.mp b1,.mp b2])) pp=.obj 183 [.lst (ds.map dmC) .no,.lst (cs.map aB) .no,.lst (rs.map az) .no,.mp b1,.mp b2]:=q_ _ _ _
    have h10:((((s.set bx (.obj 26 [.lst (ds.map dmC) .no,.lst (cs.map aB) .no,.lst (rs.map az) .no])).set b1 (.map [])).set b2 (.map [])).set pp (.obj 183 [.lst (ds.map dmC) .no,.lst (cs.map aB) .no,.lst (rs.map az) .no,.mp b1,.mp b2])) b1=.map (mpV bG []):=by simp(disch:=assumption) only[k_,q_,ne_eq];rfl
    have h20:((((s.set bx (.obj 26 [.lst (ds.map dmC) .no,.lst (cs.map aB) .no,.lst (rs.map az) .no])).set b1 (.map [])).set b2 (.map [])).set pp (.obj 183 [.lst (ds.map dmC) .no,.lst (cs.map aB) .no,.lst (rs.map az) .no,.mp b1,.mp b2])) b2=.map (mpV bG []):=by simp(disch:=assumption) only[k_,q_,ne_eq];rfl
    have hF0:Fg ((((s.set bx (.obj 26 [.lst (ds.map dmC) .no,.lst (cs.map aB) .no,.lst (rs.map az) .no])).set b1 (.map [])).set b2 (.map [])).set pp (.obj 183 [.lst (ds.map dmC) .no,.lst (cs.map aB) .no,.lst (rs.map az) .no,.mp b1,.mp b2])) s:=bj
    generalize ((((s.set bx (.obj 26 [.lst (ds.map dmC) .no,.lst (cs.map aB) .no,.lst (rs.map az) .no])).set b1 (.map [])).set b2 (.map [])).set pp (.obj 183 [.lst (ds.map dmC) .no,.lst (cs.map aB) .no,.lst (rs.map az) .no,.mp b1,.mp b2]))=B at *
    have HF:=u_ hF0
    have HS1:=u_ hb1
    have HS2:=u_ hb2
    have hxf:B bx≠.free:=by rw[hx0];simp
    have hpf:B pp≠.free:=by rw[hp0];simp
    have h1f:B b1≠.free:=by rw[h10];simp
    have h2f:B b2≠.free:=by rw[h20];simp
    have hFg1:∀c,Fg (B.set b1 c) s:=fun c=>w_ HF.out HS1.out
    have HFG1:=u_ hFg1
    clear hF0 hbx hb1 hb2 hb hFg1
    refine aI (fun m env t=>∃(i:Nat) (M:List (List UInt8×Int)),i<=ds.length/\m+i=ds.length/\M=pV (ds.take i)/\(ds.take i).all jz=true/\t=B.set b1 (.map (mpV bG M))/\env 1=.ptr bx 0/\env 4=.ptr pp 0/\env 22=.lst (ds.map dmC) .no/\env 23=.int .i64 ds.length/\env 24=.int .i64 i) ds.length ?_ ?_
    · exact⟨B.set b1 (.map (mpV bG [])),by rw[x_ _ _ _ h10];exact Fg.refl _,0,[],by omega,by omega,rfl,rfl,rfl,ab,ab,ab,ab,ab⟩
    · rintro m env t ⟨i,M,hi,hm,hM,hall,rfl,e1,e4,e22,e23,e24⟩
      have HH:=u_ hall
      have HM:=u_ hM
      clear hall hM
      by_cases hlt:i<ds.length
      · obtain⟨c,hcc⟩:=aO hlt
        have hsx:=fR hcc
        have HX:=u_ hcc
        have hA:=vq hcc
        rw[<- HM.out]at hA
        have HA:=u_ hA
        clear hcc hA
        obtain⟨cn,cz⟩:=c
        by_cases hz1:cz<1\/1073741824<cz
        · have hbad:jz ⟨cn,cz⟩=false:=by simp[jz];omega
          have hR1:RE=1:=by rw[HRD.out,if_pos (me HX.out hbad)]
          have HR1:=u_ hR1
          by_cases hz2:cz<1
          all_goals first
            | (have hz3 : 1073741824 < cz := by omega
               skip)
            |skip
          all_goals clear hz1 hbad hR1
          all_goals(repeat'(first|refine Ctl ?_|((with_reducible refine j_ hK ?_);clear hK hE K E)|((with_reducible refine aj (fun h=>?_) (fun h=>?_))<;>(try(exfalso;assumption)))|((first|(with_reducible refine ae fun K E hK hE=>?_)|((with_reducible refine ao (fun b hb=>?_));(repeat(obtain⟨_,hb⟩:=hb));(try(obtain⟨_,_⟩:=nef hb hxf;obtain⟨_,_⟩:=nef hb hpf;obtain⟨_,_⟩:=nef hb h1f;obtain⟨_,_⟩:=nef hb h2f))))<;>(try simp(disch:=omega) only[go_sem,seval,a_,hsx,dmC, *]))))
          all_goals(refine ap mP hQ ?_)
          all_goals exact⟨_,s,Wk.refl _,Fg.trans (v_ _ (by rw[k_ _ _ (by assumption)];assumption)) (HFG1.out _),fun _=>⟨by rw[HR1.out],rfl⟩,fun h=>absurd h (by rw[HR1.out];decide)⟩
        · have hz2:¬ cz<1:=by omega
          have hz3:¬ 1073741824<cz:=by omega
          have hgood:jz ⟨cn,cz⟩=true:=by simp[jz];omega
          have HG:=u_ hgood
          clear hz1 hgood
          (repeat'(first|refine Ctl ?_|(with_reducible first|(refine j_ hK ?_;clear hK hE K E)|(refine j_ hKh ?_;clear hKh Kh)|(refine j_ hKb (aK ?_);clear hKb Kb)|refine au 9 [([0,1,2,3,4,5,6,7],8,[[]])] [] hQe fun K E hK hE=>?_)|((with_reducible refine aj (fun h=>?_) (fun h=>?_))<;>(try(exfalso;assumption)))|((first|(with_reducible first|refine ae fun K E hK hE=>?_|refine aE fun Kh hKh=>?_|refine aC fun Kh hKh=>?_|refine aL fun Kb hKb=>?_)|((with_reducible refine ao (fun b hb=>?_));(repeat(obtain⟨_,hb⟩:=hb));(try(obtain⟨_,_⟩:=nef hb hxf;obtain⟨_,_⟩:=nef hb hpf;obtain⟨_,_⟩:=nef hb h1f;obtain⟨_,_⟩:=nef hb h2f))))<;>(try simp(disch:=first|assumption|omega) only[go_sem,seval,a_,hsx,dmC, *]))))
          exact⟨B.set b1 (.map (mpV bG (ptA cn cz M))),v_ _ (by rw[k_ _ _ (by assumption)];exact hb),m - 1,by omega,i+1,_,by omega,by omega,HA.out.symm,bB HH.out HX.out HG.out,rfl,ab,ab,ab,ab,ab⟩
      · have hiL:i=ds.length:=by omega
        have hMd:M=pV ds:=by rw[HM.out,hiL,f_]
        have hallD:ds.all jz=true:=by have:=HH.out;rwa [hiL,f_]at this
        have HMD:=u_ hMd
        have HAD:=u_ hallD
        have hx1:(B.set b1 (.map (mpV bG M))) bx=.obj 26 [.lst (ds.map dmC) .no,.lst (cs.map aB) .no,.lst (rs.map az) .no]:=by rw[k_ _ _ (by assumption)];exact hx0
        have hp1:(B.set b1 (.map (mpV bG M))) pp=.obj 183 [.lst (ds.map dmC) .no,.lst (cs.map aB) .no,.lst (rs.map az) .no,.mp b1,.mp b2]:=by rw[k_ _ _ (by assumption)];exact hp0
        have h11:(B.set b1 (.map (mpV bG M))) b1=.map (mpV bG M):=q_ _ _ _
        have h21:(B.set b1 (.map (mpV bG M))) b2=.map (mpV bG []):=by rw[k_ _ _ (by assumption)];exact h20
        have hF1:Fg (B.set b1 (.map (mpV bG M))) s:=HFG1.out _
        clear hMd hallD HM HH hiL HF HFG1
        generalize B.set b1 (.map (mpV bG M))=B1 at *
        clear hx0 hp0 h10 h20 hxf hpf h1f h2f
        have hxf:B1 bx≠.free:=by rw[hx1];simp
        have hpf:B1 pp≠.free:=by rw[hp1];simp
        have h1f:B1 b1≠.free:=by rw[h11];simp
        have h2f:B1 b2≠.free:=by rw[h21];simp
        have hFg2:∀c,Fg (B1.set b2 c) s:=fun c=>w_ hF1 HS2.out
        have HFG2:=u_ hFg2
        clear hFg2 hF1
        (repeat'(first|refine Ctl ?_|((with_reducible refine j_ hK ?_);clear hK hE K E)|((with_reducible refine aj (fun h=>?_) (fun h=>?_))<;>(try(exfalso;assumption)))|(((with_reducible refine ae fun K E hK hE=>?_))<;>(try simp(disch:=omega) only[go_sem,seval,a_, *]))))
        clear e22 e23 e24 hi hm hlt h
        refine aI (fun m env t=>∃(i:Nat) (N:List (List UInt8×Int)),i<=cs.length/\m+i=cs.length/\N=pU (cs.take i)/\t=B1.set b2 (.map (mpV bG N))/\env 1=.ptr bx 0/\env 4=.ptr pp 0/\env 46=.lst (cs.map aB) .no/\env 47=.int .i64 cs.length/\env 48=.int .i64 i) cs.length ?_ ?_
        · exact⟨B1.set b2 (.map (mpV bG [])),by rw[x_ _ _ _ h21];exact Fg.refl _,0,[],by omega,by omega,rfl,rfl,ab,ab,ab,ab,ab⟩
        · clear e1 e4 env i m
          rintro m env t ⟨i,N,hi,hm,hN,rfl,e1,e4,e46,e47,e48⟩
          have HN:=u_ hN
          clear hN
          by_cases hlt:i<cs.length
          · obtain⟨c,hcc⟩:=aO hlt
            have hsx:=c9 hcc
            have hA:=vo hcc
            rw[<- HN.out]at hA
            have HA:=u_ hA
            clear hcc hA
            obtain⟨cn,cd⟩:=c
            (repeat'(first|refine Ctl ?_|(with_reducible first|(refine j_ hK ?_;clear hK hE K E)|(refine j_ hKh ?_;clear hKh Kh)|(refine j_ hKb (aK ?_);clear hKb Kb)|refine au 14 [([0,1,2,3,4,5,6],7,[[]])] [] hQe fun K E hK hE=>?_)|((with_reducible refine aj (fun h=>?_) (fun h=>?_))<;>(try(exfalso;assumption)))|((first|(with_reducible first|refine ae fun K E hK hE=>?_|refine aE fun Kh hKh=>?_|refine aC fun Kh hKh=>?_|refine aL fun Kb hKb=>?_)|((with_reducible refine ao (fun b hb=>?_));(repeat(obtain⟨_,hb⟩:=hb));(try(obtain⟨_,_⟩:=nef hb hxf;obtain⟨_,_⟩:=nef hb hpf;obtain⟨_,_⟩:=nef hb h1f;obtain⟨_,_⟩:=nef hb h2f))))<;>(try simp(disch:=first|assumption|omega) only[go_sem,seval,a_,hsx,aB, *]))))
            exact⟨B1.set b2 (.map (mpV bG (ptA cn (i:Int) N))),v_ _ (by rw[k_ _ _ (by assumption)];exact hb),m - 1,by omega,i+1,_,by omega,by omega,HA.out.symm,rfl,ab,ab,ab,ab,ab⟩
          · have hiL:i=cs.length:=by omega
            have hNd:N=pU cs:=by rw[HN.out,hiL,f_]
            have HND:=u_ hNd
            have hx2:(B1.set b2 (.map (mpV bG N))) bx=.obj 26 [.lst (ds.map dmC) .no,.lst (cs.map aB) .no,.lst (rs.map az) .no]:=by rw[k_ _ _ (by assumption)];exact hx1
            have hp2:(B1.set b2 (.map (mpV bG N))) pp=.obj 183 [.lst (ds.map dmC) .no,.lst (cs.map aB) .no,.lst (rs.map az) .no,.mp b1,.mp b2]:=by rw[k_ _ _ (by assumption)];exact hp1
            have h12:(B1.set b2 (.map (mpV bG N))) b1=.map (mpV bG M):=by rw[k_ _ _ (by assumption)];exact h11
            have h22:(B1.set b2 (.map (mpV bG N))) b2=.map (mpV bG N):=q_ _ _ _
            have hF2:Fg (B1.set b2 (.map (mpV bG N))) s:=HFG2.out _
            have hlD:¬ (ds.map (·.name)).Nodup↔¬ M.length=ds.length:=by rw[HMD.out,zE]
            have hlR:¬ (cs.map (·.name)).Nodup↔¬ N.length=cs.length:=by rw[HND.out,zD]
            have HLD:=u_ hlD
            have HLR:=u_ hlR
            clear hNd HN hiL HFG2 hlD hlR
            generalize B1.set b2 (.map (mpV bG N))=B2 at *
            clear hx1 hp1 h11 h21 hxf hpf h1f h2f
            have hxf:B2 bx≠.free:=by rw[hx2];simp
            have hpf:B2 pp≠.free:=by rw[hp2];simp
            have h1f:B2 b1≠.free:=by rw[h12];simp
            have h2f:B2 b2≠.free:=by rw[h22];simp
            have HF2:=u_ hF2
            clear hF2
            by_cases hl1:M.length=ds.length
            · have hl1i:((M.length:Int)=(ds.length:Int))=True:=eq_true (by omega)
              by_cases hl2:N.length=cs.length
              · have hl2i:((N.length:Int)=(cs.length:Int))=True:=eq_true (by omega)
                have hnd:(ds.map (·.name)).Nodup:=Classical.byContradiction fun h=>(HLD.out.1 h) hl1
                have hnr:(cs.map (·.name)).Nodup:=Classical.byContradiction fun h=>(HLR.out.1 h) hl2
                have hMs:M=szA ds:=by rw[HMD.out,vp hnd]
                have hNs:N=rlA cs:=by rw[HND.out,vn hnr]
                subst hMs
                subst hNs
                have hR2:RE=if cs.all (kwn ds)=false then 121 else 0:=by
                  rw[HRD.out,if_neg (by rw[HAD.out];simp),if_neg (by rintro(h|h);exact h hnd;exact h hnr)]
                have HR2:=u_ hR2
                clear hnd hnr hR2 hl1 hl2
                (repeat'(first|refine Ctl ?_|(with_reducible first|(refine j_ hK ?_;clear hK hE K E)|(refine j_ hKh ?_;clear hKh Kh)|refine au 16 [] [0,1,2,3,4,5,6,7,8,9,10,11,12,13,14,15,16,17,18,19] hQe fun K E hK hE=>?_)|((with_reducible refine aj (fun h=>?_) (fun h=>?_))<;>(try(exfalso;assumption)))|(((with_reducible first|refine ae fun K E hK hE=>?_|refine aC fun Kh hKh=>?_))<;>(try simp(disch:=omega) only[go_sem,seval,a_, *]))))
                refine aI (fun m env t=>∃(i:Nat),i<=cs.length/\m+i=cs.length/\(cs.take i).all (kwn ds)=true/\t=B2/\env 1=.ptr bx 0/\env 4=.ptr pp 0/\env 82=.lst (cs.map aB) .no/\env 83=.int .i64 cs.length/\env 84=.int .i64 i) cs.length ?_ ?_
                · exact⟨B2,Fg.refl _,0,by omega,by omega,rfl,rfl,ab,ab,ab,ab,ab⟩
                · clear e1 e4 e46 e47 e48 hlt hm hi env i m h
                  rintro m env t ⟨i,hi,hm,hall,rfl,e1,e4,e82,e83,e84⟩
                  have HH:=u_ hall
                  clear hall
                  by_cases hlt:i<cs.length
                  · obtain⟨c,hcc⟩:=aO hlt
                    have hsx:=c9 hcc
                    have HX:=u_ hcc
                    have hcl:=(hdc c (p_ hcc)).2.1
                    clear hcc
                    obtain⟨cn,cd⟩:=c
                    simp only at hcl
                    have hsl:(aw cd).length=cd.length:=by simp[aw]
                    (repeat'(first|refine Ctl ?_|((with_reducible refine j_ hK ?_);clear hK hE K E)|((with_reducible refine aj (fun h=>?_) (fun h=>?_))<;>(try(exfalso;assumption)))|((first|(with_reducible refine ae fun K E hK hE=>?_)|((with_reducible refine ao (fun b hb=>?_));(try(obtain⟨_,_⟩:=nef hb hxf;obtain⟨_,_⟩:=nef hb hpf;obtain⟨_,_⟩:=nef hb h1f;obtain⟨_,_⟩:=nef hb h2f))))<;>(try simp(disch:=omega) only[go_sem,seval,a_,hsx,aB,hsl, *]))))
                    refine aI (fun m2 env t'=>∃(j:Nat),j<=cd.length/\m2+j=cd.length/\(cd.take j).all (fun s=>!decide (dM ds s=0))=true/\t'=t/\env 1=.ptr bx 0/\env 4=.ptr pp 0/\env 82=.lst (cs.map aB) .no/\env 83=.int .i64 cs.length/\env 84=.int .i64 i/\env 89=.lst (aw cd) .no/\env 90=.int .i64 cd.length/\env 91=.int .i64 j) cd.length ?_ ?_
                    · exact⟨t,v_ _ hb,0,by omega,by omega,rfl,rfl,ab,ab,ab,ab,ab,ab,ab,ab⟩
                    · clear e1 e4 e82 e83 e84 env hb h
                      rintro m2 env t' ⟨j,hj,hm2,hall2,rfl,e1,e4,e82,e83,e84,e89,e90,e91⟩
                      have HH2:=u_ hall2
                      clear hall2
                      by_cases hlt2:j<cd.length
                      · obtain⟨u,hu⟩:=aO hlt2
                        have hsu:=c8 hu
                        have HU:=u_ hu
                        have hlk:=pI (ds:=ds) u
                        clear hu
                        cases hz:decide (dM ds u=0)
                        · have hz2:¬ dM ds u=0:=by simpa using hz
                          have HZ:=u_ hz
                          clear hz
                          (repeat'(first|refine Ctl ?_|((with_reducible refine j_ hK ?_);clear hK hE K E)|((with_reducible refine aj (fun h=>?_) (fun h=>?_))<;>(try(exfalso;assumption)))|(((with_reducible refine ae fun K E hK hE=>?_))<;>(try simp(disch:=omega) only[go_sem,seval,a_,hsu,hsl,hlk, *]))))
                          exact⟨t',Fg.refl _,m2 - 1,by omega,j+1,by omega,by omega,bB HH2.out HU.out (by rw[HZ.out];rfl),rfl,ab,ab,ab,ab,ab,ab,ab,ab⟩
                        · have hz2:(dM ds u=0)=True:=eq_true (by simpa using hz)
                          have HZ:=u_ hz
                          clear hz
                          (repeat'(first|refine Ctl ?_|((with_reducible refine j_ hK ?_);clear hK hE K E)|((with_reducible refine aj (fun h=>?_) (fun h=>?_))<;>(try(exfalso;assumption)))|(((with_reducible refine ae fun K E hK hE=>?_))<;>(try simp(disch:=omega) only[go_sem,seval,a_,hsu,hsl,hlk, *]))))
                          have hR3:RE=121:=by
                            rw[HR2.out,if_pos]
                            exact me HX.out (by unfold kwn;exact me HU.out (by rw[HZ.out];rfl))
                          (refine ap mP hQ ?_)
                          exact⟨_,s,Wk.refl _,HF2.out,fun _=>⟨by rw[hR3],rfl⟩,fun h=>absurd h (by rw[hR3];decide)⟩
                      · have hjL:j=cd.length:=by omega
                        have hk:kwn ds ⟨cn,cd⟩=true:=by unfold kwn;have:=HH2.out;rwa [hjL,f_]at this
                        have HK:=u_ hk
                        clear hk
                        (repeat'(first|refine Ctl ?_|((with_reducible refine j_ hK ?_);clear hK hE K E)|((with_reducible refine aj (fun h=>?_) (fun h=>?_))<;>(try(exfalso;omega)))|(((with_reducible refine ae fun K E hK hE=>?_))<;>(try simp(disch:=omega) only[go_sem,seval,a_,hsl, *]))))
                        exact⟨t',Fg.refl _,m - 1,by omega,i+1,by omega,by omega,bB HH.out HX.out HK.out,rfl,ab,ab,ab,ab,ab⟩
                  · have hiL:i=cs.length:=by omega
                    have hk:cs.all (kwn ds)=true:=by have:=HH.out;rwa [hiL,f_]at this
                    have hR3:RE=0:=by rw[HR2.out,if_neg (by rw[hk];simp)]
                    have HR3:=u_ hR3
                    clear hk hR3
                    (repeat'(first|refine Ctl ?_|((with_reducible refine j_ hK ?_);clear hK hE K E)|((with_reducible refine aj (fun h=>?_) (fun h=>?_))<;>(try(exfalso;omega)))|(((with_reducible refine ae fun K E hK hE=>?_))<;>(try simp(disch:=omega) only[go_sem,seval,a_, *]))))
                    all_goals(refine ap mP hQ ?_)
                    exact⟨_,t,Wk.refl _,Fg.refl _,fun h=>absurd HR3.out h,fun _=>⟨pp,b1,b2,rfl,⟨hp2,h12,h22⟩,HF2.out⟩⟩
              · have hl2i:¬ ((N.length:Int)=(cs.length:Int)):=by omega
                have hR2:RE=120:=by
                  rw[HRD.out,if_neg (by rw[HAD.out];simp),if_pos (.inr (HLR.out.2 hl2))]
                have HR2:=u_ hR2
                clear hR2 hl1 hl2
                (repeat'(first|refine Ctl ?_|(with_reducible first|(refine j_ hK ?_;clear hK hE K E)|(refine j_ hKh ?_;clear hKh Kh)|refine au 16 [] [0,1,2,3,4,5,6,7,8,9,10,11,12,13,14,15,16,17,18,19] hQe fun K E hK hE=>?_)|((with_reducible refine aj (fun h=>?_) (fun h=>?_))<;>(try(exfalso;assumption)))|(((with_reducible first|refine ae fun K E hK hE=>?_|refine aC fun Kh hKh=>?_))<;>(try simp(disch:=omega) only[go_sem,seval,a_, *]))))
                all_goals(refine ap mP hQ ?_)
                exact⟨_,s,Wk.refl _,HF2.out,fun _=>⟨by rw[HR2.out],rfl⟩,fun h=>absurd h (by rw[HR2.out];decide)⟩
            · have hl1i:¬ ((M.length:Int)=(ds.length:Int)):=by omega
              have hR2:RE=120:=by
                rw[HRD.out,if_neg (by rw[HAD.out];simp),if_pos (.inl (HLD.out.2 hl1))]
              have HR2:=u_ hR2
              clear hR2 hl1
              (repeat'(first|refine Ctl ?_|(with_reducible first|(refine j_ hK ?_;clear hK hE K E)|(refine j_ hKh ?_;clear hKh Kh)|refine au 16 [] [0,1,2,3,4,5,6,7,8,9,10,11,12,13,14,15,16,17,18,19] hQe fun K E hK hE=>?_)|((with_reducible refine aj (fun h=>?_) (fun h=>?_))<;>(try(exfalso;assumption)))|(((with_reducible first|refine ae fun K E hK hE=>?_|refine aC fun Kh hKh=>?_))<;>(try simp(disch:=omega) only[go_sem,seval,a_, *]))))
              all_goals(refine ap mP hQ ?_)
              exact⟨_,s,Wk.refl _,HF2.out,fun _=>⟨by rw[HR2.out],rfl⟩,fun h=>absurd h (by rw[HR2.out];decide)⟩
structure Tab where
 b:Nat
 m:Nat
 g:Nat
 l:List (List Int)
def Tab.F (y:Tab)(z:Nat):Prop:=fW y.b y.m y.g y.l z
def Tab.At (y:Tab)(t:St):Prop:=TabAt t y.b y.m y.g y.l
structure TbsAt (t:St) (X:List Tab):Prop where
 at_:∀y,y∈X->y.At t
 dis:X.Pairwise fun x y=>∀z,x.F z->¬ y.F z
def TbF (X:List Tab)(z:Nat):Prop:=∃y,y∈X/\y.F z
theorem TbsAt.live {t:St}{X:List Tab}(h:TbsAt t X){z:Nat}(hz:TbF X z):t z≠.free:=by
 obtain⟨y,hy,hF⟩:=hz
 exact TabAt.live (h.at_ y hy) hF
theorem TbsAt.keep {t u:St}{X:List Tab}(h:TbsAt t X)(hk:∀z,TbF X z->u z=t z):TbsAt u X:=
 ⟨fun y hy=>TabAt.keep (h.at_ y hy) fun z hz=>hk z ⟨y,hy,hz⟩,h.dis⟩
theorem TbsAt.apart {t:St}{X:List Tab}(h:TbsAt t X){j k:Nat}{x y:Tab}(hj:X[j]?=some x)(hk:X[k]?=some y)(hne:j≠k){z:Nat}(hz:x.F z):¬ y.F z:=by
 obtain⟨hj1,rfl⟩:=n_.1 hj
 obtain⟨hk1,rfl⟩:=n_.1 hk
 have hd:=List.pairwise_iff_getElem.1 h.dis
 rcases Nat.lt_or_ge j k with e|e
 ·exact hd j k hj1 hk1 e z hz
 ·intro hy
  exact hd k j hk1 hj1 (by omega) z hy hz
theorem TbsAt.upd {t u:St}{X:List Tab}(h:TbsAt t X){k:Nat}{x:Tab}(hx:X[k]?=some x){g':Nat}{l':List (List Int)}(ht:TabAt u x.b x.m g' l')(hk:Keep t u x.F)
  (hF:∀z,fW x.b x.m g' l' z->x.F z\/t z=.free):TbsAt u (X.set k ⟨x.b,x.m,g',l'⟩):=by
 have hother:∀(j:Nat) (y:Tab),X[j]?=some y->j≠k->y.At u/\∀z,y.F z->¬ fW x.b x.m g' l' z:=fun j y hj hne=>by
  have hy:=h.at_ y (p_ hj)
  refine⟨TabAt.keep hy fun z hz=>hk z (TabAt.live hy hz) fun hxz=>h.apart hj hx hne hz hxz,fun z hz hz2=>?_⟩
  rcases hF z hz2 with e|e
  ·exact h.apart hj hx hne hz e
  ·exact TabAt.live hy hz e
 constructor
 ·intro y hy
  obtain⟨j,hj⟩:=h_.1 hy
  by_cases e:j=k
  ·subst e
   have hlt:j<X.length:=(n_.1 hx).1
   rw[i_ hlt]at hj
   injection hj with hj
   subst hj
   exact ht
  ·rw[s_ (Ne.symm e)]at hj
   exact(hother j y hj e).1
 ·rw[List.pairwise_iff_getElem]
  intro i j hi hj hij z hz
  rw[List.length_set]at hi hj
  have hgi:=b_ hi
  have hgj:=b_ hj
  by_cases e1:k=i
  ·subst e1
   have e2:¬ k=j:=by omega
   rw[List.getElem_set_self]at hz
   rw[List.getElem_set_ne e2]
   exact fun hz2=>(hother j _ hgj (by omega)).2 z hz2 hz
  ·rw[List.getElem_set_ne e1]at hz
   by_cases e2:k=j
   ·subst e2
    rw[List.getElem_set_self]
    exact fun hz2=>(hother i _ hgi (by omega)).2 z hz hz2
   ·rw[List.getElem_set_ne e2]
    exact h.apart hgi hgj (by omega) hz
structure MdAt (t:St) (p bm bz:Nat) (x:Pgm) (V:List (List (List UInt8))) (X:List Tab):Prop where
 o:t p=.obj 77 [.lst (x.doms.map dmC) .no,.lst (x.decls.map aB) .no,.lst (x.rules.map az) .no,.mp bm,.mp bz,.lst (X.map fun y=>[.ptr y.b 0]) .no,.lst (V.map fun v=>[.lst (aw v) .no]) .no]
 h1:t bm=.map (mpV bG (rlA x.decls))
 h2:t bz=.map (mpV bG (szA x.doms))
 tb:TbsAt t X
 dis:∀z,TbF X z->z≠p/\z≠bm/\z≠bz
theorem MdAt.keep {t u:St}{p bm bz:Nat}{x:Pgm}{V:List (List (List UInt8))}{X:List Tab}(h:MdAt t p bm bz x V X)(hk:∀z,z=p\/z=bm\/z=bz\/TbF X z->u z=t z):MdAt u p bm bz x V X:=
 ⟨(hk p (.inl rfl)).trans h.o,(hk bm (.inr (.inl rfl))).trans h.h1,(hk bz (.inr (.inr (.inl rfl)))).trans h.h2,h.tb.keep fun z hz=>hk z (.inr (.inr (.inr hz))),h.dis⟩
theorem wn {X:List Tab}{k:Nat}{y:Tab}{z:Nat}(h:TbF (X.set k y) z):TbF X z\/y.F z:=by
 obtain⟨x,hx,hz⟩:=h
 rcases List.mem_or_eq_of_mem_set hx with e|e
 ·exact .inl ⟨x,e,hz⟩
 ·subst e;exact .inr hz
theorem MdAt.upd {t u:St}{p bm bz:Nat}{x:Pgm}{V:List (List (List UInt8))}{X:List Tab}(h:MdAt t p bm bz x V X){k:Nat}{y:Tab}(hy:X[k]?=some y){g':Nat}{l':List (List Int)}(ht:TabAt u y.b y.m g' l')(hk:Keep t u y.F)
  (hF:∀z,fW y.b y.m g' l' z->y.F z\/t z=.free):MdAt u p bm bz x V (X.set k ⟨y.b,y.m,g',l'⟩):=by
 have hyT:∀z,y.F z->TbF X z:=fun z hz=>⟨y,p_ hy,hz⟩
 have hp:t p≠.free:=by rw[h.o];simp
 have hm:t bm≠.free:=by rw[h.h1];simp
 have hz:t bz≠.free:=by rw[h.h2];simp
 refine⟨?_,?_,?_,h.tb.upd hy ht hk hF,fun z hzz=>?_⟩
 ·rw[hk p hp fun e=>(h.dis p (hyT p e)).1 rfl,h.o]
  have:(X.set k ⟨y.b,y.m,g',l'⟩).map (fun y=>[VV.ptr y.b 0])=X.map fun y=>[VV.ptr y.b 0]:=by
   rw[List.map_set]
   apply List.ext_getElem?
   intro j
   by_cases e:k=j
   ·subst e
    have hlt:k<X.length:=(n_.1 hy).1
    rw[i_ (by simpa using hlt),c_,hy]
    rfl
   ·rw[s_ e]
  rw[this]
 ·rw[hk bm hm fun e=>(h.dis bm (hyT bm e)).2.1 rfl,h.h1]
 ·rw[hk bz hz fun e=>(h.dis bz (hyT bz e)).2.2 rfl,h.h2]
 ·rcases wn hzz with e|e
  ·exact h.dis z e
  ·rcases hF z e with e|e
   ·exact h.dis z (hyT z e)
   ·exact⟨fun e'=>hp (e' ▸ e),fun e'=>hm (e' ▸ e),fun e'=>hz (e' ▸ e)⟩
abbrev Rlt:=List UInt8->List Int->Prop
abbrev Sig:=List UInt8->Int
def eG (g:Sig)(ts:List Trm):List Int:=ts.map fun t=>if t.var=true then g t.nm else t.n
def sQ (T:Rlt)(g:Sig)(a:Atm):Prop:=if a.not=true then ¬ T a.rel (eG g a.ts)else T a.rel (eG g a.ts)
def Sat (T:Rlt)(g:Sig)(b:List Atm):Prop:=∀a,a∈b->sQ T g a
def yf (Q:List Rul)(st:List UInt8->Nat)(s:Nat)(T:Rlt):Prop:=∀r,r∈Q->st r.head.rel=s->∀g,Sat T g r.body->T r.head.rel (eG g r.head.ts)
def Mdl (Q:List Rul)(st:List UInt8->Nat)(T0:Rlt):Nat->Rlt
 |0=>T0
 |s+1=>fun n row=>∀T:Rlt,(∀n row,Mdl Q st T0 s n row->T n row)->(∀n row,st n≠s->T n row->Mdl Q st T0 s n row)->yf Q st s T->T n row
def C6 (Q:List Rul)(st:List UInt8->Nat):Prop:=∀r,r∈Q->∀a,a∈r.body->(a.not=true->st a.rel<st r.head.rel)/\st a.rel<=st r.head.rel
section
variable {Q Q' : List Rul} {st : List UInt8 -> Nat} {T0 T T' : Rlt} {s : Nat} {n : List UInt8} {row : List Int}
theorem j5 (h:Mdl Q st T0 s n row):Mdl Q st T0 (s+1) n row:=fun T hT _ _=>hT n row h
theorem vA (hn:st n≠s)(h:Mdl Q st T0 (s+1) n row):Mdl Q st T0 s n row:=by
 have:=h (fun n row=>st n=s\/Mdl Q st T0 s n row) (fun _ _ h=>.inr h) (fun n row hn h=>h.resolve_left hn) (fun r hr hs g _=>.inl hs)
 exact this.resolve_left hn
theorem mH {g:Sig}{b:List Atm}(h1:∀a,a∈b->a.not=false->∀row,T a.rel row->T' a.rel row)(h2:∀a,a∈b->a.not=true->∀row,T' a.rel row->T a.rel row)(h:Sat T g b):Sat T' g b:=fun a ha=>by
 have h3:=h a ha
 unfold sQ at h3 ⊢
 by_cases hn:a.not=true
 ·rw[if_pos hn]at h3 ⊢
  exact fun h4=>h3 (h2 a ha hn _ h4)
 ·rw[if_neg hn]at h3 ⊢
  exact h1 a ha (by simpa using hn) _ h3
theorem vD (hst:C6 Q st):yf Q st s (Mdl Q st T0 (s+1)):=fun r hr hs g hg T h1 h2 h3=>by
 refine h3 r hr hs g (mH (fun a ha _ row hrow=>hrow T h1 h2 h3) (fun a ha hn row hrow=>?_) hg)
 have hlt:=(hst r hr a ha).1 hn
 exact j5 (h2 _ _ (by omega) hrow)
theorem rL (hst:C6 Q st)(h1:∀n row,Mdl Q st T0 s n row->T n row)(h2:∀n row,T n row->Mdl Q st T0 (s+1) n row){r:Rul}(hr:r∈Q)(hs:st r.head.rel=s){g:Sig}(hg:Sat T g r.body) :
  Mdl Q st T0 (s+1) r.head.rel (eG g r.head.ts):=by
 refine vD hst r hr hs g (mH (fun a ha _ row hrow=>h2 _ _ hrow) (fun a ha hn row hrow=>?_) hg)
 have hlt:=(hst r hr a ha).1 hn
 exact h1 _ _ (vA (by omega) hrow)
theorem vC (h1:∀n row,Mdl Q st T0 s n row->T n row)(h2:∀n row,T n row->Mdl Q st T0 (s+1) n row)(h3:yf Q st s T)(n:List UInt8)(row:List Int):T n row↔Mdl Q st T0 (s+1) n row:=
 ⟨h2 n row,fun h=>h T h1 (fun n row hn h=>vA hn (h2 n row h)) h3⟩
theorem xu (h:∀r,r∈Q->st r.head.rel≠s)(n:List UInt8)(row:List Int):Mdl Q st T0 (s+1) n row↔Mdl Q st T0 s n row:=
 ⟨fun h'=>h' (Mdl Q st T0 s) (fun _ _ h=>h) (fun _ _ _ h=>h) (fun r hr hs=>absurd hs (h r hr)),j5⟩
theorem Hc {s':Nat}(h:s<=s')(hm:Mdl Q st T0 s n row):Mdl Q st T0 s' n row:=by
 induction h with
 |refl=>exact hm
 |step _ ih=>exact j5 ih
end
end Go.Proofs.YteldpmgepfaiiaaGreatDoor
