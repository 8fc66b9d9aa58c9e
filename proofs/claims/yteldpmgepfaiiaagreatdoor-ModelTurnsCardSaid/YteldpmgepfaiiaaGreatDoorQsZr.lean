/- Walks of functions, and plain facts. Conditions: those in the statements. -/
import Derived.Test.YteldpmgepfaiiaaGreatDoorQsZn
import Derived.Test.YteldpmgepfaiiaaGreatDoorQsZp
set_option linter.unusedSimpArgs false
set_option linter.unusedVariables false
set_option maxRecDepth 100000
namespace Go.Proofs.YteldpmgepfaiiaaGreatDoor
open Go.RowKit
attribute [local go_sem] aH aV cH
theorem Au {rb:List Atm}{j:Nat}{a:Atm}(h:rb[j]?=some a):(rb.drop j).reverse=(rb.drop (j+1)).reverse++[a]:=by
 obtain⟨h1,rfl⟩:=n_.1 h
 rw[g_ h1,List.reverse_cons]
set_option maxHeartbeats 16000000 in
theorem rU (x:Pgm)(av:Int)(hx:PgmOk x)(t:St):SRet Tryz.prog 5 [.agg (pgC x),.int .i64 av] t (.bool true) t:=by
  have hlr:(x.rules.map ax).length=x.rules.length:=by simp
  by_cases hFL:wm x/\we x
  · obtain⟨hF,hL⟩:=hFL
    obtain⟨w1,w2⟩:=yi x hx hF
    have hds:∀d,d∈x.doms->d.size<=256:=fun d hd=>by have:=hL d hd;omega
    have w4:=fun o s=>JI x hx hds o s
    have w5:=fun oL s=>qW hx hds .no .no .no oL s
    obtain⟨c,hc0,hc1⟩:=Cq av 8 (by omega)
    have hc:uc .i64 av 255=(c:Int):=hc0
    have hc2:c<256:=hc1
    have HX:=u_ hx
    have HDS:=u_ hds
    obtain⟨_,_,hfr,_,hfb⟩:=hF
    have HFB:=u_ hfb
    simp only[pgC]at w1 w2 w4 ⊢
    clear hL hx hds hfb hc0 hc1
    refine aw Tryz.func5 rfl Tryz.ntmps5 rfl fun Q hQ hQe=>?_
    (repeat'(first|refine Ctl ?_|((with_reducible refine j_ hK ?_);clear hK hE K E)|((with_reducible refine aj (fun h=>?_) (fun h=>?_))<;>(try(exfalso;assumption)))|((first|(with_reducible first|refine ae fun K E hK hE=>?_|refine ak gm (gq _) ?_)|((with_reducible refine aO tR (w1 _) (fun a h=>?_)))|((with_reducible refine aO qu (w2 _) (fun a h=>?_)))|((with_reducible refine aO Cc (w4 _ _) (fun a h=>?_)))|((with_reducible refine ao (fun b hb=>?_));(repeat(obtain⟨_,hb⟩:=hb)))|((with_reducible refine dy (fun h=>?_) (fun h=>?_))))<;>(try simp(disch:=omega) only[go_sem,seval,hlr, *]))))
    all_goals first
      | ((first | refine ap uZ hQ ?_ | refine en uZ hQ ?_ | refine jm hQ ?_)
         exact⟨_,t,Wk.refl _,v_ _ hb,rfl,rfl⟩)
      |skip
    obtain⟨bq,hbq⟩:∃z,z=b:=⟨_,rfl⟩
    subst hbq
    rename_i hbp _ _ _ _ _ _ _ nbq _
    obtain⟨bp,hbp2⟩:∃z,z=b:=⟨_,rfl⟩
    subst hbp2
    have hSp:(t.set bp (.obj 26 [.lst (x.doms.map dmC) .no,.lst (x.decls.map az) .no,.lst (x.rules.map ax) .no])) bp=(.obj 26 [.lst (x.doms.map dmC) .no,.lst (x.decls.map az) .no,.lst (x.rules.map ax) .no]):=q_ _ _ _
    have hSq:(t.set bp (.obj 26 [.lst (x.doms.map dmC) .no,.lst (x.decls.map az) .no,.lst (x.rules.map ax) .no])) bq=.free:=by rw[k_ _ _ nbq];exact hb
    have hFS:Fg (t.set bp (.obj 26 [.lst (x.doms.map dmC) .no,.lst (x.decls.map az) .no,.lst (x.rules.map ax) .no])) t:=v_ _ hbp
    generalize t.set bp (.obj 26 [.lst (x.doms.map dmC) .no,.lst (x.decls.map az) .no,.lst (x.rules.map ax) .no])=S at *
    have HFS:=u_ hFS
    have hSpf:S bp≠.free:=by rw[hSp];simp
    clear hFS hbp hb
    refine ef (fun m env s'=>∃(i:Nat) (o:Own),i<=x.rules.length/\m+i=x.rules.length/\OwnOk S o i/\ay o bq /\
      s'=(S.own o 43 4 i).set bq (.obj 26 [.lst (x.doms.map dmC) .no,.lst (x.decls.map az) .no,.lst ((iD x.rules c i).map ax) o])/\env 1=.int .i64 av/\env 2=.ptr bp 0/\env 8=.ptr bq 0/\env 9=.int .i64 x.rules.length/\env 10=.int .i64 i) x.rules.length ?_ ?_
    · exact⟨_,GS.refl _,0,.full,by omega,by omega,b9,trivial,rfl,ab,ab,ab,ab,ab⟩
    rintro m env s' ⟨i,o,hi,hm,ho,hoq,rfl,e1,e2,e8,e9,e10⟩
    have hop:=ho.not hSpf
    by_cases hlt:i<x.rules.length
    · have hmd:(i+c) % x.rules.length<x.rules.length:=Nat.mod_lt _ (by omega)
      obtain⟨r,hr⟩:=aN hmd
      have hsx:=fc hr
      have hbl:=HFB.out r (p_ hr)
      have hsum:IntKind.i64.wrap ((i:Int)+(c:Int))=((i+c:Nat):Int):=by
        rw[show (i:Int)+(c:Int)=((i+c:Nat):Int) by omega]
        exact eo (by omega) (by omega)
      have hmod:((i+c:Nat):Int).tmod (x.rules.length:Int)=(((i+c) % x.rules.length:Nat):Int):=by
        rw[Int.tmod_eq_emod_of_nonneg (by omega)];rfl
      have HSC:=u_ (yA (l:=x.rules) (c:=c) (n:=i) hr)
      have hln:((iD x.rules c i).map ax).length=i:=by rw[a_,sh]
      have htl:=sh (l:=x.rules) (c:=c) (n:=i)
      obtain⟨⟨rn,rr,rts⟩,rb⟩:=r
      simp only[ax]at hsx
      simp only at hbl
      have hbl1:(rb.map aG).length=rb.length:=by simp
      have hsub:IntKind.i64.wrap ((rb.length:Int) - 1)=(rb.length:Int) - 1:=eo (by omega) (by omega)
      clear hr
      generalize (i+c) % x.rules.length=g at *
      have hWe:∃W,W=(S.own o 43 4 i).set bq (.obj 26 [.lst (x.doms.map dmC) .no,.lst (x.decls.map az) .no,.lst ((iD x.rules c i).map ax) o]):=⟨_,rfl⟩
      obtain⟨W,hW⟩:=hWe
      have hWp:W bp=S bp:=by rw[hW,k_ _ _ (nef hSq hSpf).1,c7 hop]
      have hWq:W bq=(.obj 26 [.lst (x.doms.map dmC) .no,.lst (x.decls.map az) .no,.lst ((iD x.rules c i).map ax) o]):=by rw[hW,q_]
      rw[hSp]at hWp
      rw[<- hW]
      have HW:=u_ hW
      have hWpf:W bp≠.free:=by rw[hWp];simp
      have hWqf:W bq≠.free:=by rw[hWq];simp
      clear hW
      (repeat'(first|refine Ctl ?_|(with_reducible first|(refine j_ hK ?_;clear hK hE K E)|(refine j_ hKh ?_;clear hKh Kh)|(refine j_ hKb (aL ?_);clear hKb Kb)|refine aq 11 [([0,1,2,3,4,5,6,7,8,9],10,[[0,1,2,3,4,5,6,7,8,9]]),([],11,[[],[]])] [] hQe fun K E hK hE=>?_)|((with_reducible refine aj (fun h=>?_) (fun h=>?_))<;>(try(exfalso;assumption)))|((first|(with_reducible first|refine ae fun K E hK hE=>?_|refine gh ?_|refine aE fun Kh hKh=>?_|refine aD fun Kh hKh=>?_|refine aM fun Kb hKb=>?_)|((with_reducible refine ao (fun b hb=>?_));(try(obtain⟨_,_⟩:=nef hb hWpf;obtain⟨_,_⟩:=nef hb hWqf))))<;>(try simp(disch:=omega) only[go_sem,seval,hlr,hc,hsum,hmod,hsx,hbl1,hsub, *]))))
      obtain⟨bx,hbxe⟩:∃z,z=b:=⟨_,rfl⟩
      subst hbxe
      rename_i n1 n2 n3 n4
      have hbx:=hb
      have hVx:(W.set bx (.obj 43 [.bool rn,.str rr,.lst (rts.map aC) .no,.lst (rb.map aG) .no])) bx=(.obj 43 [.bool rn,.str rr,.lst (rts.map aC) .no,.lst (rb.map aG) .no]):=q_ _ _ _
      have hVp:=(k_ W (.obj 43 [.bool rn,.str rr,.lst (rts.map aC) .no,.lst (rb.map aG) .no]) n1).trans hWp
      have hVq:=(k_ W (.obj 43 [.bool rn,.str rr,.lst (rts.map aC) .no,.lst (rb.map aG) .no]) n3).trans hWq
      have hVe:∃V,V=W.set bx (.obj 43 [.bool rn,.str rr,.lst (rts.map aC) .no,.lst (rb.map aG) .no]):=⟨_,rfl⟩
      obtain⟨V,hVe⟩:=hVe
      rw[<- hVe]at hVx hVp hVq ⊢
      have HVE:=u_ hVe
      have HBX:=u_ hbx
      have hVpf:V bp≠.free:=by rw[hVp];simp
      have hVqf:V bq≠.free:=by rw[hVq];simp
      have hVxf:V bx≠.free:=by rw[hVx];simp
      clear hVe hbx hb hWp hWq hWpf hWqf hop
      refine aI (fun m' env s'=>∃(j q:Nat) (o3:Own),j+q=rb.length/\j=m'/\OwnOk V o3 q/\s'=V.own o3 40 3 q /\
        env 1=.int .i64 av/\env 2=.ptr bp 0/\env 8=.ptr bq 0/\env 9=.int .i64 x.rules.length/\env 10=.int .i64 i/\env 11=.ptr bx 0/\env 12=.lst ((rb.drop j).reverse.map aG) o3/\env 13=.int .i64 ((j:Int) - 1)) rb.length ?_ ?_
      · exact⟨_,Fg.refl _,rb.length,0,.full,by omega,rfl,b9,rfl,ab,ab,ab,ab,ab,ab,by rw[G_];((try simp(disch:=assumption) only[go_sem,seval, *])<;>rfl),ab⟩
      clear e1 e2 e8 e9 e10
      rintro m' env s' ⟨j,q,o3,hj,rfl,ho3,rfl,e1,e2,e8,e9,e10,e11,e12,e13⟩
      cases j with
      |zero=>
        rw[List.drop_zero]at e12
        rw[show ((0:Nat):Int) - 1=-1 from rfl]at e13
        refine lT 12 (y:=.lst (rb.reverse.map aG) .no) e12 (Wk.lst _ _) ?_
        refine ee (Fg.own ho3) ?_
        have hbx:=HBX.out
        have hwe:=HW.out
        have hve:=HVE.out
        have nbx:¬ bx=bq:=by assumption
        rw[hwe,k_ _ _ nbx,aR]at hbx
        obtain⟨hox,hbx⟩:=hbx
        subst hve
        subst hwe
        clear hVx hVp hVq hVpf hVqf hVxf HVE HW ho3
        (repeat'(first|refine Ctl ?_|((with_reducible refine j_ hK ?_);clear hK hE K E)|((with_reducible refine aj (fun h=>?_) (fun h=>?_))<;>(try(exfalso;assumption)))|((first|(with_reducible refine ae fun K E hK hE=>?_)|((with_reducible refine cq (fun o2 ho=>?_));(try simp(disch:=assumption) only[aQ,aS,bc,cB,a_,List.length_cons,List.length_nil,Nat.zero_add,hlr,hln,htl]at ho);(repeat(obtain⟨_,ho⟩:=ho))))<;>(try simp(disch:=first|assumption|omega) only[go_sem,seval,hlr,hln,htl, *]))))
        refine⟨_,(GS.of_fg (v_ _ (by rw[k_ _ _ nbx,aR];exact⟨‹_›,hbx⟩))).trans (GS.wkobj (b:=bq) (ys:=[.lst (x.doms.map dmC) .no,.lst (x.decls.map az) .no,.lst ((iD x.rules c (i+1)).map ax) o2]) (q_ _ _ _) rfl (fun j y hy=>?_)),
          m - 1,by omega,i+1,o2,by omega,by omega,ho,‹_›,by rw[St.set_set],ab,ab,ab,ab,ab⟩
        match j with
        |0=>simp at hy;subst hy;exact⟨_,rfl,Wk.refl _,id⟩
        |1=>simp at hy;subst hy;exact⟨_,rfl,Wk.refl _,id⟩
        |2=>
          simp at hy;subst hy
          refine⟨_,rfl,?_,id⟩
          rw[HSC.out,List.map_append]
          exact Wk.refl _
        |j+3=>simp at hy
      |succ j=>
        obtain⟨y,hy⟩:∃y,rb[j]?=some y:=aN (by omega)
        have hsy:=cX hy
        have HRD:=u_ (Au hy)
        have hsubj:IntKind.i64.wrap ((j:Int) - 1)=(j:Int) - 1:=eo (by omega) (by omega)
        have hlm:((rb.drop (j+1)).reverse.map aG).length=q:=by rw[a_,List.length_reverse,D_];omega
        rw[show ((j+1:Nat):Int) - 1=(j:Int) by omega]at e13
        obtain⟨yn,yr,yts⟩:=y
        simp only[aG]at hsy
        have hpn:=ho3.not hVpf
        have hqn:=ho3.not hVqf
        have hxn:=ho3.not hVxf
        have hjl:j<rb.length:=by omega
        clear hy
        generalize hRDL:(rb.drop (j+1)).reverse.map aG=RDL at *
        (repeat'(first|refine Ctl ?_|((with_reducible refine j_ hK ?_);clear hK hE K E)|((with_reducible refine aj (fun h=>?_) (fun h=>?_))<;>(try(exfalso;assumption)))|((first|(with_reducible refine ae fun K E hK hE=>?_)|((with_reducible refine cq (fun o2 ho=>?_));(try simp(disch:=assumption) only[aQ,aS,bc,cB,a_,List.length_cons,List.length_nil,Nat.zero_add,hbl1,hsy,hlm,hsubj]at ho)))<;>(try simp(disch:=first|assumption|omega) only[go_sem,seval,hbl1,hsy,hlm,hsubj, *]))))
        all_goals exact⟨_,Fg.refl _,j,by omega,j,q+1,o2,by omega,rfl,ho,rfl,ab,ab,ab,ab,ab,ab,by rw[HRD.out,List.map_append,hRDL];((try simp(disch:=assumption) only[go_sem,seval, *])<;>rfl),ab⟩
    · obtain rfl:i=x.rules.length:=by omega
      have w6:=fun o1 o2 o3 oL s=>qW (HX.out.turn (nj x c)) HDS.out o1 o2 o3 oL s
      have hTP:=fun L M e f h1 h2=>yz (L:=L) (M:=M) (e:=e) (f:=f) (nj x c) HDS.out h1 h2
      simp only at w6
      have hFZ:Fg ((S.own o 43 4 x.rules.length).set bq (.obj 26 [.lst (x.doms.map dmC) .no,.lst (x.decls.map az) .no,.lst ((iD x.rules c x.rules.length).map ax) o])) t:=(v_ _ (by rw[aR];exact⟨hoq,hSq⟩)).trans ((Fg.own ho).trans HFS.out)
      have hZp:((S.own o 43 4 x.rules.length).set bq (.obj 26 [.lst (x.doms.map dmC) .no,.lst (x.decls.map az) .no,.lst ((iD x.rules c x.rules.length).map ax) o])) bp=.obj 26 [.lst (x.doms.map dmC) .no,.lst (x.decls.map az) .no,.lst (x.rules.map ax) .no]:=by rw[k_ _ _ (nef hSq hSpf).1,c7 hop];exact hSp
      have hZq:((S.own o 43 4 x.rules.length).set bq (.obj 26 [.lst (x.doms.map dmC) .no,.lst (x.decls.map az) .no,.lst ((iD x.rules c x.rules.length).map ax) o])) bq=.obj 26 [.lst (x.doms.map dmC) .no,.lst (x.decls.map az) .no,.lst ((iD x.rules c x.rules.length).map ax) o]:=q_ _ _ _
      generalize (S.own o 43 4 x.rules.length).set bq (.obj 26 [.lst (x.doms.map dmC) .no,.lst (x.decls.map az) .no,.lst ((iD x.rules c x.rules.length).map ax) o])=Z at *
      have HFZ:=u_ hFZ
      have HTP:=u_ hTP
      clear hFZ hTP ho hoq hop hSp hSq hSpf hi hm
      (repeat'(first|refine Ctl ?_|((with_reducible refine j_ hK ?_);clear hK hE K E)|((with_reducible refine aj (fun h=>?_) (fun h=>?_))<;>(try(exfalso;assumption)))|(((with_reducible refine ae fun K E hK hE=>?_))<;>(try simp(disch:=omega) only[go_sem,seval,hlr, *]))))
      refine aO tW (w5 _ _) (fun q1 h1=>?_)
      simp only[go_sem,seval]
      (repeat'(first|refine Ctl ?_|((with_reducible refine j_ hK ?_);clear hK hE K E)|(((with_reducible refine ae fun K E hK hE=>?_))<;>(try simp(disch:=omega) only[go_sem,seval,hlr, *]))))
      refine aO tW (w6 _ _ _ _ _) (fun q2 h2=>?_)
      have hp:=HTP.out _ _ _ _ h1 h2
      have her:=ql HDS.out h1
      obtain⟨L,e⟩:=q1
      obtain⟨M,f⟩:=q2
      simp only at hp her
      by_cases he:e=0
      · obtain⟨hf,hM⟩:=hp.1 he
        subst he
        subst hf
        subst hM
        have ws:=fun s=>ya M .no .no her s
        clear hp h1 h2
        simp only[go_sem,seval]
        (repeat'(first|refine Ctl ?_|((with_reducible refine j_ hK ?_);clear hK hE K E)|((with_reducible refine aj (fun h=>?_) (fun h=>?_))<;>(try(exfalso;assumption)))|(((with_reducible first|refine ae fun K E hK hE=>?_|refine ak Fv (ws _) ?_|refine ak gm (gq _) ?_))<;>(try simp(disch:=omega) only[go_sem,seval, *]))))
        all_goals(refine ap uZ hQ ?_)
        all_goals exact⟨_,_,Wk.refl _,HFZ.out,rfl,rfl⟩
      · have heF:(e=0)=False:=eq_false he
        have hfF:(f=0)=False:=eq_false (hp.2 he)
        clear hp h1 h2 he
        simp only[go_sem,seval]
        (repeat'(first|refine Ctl ?_|((with_reducible refine j_ hK ?_);clear hK hE K E)|((with_reducible refine aj (fun h=>?_) (fun h=>?_))<;>(try(exfalso;assumption)))|(((with_reducible first|refine ae fun K E hK hE=>?_|refine ak gm (gq _) ?_))<;>(try simp(disch:=omega) only[go_sem,seval,heF,hfF, *]))))
        all_goals(refine ap uZ hQ ?_)
        all_goals exact⟨_,_,Wk.refl _,HFZ.out,rfl,rfl⟩
  · rcases yg x hx hFL with w1|⟨w1,w2⟩
    · clear hFL hx
      simp only[pgC]at w1 ⊢
      refine aw Tryz.func5 rfl Tryz.ntmps5 rfl fun Q hQ hQe=>?_
      (repeat'(first|refine Ctl ?_|((with_reducible refine j_ hK ?_);clear hK hE K E)|((with_reducible refine aj (fun h=>?_) (fun h=>?_))<;>(try(exfalso;assumption)))|((first|(with_reducible first|refine ae fun K E hK hE=>?_|refine ak tR (w1 _) ?_|refine ak gm (gq _) ?_)|((with_reducible refine ao (fun b hb=>?_))))<;>(try simp(disch:=omega) only[go_sem,seval,hlr, *]))))
      all_goals(refine ap uZ hQ ?_)
      all_goals exact⟨_,t,Wk.refl _,v_ _ hb,rfl,rfl⟩
    · clear hFL hx
      simp only[pgC]at w1 w2 ⊢
      refine aw Tryz.func5 rfl Tryz.ntmps5 rfl fun Q hQ hQe=>?_
      (repeat'(first|refine Ctl ?_|((with_reducible refine j_ hK ?_);clear hK hE K E)|((with_reducible refine aj (fun h=>?_) (fun h=>?_))<;>(try(exfalso;assumption)))|((first|(with_reducible first|refine ae fun K E hK hE=>?_|refine ak qu (w2 _) ?_|refine ak gm (gq _) ?_)|((with_reducible refine aO tR (w1 _) (fun a h=>?_)))|((with_reducible refine ao (fun b hb=>?_)))|((with_reducible refine dy (fun h=>?_) (fun h=>?_))))<;>(try simp(disch:=omega) only[go_sem,seval,hlr, *]))))
      all_goals(refine ap uZ hQ ?_)
      all_goals exact⟨_,t,Wk.refl _,v_ _ hb,rfl,rfl⟩
end Go.Proofs.YteldpmgepfaiiaaGreatDoor
