/- Walks of functions that the claim reaches, and plain facts of them. Conditions: those in the statements. -/
import Derived.Test.YteldpmgepfaiiaaGreatDoorQrYij
import Derived.Test.YteldpmgepfaiiaaGreatDoorQrYfj
import Derived.Test.YteldpmgepfaiiaaGreatDoorQrPkj
set_option linter.unusedSimpArgs false
set_option linter.unusedVariables false
set_option maxRecDepth 100000
namespace Go.Proofs.YteldpmgepfaiiaaGreatDoor
open Go.RowKit
theorem pn {k:List UInt8}{l:List (List UInt8)}{i:Nat}(h:l[i]?=some k):ixT k l=some i↔k∉l.take i:=by
 have hlt:=(n_.1 h).1
 have hs:l=l.take i++l.drop i:=(List.take_append_drop i l).symm
 have h2:l.drop i=k::l.drop (i+1):=by
  rw[g_ hlt]
  rw[b_ hlt]at h;injection h with h;rw[h]
 rw[hs,vJ,<- hs]
 cases hx:ixT k (l.take i)with
 |some j=>
  have h3:=cN hx
  have h4:=(n_.1 h3).1
  rw[A_]at h4
  simp only[Option.some.injEq]
  constructor
  ·intro e;omega
  ·intro e;exact absurd (p_ h3) e
 |none=>
  have h3:=gG.1 hx
  rw[h2]
  simp only[ixT,if_true,Option.map_some,Nat.zero_add,A_]
  constructor
  ·intro _;exact h3
  ·intro _;congr 1;omega
theorem gY {l:List (List UInt8)}{i:Nat}{k:List UInt8}(h:l[i]?=some k):(l.take (i+1)).Nodup↔(l.take i).Nodup/\k∉l.take i:=by
 rw[b9 h,List.nodup_append]
 constructor
 ·rintro⟨h1,_,h3⟩
  exact⟨h1,fun hk=>h3 _ hk _ (by simp) rfl⟩
 ·rintro⟨h1,h2⟩
  refine⟨h1,by simp,?_⟩
  intro a ha b hb e
  rw[e_]at hb
  subst hb;subst e
  exact h2 ha
theorem pg {l:List (List UInt8)}{i:Nat}(h:¬ (l.take i).Nodup):¬ l.Nodup:=fun hn=>h (hn.sublist (List.take_sublist _ _))
theorem rK {l:List (List UInt8)}{i:Nat}{k:List UInt8}(h:k∈l.take i):∃j,j<i/\l[j]?=some k:=by
 obtain⟨j,hj,e⟩:=List.getElem_of_mem h
 rw[A_]at hj
 refine⟨j,by omega,?_⟩
 rw[List.getElem_take]at e
 rw[b_ (by omega),e]
theorem rJ {l:List (List UInt8)}{i j:Nat}{k:List UInt8}(hj:j<i)(h:l[j]?=some k):k∈l.take i:=by
 refine p_ (i:=j) ?_
 rw[List.getElem?_take,if_pos hj];exact h
set_option maxHeartbeats 8000000 in
theorem Dk (x:Pgm)(hx:PgmOk x)(t:St):SRet Tryz.prog 108 [.agg (pgC x)] t (.int .i64 (cD x)) t:=by
  have w1:=fun s=>Bj x hx s
  have w2:=fun n s=>uM x n hx.1 s
  have w3:=fun n s=>lg x n hx.2.1 s
  obtain⟨ds,cs,rs⟩:=x
  obtain⟨hd,hc,hr,hdd,hdc,_⟩:=hx
  simp only at hd hc hr hdd hdc w2 w3
  have hlr:(ds.map dmC).length=ds.length:=by simp
  have hle:(cs.map aB).length=cs.length:=by simp
  cases hB:cE ⟨ds,cs,rs⟩with
  |false=>
    have he:cD ⟨ds,cs,rs⟩=1:=by unfold cD;rw[if_pos hB]
    rw[hB]at w1
    simp only[pgC]at w1 ⊢
    rw[he]
    clear he hB
    refine bh Tryz.func108 rfl Tryz.ntmps108 rfl fun Q hQ hQe=>?_
    (repeat'(first|refine Ctl ?_|((with_reducible refine j_ hK ?_);clear hK hE K E)|((with_reducible refine aj (fun h=>?_) (fun h=>?_))<;>(try(exfalso;assumption)))|((first|(with_reducible first|refine ae fun K E hK hE=>?_|refine ak AM (w1 _) ?_)|((with_reducible refine ao (fun b hb=>?_))))<;>(try simp(disch:=omega) only[go_sem,seval, *]))))
    all_goals(refine ap iC hQ ?_)
    all_goals(refine⟨_,_,Wk.of_eq ?_,?_,rfl,rfl⟩)
    all_goals first|rfl|(exact bj)
  |true=>
    rw[hB]at w1
    have hread:cD ⟨ds,cs,rs⟩=if ds.all jz=false then 1 else if ¬ (ds.map (·.name)).Nodup\/¬ (cs.map (·.name)).Nodup then 120 else if cs.all (kwn ds)=false then 121 else 0:=by
      unfold cD
      simp only[hB,qP,vI,Bool.not_eq_true',Bool.true_eq_false,if_false]
    generalize cD ⟨ds,cs,rs⟩=RE at hread
    have HRD:=u_ hread
    have HDC:=u_ hdc
    clear hread hB hdc
    simp only[pgC]at w1 w2 w3 ⊢
    refine bh Tryz.func108 rfl Tryz.ntmps108 rfl fun Q hQ hQe=>?_
    (repeat'(first|refine Ctl ?_|((with_reducible refine j_ hK ?_);clear hK hE K E)|((with_reducible refine aj (fun h=>?_) (fun h=>?_))<;>(try(exfalso;assumption)))|((first|(with_reducible first|refine ae fun K E hK hE=>?_|refine ak AM (w1 _) ?_)|((with_reducible refine ao (fun b hb=>?_))))<;>(try simp(disch:=omega) only[go_sem,seval, *]))))
    obtain⟨pp,hpp⟩:∃x,x=b:=⟨_,rfl⟩
    subst hpp
    have hSb:(t.set pp (.obj 26 [.lst (ds.map dmC) .no,.lst (cs.map aB) .no,.lst (rs.map az) .no])) pp=.obj 26 [.lst (ds.map dmC) .no,.lst (cs.map aB) .no,.lst (rs.map az) .no]:=q_ _ _ _
    have hF:Fg (t.set pp (.obj 26 [.lst (ds.map dmC) .no,.lst (cs.map aB) .no,.lst (rs.map az) .no])) t:=v_ _ hb
    generalize t.set pp (.obj 26 [.lst (ds.map dmC) .no,.lst (cs.map aB) .no,.lst (rs.map az) .no])=S at *
    have HF:=u_ hF
    clear hF hb
    refine aI (fun m env s'=>∃i:Nat,i<=ds.length/\m+i=ds.length/\s'=S/\Hid ((ds.take i).all jz=true)/\env 1=.ptr pp 0/\env 3=.int .i64 i) ds.length ?_ ?_
    · exact⟨S,Fg.refl _,0,by omega,by omega,rfl,u_ rfl,ab,ab⟩
    rintro m env s' ⟨i,hi,hm,rfl,HE,e1,e3⟩
    by_cases hlt:i<ds.length
    · obtain⟨d,hd0⟩:=aO hlt
      have hsx:=fR hd0
      have HD:=u_ hd0
      clear hd0
      obtain⟨dn,dz⟩:=d
      by_cases hz:jz ⟨dn,dz⟩=true
      · have hz2:=hz
        simp only[jz,Bool.not_eq_true',Bool.or_eq_false_iff,decide_eq_false_iff_not]at hz2
        obtain⟨hz3,hz4⟩:=hz2
        have HZ:=u_ hz
        clear hz
        (repeat'(first|refine Ctl ?_|((with_reducible refine j_ hK ?_);clear hK hE K E)|((with_reducible refine aj (fun h=>?_) (fun h=>?_))<;>(try(exfalso;assumption)))|(((with_reducible refine ae fun K E hK hE=>?_))<;>(try simp(disch:=omega) only[go_sem,seval,hlr,hsx,dmC, *]))))
        exact⟨s',Fg.refl _,m - 1,by omega,i+1,by omega,by omega,rfl,u_ (bB HE.out HD.out HZ.out),ab,ab⟩
      · have hz2:=hz
        simp only[jz,Bool.not_eq_true',Bool.or_eq_false_iff,decide_eq_false_iff_not]at hz2
        have hall:ds.all jz=false:=bJ HD.out (by simpa using hz)
        have hE:RE=1:=by rw[HRD.out,if_pos hall]
        subst hE
        clear hz hall
        (repeat'(first|refine Ctl ?_|((with_reducible refine j_ hK ?_);clear hK hE K E)|((with_reducible refine aj (fun h=>?_) (fun h=>?_))<;>(try(exfalso;first|assumption|omega)))|((first|(with_reducible refine ae fun K E hK hE=>?_)|((with_reducible refine dC (fun h=>?_) (fun h=>?_))))<;>(try simp(disch:=omega) only[go_sem,seval,hlr,hsx,dmC, *]))))
        all_goals first
          |(exfalso;omega)
          | ((first | refine ap iC hQ ?_ | refine eE iC hQ ?_ | refine kB hQ ?_)
             (refine⟨_,_,Wk.of_eq ?_,?_,rfl,rfl⟩)
             · rfl
             · exact HF.out)
    · have hall:=HE.out
      rw[B_ (by omega)]at hall
      have hr2:=HRD.out
      rw[if_neg (by rw[hall];simp)]at hr2
      have HRD2:=u_ hr2
      clear hr2 HRD hall HE
      (repeat'(first|refine Ctl ?_|((with_reducible refine j_ hK ?_);clear hK hE K E)|((with_reducible refine aj (fun h=>?_) (fun h=>?_))<;>(try(exfalso;assumption)))|(((with_reducible refine ae fun K E hK hE=>?_))<;>(try simp(disch:=omega) only[go_sem,seval,hlr, *]))))
      refine aI (fun m env s2=>∃i:Nat,i<=ds.length/\m+i=ds.length/\s2=s'/\Hid (((ds.map (·.name)).take i).Nodup)/\env 1=.ptr pp 0/\env 4=.int .i64 i) ds.length ?_ ?_
      · exact⟨_,Fg.refl _,0,by omega,by omega,rfl,u_ (by simp),ab,ab⟩
      clear e1 e3 env hm hi hlt m i
      rintro m env s2 ⟨i,hi,hm,rfl,HN,e1,e4⟩
      by_cases hlt:i<ds.length
      · obtain⟨d,hd0⟩:=aO hlt
        have hsx:=fR hd0
        have hnm:(ds.map (·.name))[i]?=some d.name:=by rw[c_,hd0];rfl
        have HNM:=u_ hnm
        clear hd0 hnm
        obtain⟨dn,dz⟩:=d
        (repeat'(first|refine Ctl ?_|((with_reducible refine j_ hK ?_);clear hK hE K E)|((with_reducible refine aj (fun h=>?_) (fun h=>?_))<;>(try(exfalso;assumption)))|(((with_reducible refine ae fun K E hK hE=>?_))<;>(try simp(disch:=omega) only[go_sem,seval,hlr, *]))))
        refine aI (fun m' env s3=>∃k:Nat,k<=i/\m'+k=i/\s3=s2/\Hid (∀j,j<k->(ds.map (·.name))[j]?≠some dn)/\env 1=.ptr pp 0/\env 4=.int .i64 i/\env 5=.int .i64 k) i ?_ ?_
        · exact⟨_,Fg.refl _,0,by omega,by omega,rfl,u_ (fun j hj=>by omega),ab,ab,ab⟩
        clear e1 e4 env
        rintro m' env s3 ⟨k,hk,hm',rfl,HK,e1,e4,e5⟩
        by_cases hlk:k<i
        · obtain⟨c,hc0⟩:=aO (l:=ds) (i:=k) (by omega)
          have hsy:=fR hc0
          have hcm:(ds.map (·.name))[k]?=some c.name:=by rw[c_,hc0];rfl
          have HCM:=u_ hcm
          clear hc0 hcm
          obtain⟨cn,cz⟩:=c
          by_cases hcn:dn=cn
          · have hE:RE=120:=by
              rw[HRD2.out,if_pos]
              refine .inl (pg (i:=i+1) ?_)
              rw[gY HNM.out]
              rintro⟨_,h2⟩
              exact h2 (rJ hlk (by rw[HCM.out];simp only;rw[hcn]))
            subst hE
            subst hcn
            (repeat'(first|refine Ctl ?_|(with_reducible first|(refine j_ hK ?_;clear hK hE K E)|(refine j_ hKh ?_;clear hKh Kh)|refine au 14 [] [0,1,2,3,4,5,6,7,8,9,10,11,12] hQe fun K E hK hE=>?_)|((with_reducible refine aj (fun h=>?_) (fun h=>?_))<;>(try(exfalso;assumption)))|(((with_reducible first|refine ae fun K E hK hE=>?_|refine aC fun Kh hKh=>?_))<;>(try simp(disch:=omega) only[go_sem,seval,hlr,hsx,hsy,dmC, *]))))
            all_goals(refine ap iC hQ ?_)
            all_goals(refine⟨_,_,Wk.of_eq ?_,?_,rfl,rfl⟩)
            all_goals first|rfl|exact HF.out
          · have hcf:(dn=cn)=False:=eq_false hcn
            have HCN:=u_ hcn
            clear hcn
            (repeat'(first|refine Ctl ?_|(with_reducible first|(refine j_ hK ?_;clear hK hE K E)|(refine j_ hKh ?_;clear hKh Kh)|refine au 14 [] [0,1,2,3,4,5,6,7,8,9,10,11,12] hQe fun K E hK hE=>?_)|((with_reducible refine aj (fun h=>?_) (fun h=>?_))<;>(try(exfalso;assumption)))|(((with_reducible first|refine ae fun K E hK hE=>?_|refine aC fun Kh hKh=>?_))<;>(try simp(disch:=omega) only[go_sem,seval,hlr,hsx,hsy,dmC, *]))))
            refine⟨_,Fg.refl _,m' - 1,by omega,k+1,by omega,by omega,rfl,u_ (fun j hj=>?_),ab,ab,ab⟩
            by_cases hjk:j=k
            · subst hjk
              rw[HCM.out]
              intro e
              injection e with e
              exact HCN.out e.symm
            · exact HK.out j (by omega)
        · (repeat'(first|refine Ctl ?_|((with_reducible refine j_ hK ?_);clear hK hE K E)|((with_reducible refine aj (fun h=>?_) (fun h=>?_))<;>(try(exfalso;assumption)))|(((with_reducible refine ae fun K E hK hE=>?_))<;>(try simp(disch:=omega) only[go_sem,seval,hlr, *]))))
          refine⟨_,Fg.refl _,m - 1,by omega,i+1,by omega,by omega,rfl,u_ ?_,ab,ab⟩
          rw[gY HNM.out]
          refine⟨HN.out,fun hmem=>?_⟩
          obtain⟨j,hj,e⟩:=rK hmem
          exact HK.out j (by omega) e
      · have hdn:=HN.out
        rw[B_ (by simp;omega)]at hdn
        have HDN:=u_ hdn
        clear hdn HN
        (repeat'(first|refine Ctl ?_|((with_reducible refine j_ hK ?_);clear hK hE K E)|((with_reducible refine aj (fun h=>?_) (fun h=>?_))<;>(try(exfalso;assumption)))|(((with_reducible refine ae fun K E hK hE=>?_))<;>(try simp(disch:=omega) only[go_sem,seval,hlr, *]))))
        refine aI (fun m env s3=>∃i:Nat,i<=cs.length/\m+i=cs.length/\s3=s2/\Hid (((cs.map (·.name)).take i).Nodup)/\env 1=.ptr pp 0/\env 6=.int .i64 i) cs.length ?_ ?_
        · exact⟨_,Fg.refl _,0,by omega,by omega,rfl,u_ (by simp),ab,ab⟩
        clear e1 e4 env hm hi hlt m i
        rintro m env s3 ⟨i,hi,hm,rfl,HN,e1,e6⟩
        by_cases hlt:i<cs.length
        · obtain⟨d,hd0⟩:=aO hlt
          have hsx:=c9 hd0
          have hnm:(cs.map (·.name))[i]?=some d.name:=by rw[c_,hd0];rfl
          have HNM:=u_ hnm
          clear hd0 hnm
          obtain⟨dn,dz⟩:=d
          by_cases hrz:ey cs dn=(i:Int)
          · have HRZ:=u_ hrz
            have hit:((ey cs dn=(i:Int))=True):=eq_true hrz
            (repeat'(first|refine Ctl ?_|(with_reducible first|(refine j_ hK ?_;clear hK hE K E)|(refine j_ hKh ?_;clear hKh Kh)|(refine j_ hKb (aK ?_);clear hKb Kb)|refine au 19 [([0,1,2,3,4,5,6,8],7,[[8]])] [9] hQe fun K E hK hE=>?_)|((with_reducible refine aj (fun h=>?_) (fun h=>?_))<;>(try(exfalso;assumption)))|(((with_reducible first|refine ae fun K E hK hE=>?_|refine ak fb (w3 _ _) ?_|refine aE fun Kh hKh=>?_|refine aC fun Kh hKh=>?_|refine aL fun Kb hKb=>?_))<;>(try simp(disch:=omega) only[go_sem,seval,hle,hsx,aB, *]))))
            refine⟨_,Fg.refl _,m - 1,by omega,i+1,by omega,by omega,rfl,u_ ?_,ab,ab⟩
            rw[gY HNM.out]
            refine⟨HN.out,(pn HNM.out).1 ?_⟩
            have hz:=HRZ.out
            unfold ey cW at hz
            cases hx:ixT dn (cs.map (·.name))with
            |none=>rw[hx]at hz;simp only at hz;omega
            |some j=>rw[hx]at hz;simp only at hz;congr 1;omega
          · have hE:RE=120:=by
              rw[HRD2.out,if_pos]
              refine .inr (pg (i:=i+1) ?_)
              rw[gY HNM.out]
              rintro⟨_,h2⟩
              apply hrz
              unfold ey cW
              rw[(pn HNM.out).2 h2]
            subst hE
            have hif:((ey cs dn=(i:Int))=False):=eq_false hrz
            (repeat'(first|refine Ctl ?_|(with_reducible first|(refine j_ hK ?_;clear hK hE K E)|(refine j_ hKh ?_;clear hKh Kh)|(refine j_ hKb (aK ?_);clear hKb Kb)|refine au 19 [([0,1,2,3,4,5,6,8],7,[[8]])] [9] hQe fun K E hK hE=>?_)|((with_reducible refine aj (fun h=>?_) (fun h=>?_))<;>(try(exfalso;assumption)))|(((with_reducible first|refine ae fun K E hK hE=>?_|refine ak fb (w3 _ _) ?_|refine aE fun Kh hKh=>?_|refine aC fun Kh hKh=>?_|refine aL fun Kb hKb=>?_))<;>(try simp(disch:=omega) only[go_sem,seval,hle,hsx,aB, *]))))
            all_goals(refine ap iC hQ ?_)
            all_goals(refine⟨_,_,Wk.of_eq ?_,?_,rfl,rfl⟩)
            all_goals first|rfl|exact HF.out
        · have hcn:=HN.out
          rw[B_ (by simp;omega)]at hcn
          have hr3:=HRD2.out
          rw[if_neg (by rintro(h|h);exact h HDN.out;exact h hcn)]at hr3
          have HRD3:=u_ hr3
          clear hcn HN hr3 HRD2 HDN
          (repeat'(first|refine Ctl ?_|((with_reducible refine j_ hK ?_);clear hK hE K E)|((with_reducible refine aj (fun h=>?_) (fun h=>?_))<;>(try(exfalso;assumption)))|(((with_reducible refine ae fun K E hK hE=>?_))<;>(try simp(disch:=omega) only[go_sem,seval,hle, *]))))
          refine aI (fun m env s4=>∃i:Nat,i<=cs.length/\m+i=cs.length/\s4=s3/\Hid ((cs.take i).all (kwn ds)=true)/\env 1=.ptr pp 0/\env 7=.int .i64 i) cs.length ?_ ?_
          · exact⟨_,Fg.refl _,0,by omega,by omega,rfl,u_ (by simp),ab,ab⟩
          clear e1 e6 env hm hi hlt m i
          rintro m env s4 ⟨i,hi,hm,rfl,HN,e1,e7⟩
          by_cases hlt:i<cs.length
          · obtain⟨d,hd0⟩:=aO hlt
            have hsx:=c9 hd0
            have hdl:=(HDC.out d (p_ hd0)).2.1
            have HD:=u_ hd0
            clear hd0
            obtain⟨dn,dz⟩:=d
            simp only at hdl
            have hlz:(aw dz).length=dz.length:=by simp[aw]
            (repeat'(first|refine Ctl ?_|((with_reducible refine j_ hK ?_);clear hK hE K E)|((with_reducible refine aj (fun h=>?_) (fun h=>?_))<;>(try(exfalso;assumption)))|(((with_reducible refine ae fun K E hK hE=>?_))<;>(try simp(disch:=omega) only[go_sem,seval,hle,hsx,aB, *]))))
            refine aI (fun m' env s5=>∃k:Nat,k<=dz.length/\m'+k=dz.length/\s5=s4/\Hid ((dz.take k).all (fun s=>!decide (dM ds s=0))=true)/\env 1=.ptr pp 0/\env 7=.int .i64 i/\env 8=.int .i64 k) dz.length ?_ ?_
            · exact⟨_,Fg.refl _,0,by omega,by omega,rfl,u_ (by simp),ab,ab,ab⟩
            clear e1 e7 env
            rintro m' env s5 ⟨k,hk,hm',rfl,HK,e1,e7,e8⟩
            by_cases hlk:k<dz.length
            · obtain⟨c,hc0⟩:=aO hlk
              have hsy:=c8 hc0
              have HC:=u_ hc0
              clear hc0
              by_cases hz0:dM ds c=0
              · have hE:RE=121:=by
                  rw[HRD3.out,if_pos]
                  exact bJ HD.out (by unfold kwn;exact bJ HC.out (by simp[hz0]))
                subst hE
                (repeat'(first|refine Ctl ?_|(with_reducible first|(refine j_ hK ?_;clear hK hE K E)|(refine j_ hKh ?_;clear hKh Kh)|(refine j_ hKb (aK ?_);clear hKb Kb)|refine au 27 [([0,1,2,3,4,5,6,7,8,9],10,[[]])] [11] hQe fun K E hK hE=>?_)|((with_reducible refine aj (fun h=>?_) (fun h=>?_))<;>(try(exfalso;assumption)))|(((with_reducible first|refine ae fun K E hK hE=>?_|refine ak lI (w2 _ _) ?_|refine aE fun Kh hKh=>?_|refine aC fun Kh hKh=>?_|refine aL fun Kb hKb=>?_))<;>(try simp(disch:=omega) only[go_sem,seval,hle,hsx,aB,hlz,hsy,hz0, *]))))
                all_goals(refine ap iC hQ ?_)
                all_goals(refine⟨_,_,Wk.of_eq ?_,?_,rfl,rfl⟩)
                all_goals first|rfl|exact HF.out
              · have hzf:(dM ds c=0)=False:=eq_false hz0
                have HZ:=u_ hz0
                clear hz0
                (repeat'(first|refine Ctl ?_|(with_reducible first|(refine j_ hK ?_;clear hK hE K E)|(refine j_ hKh ?_;clear hKh Kh)|(refine j_ hKb (aK ?_);clear hKb Kb)|refine au 27 [([0,1,2,3,4,5,6,7,8,9],10,[[]])] [11] hQe fun K E hK hE=>?_)|((with_reducible refine aj (fun h=>?_) (fun h=>?_))<;>(try(exfalso;assumption)))|(((with_reducible first|refine ae fun K E hK hE=>?_|refine ak lI (w2 _ _) ?_|refine aE fun Kh hKh=>?_|refine aC fun Kh hKh=>?_|refine aL fun Kb hKb=>?_))<;>(try simp(disch:=omega) only[go_sem,seval,hle,hsx,aB,hlz,hsy, *]))))
                exact⟨_,Fg.refl _,m' - 1,by omega,k+1,by omega,by omega,rfl,u_ (bB HK.out HC.out (by simp[HZ.out])),ab,ab,ab⟩
            · have hall:=HK.out
              rw[B_ (by omega)]at hall
              have HALL:=u_ hall
              clear hall HK
              (repeat'(first|refine Ctl ?_|((with_reducible refine j_ hK ?_);clear hK hE K E)|((with_reducible refine aj (fun h=>?_) (fun h=>?_))<;>(try(exfalso;assumption)))|(((with_reducible refine ae fun K E hK hE=>?_))<;>(try simp(disch:=omega) only[go_sem,seval,hle,hsx,aB,hlz, *]))))
              exact⟨_,Fg.refl _,m - 1,by omega,i+1,by omega,by omega,rfl,u_ (bB HN.out HD.out HALL.out),ab,ab⟩
          · have hall:=HN.out
            rw[B_ (by omega)]at hall
            have hE:RE=0:=by rw[HRD3.out,if_neg (by rw[hall];simp)]
            subst hE
            clear hall HN
            (repeat'(first|refine Ctl ?_|((with_reducible refine j_ hK ?_);clear hK hE K E)|((with_reducible refine aj (fun h=>?_) (fun h=>?_))<;>(try(exfalso;assumption)))|(((with_reducible refine ae fun K E hK hE=>?_))<;>(try simp(disch:=omega) only[go_sem,seval,hle, *]))))
            all_goals(refine ap iC hQ ?_)
            all_goals(refine⟨_,_,Wk.of_eq ?_,?_,rfl,rfl⟩)
            all_goals first|rfl|exact HF.out
theorem zX {n:List UInt8}{l:List (List UInt8)}(h:ixT n l=none):ixZ n l=-1:=by unfold ixZ;rw[h]
theorem zW {n:List UInt8}{l:List (List UInt8)}{i:Nat}(h:ixT n l=some i):ixZ n l=(i:Int):=by unfold ixZ;rw[h]
def ScO (T:St)(o1 o2:Own)(X:Scp):St:=(T.own o1 9 1 X.vs.length).own o2 9 1 X.ds.length
def ScK (T:St)(o1 o2:Own)(X:Scp):Prop:=OwnOk T o1 X.vs.length/\OwnOk (T.own o1 9 1 X.vs.length) o2 X.ds.length
def scC (X:Scp)(o1 o2:Own):List VV:=[.lst (aw X.vs) o1,.lst (aw X.ds) o2]
def RaQ (T:St)(r:Except Int Scp):SEnd->St->Prop:=fun w u=>
 match r with
 |.ok Y=>∃p1 p2,w=.ret (.tup [.agg (scC Y p1 p2),.int .i64 0])/\u=ScO T p1 p2 Y/\ScK T p1 p2 Y/\WfS Y
 |.error e=>e≠0/\∃(Z:Scp) (p1 p2:Own),w=.ret (.tup [.agg (scC Z p1 p2),.int .i64 e])/\u=T
theorem Iw {s:St}{b1 b2 b3 b4:Nat}{c1 c2 c3 c4:Cell}(h3:¬ b3=b2)(h4:¬ b4=b2):(((s.set b1 c1).set b2 c2).set b3 c3).set b4 c4=(((s.set b1 c1).set b3 c3).set b4 c4).set b2 c2:=by
 rw[cu (x:=b2) (y:=b3) (fun e=>h3 e.symm),cu (x:=b2) (y:=b4) (fun e=>h4 e.symm)]
attribute [local go_sem] dp gv aN aX cG
set_option maxHeartbeats 8000000 in
theorem jk (T:St)(x:Pgm)(X:Scp)(o1 o2 o0:Own)(a:Atm)(hK:ScK T o1 o2 X)(hx:x.doms.length<=140737488355328)(hc:x.decls.length<=140737488355328)(hW:WfS X)(ha:a.ts.length<=100000)(hX:X.vs.length<=10000000) :
  SCalls Tryz.prog 82 [.agg (pgC x),.agg (scC X o1 o2),.agg [.bool a.not,.str a.rel,.lst (a.ts.map aA) o0]] (ScO T o1 o2 X) (RaQ T (ce x X a)):=by
 have w2:=fun n s=>uM x n hx s
 have w3:=fun n s=>lg x n hc s
 obtain⟨an,ar,ats⟩:=a
 obtain⟨xds,xcs,xrs⟩:=x
 obtain⟨hK1,hK2⟩:=hK
 simp only at ha hx hc w2 w3
 have hle:(xcs.map aB).length=xcs.length:=by simp
 have hla:(ats.map aA).length=ats.length:=by simp
 generalize hR:ce ⟨xds,xcs,xrs⟩ X ⟨an,ar,ats⟩=R
 unfold ce at hR
 simp only at hR
 simp only[pgC,scC]at w2 w3 ⊢
 cases hk:cW xcs ar with
 |none=>
  rw[hk]at hR
  simp only at hR
  have hrz:ey xcs ar=-1:=by unfold ey;rw[hk]
  clear hk
  subst hR
  have hFT:Fg (ScO T o1 o2 X) T:=(Fg.own hK2).trans (Fg.own hK1)
  generalize ScO T o1 o2 X=S at *
  have HFT:=u_ hFT
  clear hFT
  refine bh Tryz.func82 rfl Tryz.ntmps82 rfl fun Q hQ hQe=>?_
  (repeat'(first|refine Ctl ?_|((with_reducible refine j_ hK ?_);clear hK hE K E)|((with_reducible refine aj (fun h=>?_) (fun h=>?_))<;>(try(exfalso;assumption)))|((first|(with_reducible first|refine ae fun K E hK hE=>?_|refine ak fb (w3 _ _) ?_)|((with_reducible refine ao (fun b hb=>?_));(repeat(obtain⟨_,hb⟩:=hb))))<;>(try simp(disch:=omega) only[go_sem,seval,hrz, *]))))
  all_goals(refine ap oU hQ ?_)
  exact⟨_,T,Wk.refl _,(bj:Fg _ S).trans HFT.out,by decide,X,o1,o2,rfl,rfl⟩
 |some k=>
  rw[hk]at hR
  simp only at hR
  have hrz:ey xcs ar=(k:Int):=by unfold ey;rw[hk]
  obtain⟨dc,hdc,_⟩:∃dc,xcs[k]?=some dc/\True:=by
   have:=cN hk
   rw[c_]at this
   obtain⟨dc,h,_⟩:=Option.map_eq_some_iff.1 this
   exact⟨dc,h,trivial⟩
  rw[hdc]at hR
  simp only at hR
  have hkl:=(n_.1 hdc).1
  have hsd:=c9 hdc
  obtain⟨dn,dd⟩:=dc
  simp only at hR
  have hsl:(aw dd).length=dd.length:=by simp[aw]
  clear hk hdc
  by_cases hlen:ats.length=dd.length
  ·rw[if_neg (by simpa using hlen)]at hR
   have hli:((ats.length:Int)=(dd.length:Int))=True:=eq_true (by omega)
   unfold ScO
   have hWX:X.ds.length=X.vs.length:=hW
   refine bh Tryz.func82 rfl Tryz.ntmps82 rfl fun Q hQ hQe=>?_
   (repeat'(first|refine Ctl ?_|(with_reducible first|(refine j_ hK ?_;clear hK hE K E)|(refine j_ hKh ?_;clear hKh Kh)|refine au 4 [] [0,1,2,3,4,5,6,7,8,9,10] hQe fun K E hK hE=>?_)|((with_reducible refine aj (fun h=>?_) (fun h=>?_))<;>(try(exfalso;first|assumption|omega)))|((first|(with_reducible first|refine ae fun K E hK hE=>?_|refine ak fb (w3 _ _) ?_|refine aC fun Kh hKh=>?_)|((with_reducible refine ao (fun b hb=>?_));(repeat(obtain⟨_,hb⟩:=hb));(try(rw[aR,aR]at hb;obtain⟨_,_,hb⟩:=hb))))<;>(try simp(disch:=omega) only[go_sem,seval,hrz,hle,hla,hsd,aB,hsl, *]))))
   rename_i bp p1 p2 hbp bx x1 x2 x3 x4 hbx ba a1 a2 a3 a4 a5 a6 hba r1 r2 r3 r4 r5 r6 r7 r8 hk0
   obtain⟨br,hbr⟩:∃z,z=b:=⟨_,rfl⟩
   subst hbr
   have hst:(((((T.own o1 9 1 X.vs.length).own o2 9 1 X.vs.length).set bp (.obj 26 [.lst (xds.map dmC) .no,.lst (xcs.map aB) .no,.lst (xrs.map az) .no])).set bx (.obj 114 [.lst (aw X.vs) o1,.lst (aw X.ds) o2])).set ba (.obj 40 [.bool an,.str ar,.lst (ats.map aA) o0])).set br (.obj 114 [.lst [] .full,.lst [] .full])=(((((T.set bp (.obj 26 [.lst (xds.map dmC) .no,.lst (xcs.map aB) .no,.lst (xrs.map az) .no])).set ba (.obj 40 [.bool an,.str ar,.lst (ats.map aA) o0])).set br (.obj 114 [.lst [] .full,.lst [] .full])).own o1 9 1 X.vs.length).own o2 9 1 X.vs.length).set bx (.obj 114 [.lst (aw X.vs) o1,.lst (aw X.ds) o2]):=by
    rw[aY r8,aY a6,aY p2,aY r7,aY a5,aY p1]
    exact Iw a1 r3
   rw[hst]
   have hB1:OwnOk (((T.set bp (.obj 26 [.lst (xds.map dmC) .no,.lst (xcs.map aB) .no,.lst (xrs.map az) .no])).set ba (.obj 40 [.bool an,.str ar,.lst (ats.map aA) o0])).set br (.obj 114 [.lst [] .full,.lst [] .full])) o1 X.vs.length:=by
    rw[aU,aU,aU];exact⟨r8,a6,p2,hK1⟩
   have hB2:OwnOk ((((T.set bp (.obj 26 [.lst (xds.map dmC) .no,.lst (xcs.map aB) .no,.lst (xrs.map az) .no])).set ba (.obj 40 [.bool an,.str ar,.lst (ats.map aA) o0])).set br (.obj 114 [.lst [] .full,.lst [] .full])).own o1 9 1 X.vs.length) o2 X.vs.length:=by
    rw[aY r8,aY a6,aY p2,aU,aU,aU];rw[hWX]at hK2;exact⟨r7,a5,p1,hK2⟩
   have hBp:(((T.set bp (.obj 26 [.lst (xds.map dmC) .no,.lst (xcs.map aB) .no,.lst (xrs.map az) .no])).set ba (.obj 40 [.bool an,.str ar,.lst (ats.map aA) o0])).set br (.obj 114 [.lst [] .full,.lst [] .full])) bp=(.obj 26 [.lst (xds.map dmC) .no,.lst (xcs.map aB) .no,.lst (xrs.map az) .no]):=by rw[k_ _ _ r6,k_ _ _ a4,q_]
   have hBa:(((T.set bp (.obj 26 [.lst (xds.map dmC) .no,.lst (xcs.map aB) .no,.lst (xrs.map az) .no])).set ba (.obj 40 [.bool an,.str ar,.lst (ats.map aA) o0])).set br (.obj 114 [.lst [] .full,.lst [] .full])) ba=(.obj 40 [.bool an,.str ar,.lst (ats.map aA) o0]):=by rw[k_ _ _ r2,q_]
   have hBr:(((T.set bp (.obj 26 [.lst (xds.map dmC) .no,.lst (xcs.map aB) .no,.lst (xrs.map az) .no])).set ba (.obj 40 [.bool an,.str ar,.lst (ats.map aA) o0])).set br (.obj 114 [.lst [] .full,.lst [] .full])) br=(.obj 114 [.lst [] .full,.lst [] .full]):=q_ _ _ _
   have hBx:(((T.set bp (.obj 26 [.lst (xds.map dmC) .no,.lst (xcs.map aB) .no,.lst (xrs.map az) .no])).set ba (.obj 40 [.bool an,.str ar,.lst (ats.map aA) o0])).set br (.obj 114 [.lst [] .full,.lst [] .full])) bx=.free:=by rw[k_ _ _ r4,k_ _ _ a2,k_ _ _ x1];exact hbx
   have hF:Fg (((T.set bp (.obj 26 [.lst (xds.map dmC) .no,.lst (xcs.map aB) .no,.lst (xrs.map az) .no])).set ba (.obj 40 [.bool an,.str ar,.lst (ats.map aA) o0])).set br (.obj 114 [.lst [] .full,.lst [] .full])) T:=bj
   generalize (((T.set bp (.obj 26 [.lst (xds.map dmC) .no,.lst (xcs.map aB) .no,.lst (xrs.map az) .no])).set ba (.obj 40 [.bool an,.str ar,.lst (ats.map aA) o0])).set br (.obj 114 [.lst [] .full,.lst [] .full]))=B at *
   have HF:=u_ hF
   have HTB:=u_ hb
   have HTX:=u_ hbx
   have hBpf:B bp≠.free:=by rw[hBp];simp
   have hBaf:B ba≠.free:=by rw[hBa];simp
   have hBrf:B br≠.free:=by rw[hBr];simp
   clear hst hF hb hbx hba hbp p1 p2 a5 a6 r7 r8 hK1 hK2
   refine aI (fun m env s'=>∃(i:Nat) (Y:Scp) (p1 p2:Own),i<=ats.length/\m+i=ats.length/\Y.ds.length=Y.vs.length/\Y.vs.length<=X.vs.length+i/\Hid (dG (dM xds) Y (ats.drop i) (dd.drop i)=R) /\
    OwnOk B p1 Y.vs.length/\OwnOk (B.own p1 9 1 Y.vs.length) p2 Y.vs.length/\ax p1 bx/\ax p2 bx /\
    s'=((B.own p1 9 1 Y.vs.length).own p2 9 1 Y.vs.length).set bx (.obj 114 [.lst (aw Y.vs) p1,.lst (aw Y.ds) p2]) /\
    env 3=.ptr bp 0/\env 4=.ptr bx 0/\env 5=.ptr ba 0/\env 6=.ptr br 0/\env 8=.int .i64 k/\env 9=.int .i64 i) ats.length ?_ ?_
   ·exact⟨_,Fg.refl _,0,X,o1,o2,by omega,by omega,hWX,by omega,u_ hR,hB1,hB2,x4,x3,rfl,ab,ab,ab,ab,ab,ab⟩
   clear hR hB1 hB2 hWX hW x3 x4
   rintro m env s' ⟨i,Y,p1,p2,hi,hm,hWY,hYl,HI,hq1,hq2,hx1,hx2,rfl,e3,e4,e5,e6,e8,e9⟩
   have hp1p:=hq1.not hBpf
   have hp1a:=hq1.not hBaf
   have hp1r:=hq1.not hBrf
   have hp2p:=hq2.not (b:=bp) (by rw[dh hp1p];exact hBpf)
   have hp2a:=hq2.not (b:=ba) (by rw[dh hp1a];exact hBaf)
   have hp2r:=hq2.not (b:=br) (by rw[dh hp1r];exact hBrf)
   have hl1:(aw Y.vs).length=Y.vs.length:=by simp[aw]
   have hl2:(aw Y.ds).length=Y.vs.length:=by simp[aw,hWY]
   by_cases hlt:i<ats.length
   ·obtain⟨c,hc⟩:=aO hlt
    obtain⟨d,hd⟩:=aO (l:=dd) (i:=i) (by omega)
    have hsx:=c7 hc
    have hsy:=c8 hd
    have hI:=HI.out
    rw[g_ hlt,show ats[i]=c by rw[b_ hlt]at hc;injection hc,g_ (show i<dd.length by omega),show dd[i]=d by rw[b_ (by omega)]at hd;injection hd]at hI
    simp only[dG]at hI
    clear hc hd HI
    obtain⟨cv,cn,cz⟩:=c
    cases cv
    ·rw[lp]at hI
     by_cases hdz:dM xds d<=cz
     ·rw[if_pos hdz,iK]at hI
      subst hI
      (repeat'(first|refine Ctl ?_|(with_reducible first|(refine j_ hK ?_;clear hK hE K E)|(refine j_ hKh ?_;clear hKh Kh)|(refine j_ hKb (aK ?_);clear hKb Kb)|refine au 11 [([0,1,2,3,4,5,6,7],8,[[0,1,2,3,4,5]])] [9] hQe fun K E hK hE=>?_)|((with_reducible refine aj (fun h=>?_) (fun h=>?_))<;>(try(exfalso;first|assumption|omega)))|(((with_reducible first|refine ae fun K E hK hE=>?_|refine ak lI (w2 _ _) ?_|refine aE fun Kh hKh=>?_|refine aC fun Kh hKh=>?_|refine aL fun Kb hKb=>?_))<;>(try simp(disch:=first|assumption|omega) only[go_sem,seval,hle,hla,hsd,aB,hsl,hsx,hsy,aA,hl1,hl2, *]))))
      all_goals(refine ap oU hQ ?_)
      exact⟨_,T,Wk.refl _,w_ (w_ (((Fg.own hq2).trans (Fg.own hq1)).trans HF.out) HTX.out) HTB.out,by decide,Y,p1,p2,rfl,rfl⟩
     ·rw[if_neg hdz,eK]at hI
      have HI2:=u_ hI
      clear hI
      (repeat'(first|refine Ctl ?_|(with_reducible first|(refine j_ hK ?_;clear hK hE K E)|(refine j_ hKh ?_;clear hKh Kh)|(refine j_ hKb (aK ?_);clear hKb Kb)|refine au 11 [([0,1,2,3,4,5,6,7],8,[[0,1,2,3,4,5]])] [9] hQe fun K E hK hE=>?_)|((with_reducible refine aj (fun h=>?_) (fun h=>?_))<;>(try(exfalso;first|assumption|omega)))|(((with_reducible first|refine ae fun K E hK hE=>?_|refine ak lI (w2 _ _) ?_|refine aE fun Kh hKh=>?_|refine aC fun Kh hKh=>?_|refine aL fun Kb hKb=>?_))<;>(try simp(disch:=first|assumption|omega) only[go_sem,seval,hle,hla,hsd,aB,hsl,hsx,hsy,aA,hl1,hl2, *]))))
      exact⟨_,Fg.refl _,m - 1,by omega,i+1,Y,p1,p2,by omega,by omega,hWY,by omega,HI2,hq1,hq2,hx1,hx2,rfl,ab,ab,ab,ab,ab,ab⟩
    ·have w4:=fun s=>Di Y.vs cn p1 (by omega) s
     cases hx:ixT cn Y.vs with
     |none=>
      rw[oz hx,eK]at hI
      have HI2:=u_ hI
      rw[zX hx]at w4
      clear hI hx
      have hq2b:=rI hq2
      (repeat'(first|refine Ctl ?_|(with_reducible first|(refine j_ hK ?_;clear hK hE K E)|(refine j_ hKh ?_;clear hKh Kh)|(refine j_ hKb (aK ?_);clear hKb Kb)|refine au 13 [([0,1,2,3,4,5,6,7],8,[[]])] [9] hQe fun K E hK hE=>?_|refine au 15 [([0,1,2,3,4,5,6,7,8],9,[[]]),([10],11,[[],[]])] [] hQe fun K E hK hE=>?_)|((with_reducible refine aj (fun h=>?_) (fun h=>?_))<;>(try(exfalso;first|assumption|omega)))|((first|(with_reducible first|refine ae fun K E hK hE=>?_|refine ak uC (w4 _) ?_|refine aE fun Kh hKh=>?_|refine aC fun Kh hKh=>?_|refine aL fun Kb hKb=>?_)|((with_reducible refine cB (fun o2 ho=>?_));(try simp(disch:=assumption) only[aJ,aM,aU,bP,a_,List.length_cons,List.length_nil,Nat.zero_add,hle,hla,hsd,aB,hsl,hsx,hsy,aA,hl1,hl2,gv]at ho);(repeat(obtain⟨_,ho⟩:=ho))))<;>(try simp(disch:=first|assumption|omega) only[go_sem,seval,hle,hla,hsd,aB,hsl,hsx,hsy,aA,hl1,hl2,gv, *]))))
      rename_i o3 m1 g1 m2
      refine⟨_,Fg.refl _,m - 1,by omega,i+1,⟨Y.vs++[cn],Y.ds++[d]⟩,o3,o2,by omega,by omega,by simp[hWY],by simp;omega,HI2,?_,?_,m1,m2,?_,ab,ab,ab,ab,ab,ab⟩
      ·simp only[d_,List.length_cons,List.length_nil];exact rI g1
      ·simp only[d_,List.length_cons,List.length_nil];exact ho
      ·simp only[d_,List.length_cons,List.length_nil,aw,List.map_append,List.map_cons,List.map_nil]
     |some j=>
      rw[ow hx]at hI
      rw[zW hx]at w4
      have hjl:=(n_.1 (cN hx)).1
      obtain⟨dj,hdj⟩:=aO (l:=Y.ds) (i:=j) (by omega)
      have hsj:=c8 hdj
      rw[hdj]at hI
      clear hx hdj
      by_cases hdd:dj=d
      ·subst hdd
       rw[if_pos rfl,eK]at hI
       have HI2:=u_ hI
       clear hI
       (repeat'(first|refine Ctl ?_|(with_reducible first|(refine j_ hK ?_;clear hK hE K E)|(refine j_ hKh ?_;clear hKh Kh)|(refine j_ hKb (aK ?_);clear hKb Kb)|refine au 13 [([0,1,2,3,4,5,6,7],8,[[]])] [9] hQe fun K E hK hE=>?_)|((with_reducible refine aj (fun h=>?_) (fun h=>?_))<;>(try(exfalso;first|assumption|omega)))|(((with_reducible first|refine ae fun K E hK hE=>?_|refine ak uC (w4 _) ?_|refine aE fun Kh hKh=>?_|refine aC fun Kh hKh=>?_|refine aL fun Kb hKb=>?_))<;>(try simp(disch:=first|assumption|omega) only[go_sem,seval,hle,hla,hsd,aB,hsl,hsx,hsy,aA,hl1,hl2,hsj, *]))))
       exact⟨_,Fg.refl _,m - 1,by omega,i+1,Y,p1,p2,by omega,by omega,hWY,by omega,HI2,hq1,hq2,hx1,hx2,rfl,ab,ab,ab,ab,ab,ab⟩
      ·rw[if_neg (fun e=>hdd (by injection e)),iK]at hI
       subst hI
       have hdf:(dj=d)=False:=eq_false hdd
       (repeat'(first|refine Ctl ?_|(with_reducible first|(refine j_ hK ?_;clear hK hE K E)|(refine j_ hKh ?_;clear hKh Kh)|(refine j_ hKb (aK ?_);clear hKb Kb)|refine au 13 [([0,1,2,3,4,5,6,7],8,[[]])] [9] hQe fun K E hK hE=>?_)|((with_reducible refine aj (fun h=>?_) (fun h=>?_))<;>(try(exfalso;first|assumption|omega)))|(((with_reducible first|refine ae fun K E hK hE=>?_|refine ak uC (w4 _) ?_|refine aE fun Kh hKh=>?_|refine aC fun Kh hKh=>?_|refine aL fun Kb hKb=>?_))<;>(try simp(disch:=first|assumption|omega) only[go_sem,seval,hle,hla,hsd,aB,hsl,hsx,hsy,aA,hl1,hl2,hsj, *]))))
       all_goals(refine ap oU hQ ?_)
       exact⟨_,T,Wk.refl _,w_ (w_ (((Fg.own hq2).trans (Fg.own hq1)).trans HF.out) HTX.out) HTB.out,by decide,Y,p1,p2,rfl,rfl⟩
   ·have hI:=HI.out
    rw[show i=ats.length by omega,G_]at hI
    simp only[dG]at hI
    subst hI
    clear HI
    (repeat'(first|refine Ctl ?_|((with_reducible refine j_ hK ?_);clear hK hE K E)|((with_reducible refine aj (fun h=>?_) (fun h=>?_))<;>(try(exfalso;omega)))|(((with_reducible refine ae fun K E hK hE=>?_))<;>(try simp(disch:=first|assumption|omega) only[go_sem,seval,hla, *]))))
    all_goals(refine ap oU hQ ?_)
    refine⟨_,ScO T p1 p2 Y,Wk.refl _,?_,p1,p2,rfl,rfl,⟨hq1.fg HF.out,?_⟩,hWY⟩
    ·unfold ScO
     rw[hWY]
     exact w_ (w_ (Fg.ownm (Fg.ownm HF.out)) (by rw[aR,aR];exact⟨hx2,hx1,HTX.out⟩)) (by rw[aR,aR];exact⟨hp2r,hp1r,HTB.out⟩)
    ·rw[hWY]
     exact hq2.fg (Fg.ownm HF.out)
  ·rw[if_pos (by simpa using hlen)]at hR
   have hli:((ats.length:Int)=(dd.length:Int))=False:=eq_false (by omega)
   subst hR
   have hFT:Fg (ScO T o1 o2 X) T:=(Fg.own hK2).trans (Fg.own hK1)
   generalize ScO T o1 o2 X=S at *
   have HFT:=u_ hFT
   clear hFT
   refine bh Tryz.func82 rfl Tryz.ntmps82 rfl fun Q hQ hQe=>?_
   (repeat'(first|refine Ctl ?_|(with_reducible first|(refine j_ hK ?_;clear hK hE K E)|(refine j_ hKh ?_;clear hKh Kh)|refine au 4 [] [0,1,2,3,4,5,6,7,8,9,10] hQe fun K E hK hE=>?_)|((with_reducible refine aj (fun h=>?_) (fun h=>?_))<;>(try(exfalso;first|assumption|omega)))|((first|(with_reducible first|refine ae fun K E hK hE=>?_|refine ak fb (w3 _ _) ?_|refine aC fun Kh hKh=>?_)|((with_reducible refine ao (fun b hb=>?_));(repeat(obtain⟨_,hb⟩:=hb))))<;>(try simp(disch:=omega) only[go_sem,seval,hrz,hle,hla,hsd,aB,hsl, *]))))
   all_goals(refine ap oU hQ ?_)
   exact⟨_,T,Wk.refl _,(bj:Fg _ S).trans HFT.out,by decide,X,o1,o2,rfl,rfl⟩
end Go.Proofs.YteldpmgepfaiiaaGreatDoor
namespace Go.Proofs.YteldpmgepfaiiaaGreatDoor
open Go.RowKit
theorem sL {α:Type}{l:List α}{p:α->Bool}{i:Nat}{x:α}(hx:l[i]?=some x):(l.take (i+1)).any p=((l.take i).any p || p x):=by
 rw[b9 hx,List.any_append];simp
theorem ul {l:List Atm}{i:Nat}{a:Atm}{n:List UInt8}(h:l[i]?=some a):du (l.take (i+1)) n=(du (l.take i) n || (!a.not && a.ts.any fun t=>t.var && decide (t.nm=n))):=sL h
set_option maxHeartbeats 8000000 in
theorem wy (T:St)(r:Rul)(a:Atm)(o0:Own)(hr:r.body.length<=140737488355328)(ha:a.ts.length<=140737488355328)(hb:∀c,c∈r.body->c.ts.length<=140737488355328) :
  SRet Tryz.prog 83 [.agg (az r),.agg [.bool a.not,.str a.rel,.lst (a.ts.map aA) o0]] T (.bool (dm r.body a)) T:=by
 obtain⟨⟨hn,hrel,hts⟩,body⟩:=r
 obtain⟨an,ar,ats⟩:=a
 simp only at hr ha hb
 have HB:=u_ hb
 clear hb
 have hla:(ats.map aA).length=ats.length:=by simp
 have hlb:(body.map aF).length=body.length:=by simp
 generalize hW:dm body ⟨an,ar,ats⟩=W
 have HW:=u_ hW
 clear hW
 simp only[az]
 refine bh Tryz.func83 rfl Tryz.ntmps83 rfl fun Q hQ hQe=>?_
 (repeat'(first|refine Ctl ?_|((with_reducible refine j_ hK ?_);clear hK hE K E)|((first|(with_reducible refine ae fun K E hK hE=>?_)|((with_reducible refine ao (fun b hb=>?_));(repeat(obtain⟨_,hb⟩:=hb))))<;>(try simp(disch:=omega) only[go_sem,seval,hla,hlb, *]))))
 rename_i br hbr n1 n2
 obtain⟨ba,hba⟩:∃z,z=b:=⟨_,rfl⟩
 subst hba
 have hSr:((T.set br (.obj 43 [.bool hn,.str hrel,.lst (hts.map aA) .no,.lst (body.map aF) .no])).set ba (.obj 40 [.bool an,.str ar,.lst (ats.map aA) o0])) br=(.obj 43 [.bool hn,.str hrel,.lst (hts.map aA) .no,.lst (body.map aF) .no]):=by rw[k_ _ _ n2,q_]
 have hSa:((T.set br (.obj 43 [.bool hn,.str hrel,.lst (hts.map aA) .no,.lst (body.map aF) .no])).set ba (.obj 40 [.bool an,.str ar,.lst (ats.map aA) o0])) ba=(.obj 40 [.bool an,.str ar,.lst (ats.map aA) o0]):=q_ _ _ _
 have hF:Fg ((T.set br (.obj 43 [.bool hn,.str hrel,.lst (hts.map aA) .no,.lst (body.map aF) .no])).set ba (.obj 40 [.bool an,.str ar,.lst (ats.map aA) o0])) T:=bj
 generalize (T.set br (.obj 43 [.bool hn,.str hrel,.lst (hts.map aA) .no,.lst (body.map aF) .no])).set ba (.obj 40 [.bool an,.str ar,.lst (ats.map aA) o0])=S at *
 have HF:=u_ hF
 clear hF hb hbr n1 n2
 have hSrf:S br≠.free:=by rw[hSr];simp
 have hSaf:S ba≠.free:=by rw[hSa];simp
 refine aI (fun m env s'=>∃i:Nat,i<=ats.length/\m+i=ats.length/\s'=S/\Hid ((ats.take i).all (fun t=>!t.var || du body t.nm)=true)/\env 2=.ptr br 0/\env 3=.ptr ba 0/\env 5=.int .i64 i) ats.length ?_ ?_
 ·exact⟨_,Fg.refl _,0,by omega,by omega,rfl,u_ rfl,ab,ab,ab⟩
 rintro m env s' ⟨i,hi,hm,rfl,HA,e2,e3,e5⟩
 by_cases hlt:i<ats.length
 ·obtain⟨c,hc⟩:=aO hlt
  have hsx:=c7 hc
  have HC:=u_ hc
  clear hc
  obtain⟨tv,tn,tz⟩:=c
  (repeat'(first|refine Ctl ?_|((with_reducible refine j_ hK ?_);clear hK hE K E)|((with_reducible refine aj (fun h=>?_) (fun h=>?_))<;>(try(exfalso;assumption)))|(((with_reducible refine ae fun K E hK hE=>?_))<;>(try simp(disch:=omega) only[go_sem,seval,hla,hlb,hsx,aA, *]))))
  refine aI (fun m' env s2=>∃(k:Nat) (w:Bool),k<=body.length/\m'+k=body.length/\s2=s'/\env 2=.ptr br 0/\env 3=.ptr ba 0/\env 5=.int .i64 i/\env 6=.bool w/\env 7=.int .i64 k/\Hid (w=(!tv || du (body.take k) tn))) body.length ?_ ?_
  ·exact⟨_,Fg.refl _,0,_,by omega,by omega,rfl,ab,ab,ab,jm,ab,u_ (by simp[du])⟩
  clear e2 e3 e5 env
  rintro m' env s2 ⟨k,w,hk,hm',rfl,e2,e3,e5,e6,e7,HK⟩
  by_cases hlk:k<body.length
  ·obtain⟨d,hd⟩:=aO hlk
   have hsy:=c5 hd
   have hdl:=HB.out d (p_ hd)
   have HD:=u_ hd
   clear hd
   obtain⟨cn,cr,cts⟩:=d
   simp only at hdl
   have hlc:(cts.map aA).length=cts.length:=by simp
   (repeat'(first|refine Ctl ?_|((with_reducible refine j_ hK ?_);clear hK hE K E)|((with_reducible refine aj (fun h=>?_) (fun h=>?_))<;>(try(exfalso;assumption)))|(((with_reducible refine ae fun K E hK hE=>?_))<;>(try simp(disch:=omega) only[go_sem,seval,hla,hlb,hsx,hsy,aA,aF,hlc, *]))))
   refine aI (fun m3 env s3=>∃(j:Nat) (w:Bool),j<=cts.length/\m3+j=cts.length/\s3=s2/\env 2=.ptr br 0/\env 3=.ptr ba 0/\env 5=.int .i64 i/\env 6=.bool w/\env 7=.int .i64 k/\env 8=.int .i64 j/\Hid (w=((!tv || du (body.take k) tn) || (!cn && (cts.take j).any fun t=>t.var && decide (t.nm=tn))))) cts.length ?_ ?_
   ·exact⟨_,Fg.refl _,0,_,by omega,by omega,rfl,ab,ab,ab,jm,ab,ab,u_ (by rw[HK.out];simp)⟩
   clear e2 e3 e5 e6 e7 env HK w
   rintro m3 env s3 ⟨j,w,hj,hm3,rfl,e2,e3,e5,e6,e7,e8,HJ⟩
   by_cases hlj:j<cts.length
   ·obtain⟨u,hu⟩:=aO hlj
    have hsz:=c7 hu
    have HU:=u_ hu
    clear hu
    obtain⟨uv,un,uz⟩:=u
    have hJ:=HJ.out
    have hspec:((!tv || du (body.take k) tn) || (!cn && (cts.take (j+1)).any fun t=>t.var && decide (t.nm=tn)))=(w || (!cn && (uv && decide (un=tn)))):=by
     rw[sL HU.out,hJ]
     cases (!tv || du (body.take k) tn)<;>cases cn<;>simp
    have HS:=u_ hspec
    clear hJ hspec HJ
    cases w<;>cases cn<;>cases uv
    all_goals
     (repeat'(first|refine Ctl ?_|(with_reducible first|(refine j_ hK ?_;clear hK hE K E)|(refine j_ hKh ?_;clear hKh Kh)|(refine j_ hKb (aK ?_);clear hKb Kb)|refine au 12 [([0,1,2,3,4,5,6,7,8,9,10,11,12,13,14,15,16,17,18,19,20,21,22,23,24],25,[[0,1,2,3,4,5,6,7,8,9,10,11,12,13,14,15,16,17,18,19,20,21,22,23,24]])] [] hQe fun K E hK hE=>?_)|((with_reducible refine aj (fun h=>?_) (fun h=>?_))<;>(try(exfalso;assumption)))|((first|(with_reducible first|refine ae fun K E hK hE=>?_|refine aE fun Kh hKh=>?_|refine aC fun Kh hKh=>?_|refine aL fun Kb hKb=>?_)|((with_reducible refine ao (fun b hb=>?_));(try(obtain⟨_,_⟩:=nef hb hSrf;obtain⟨_,_⟩:=nef hb hSaf))))<;>(try simp(disch:=omega) only[go_sem,seval,hla,hlb,hsx,hsy,hsz,aA,aF,hlc, *]))))
    all_goals
     exact⟨_,v_ _ hb,m3 - 1,by omega,j+1,_,by omega,by omega,rfl,ab,ab,ab,jm,ab,ab,u_ (by rw[HS.out];simp)⟩
   ·(repeat'(first|refine Ctl ?_|((with_reducible refine j_ hK ?_);clear hK hE K E)|((with_reducible refine aj (fun h=>?_) (fun h=>?_))<;>(try(exfalso;assumption)))|(((with_reducible refine ae fun K E hK hE=>?_))<;>(try simp(disch:=omega) only[go_sem,seval,hla,hlb,hsx,hsy,aA,aF,hlc, *]))))
    refine⟨_,Fg.refl _,m' - 1,by omega,k+1,_,by omega,by omega,rfl,ab,ab,ab,jm,ab,u_ ?_⟩
    have hJ:=HJ.out
    rw[show cts.take j=cts from B_ (by omega)]at hJ
    rw[hJ,ul HD.out]
    simp only[Bool.or_assoc]
  ·have hK:=HK.out
   rw[B_ (by omega)]at hK
   have HK2:=u_ hK
   clear hK HK
   cases w
   ·have hE:W=false:=by
     rw[<- HW.out]
     unfold dm
     exact bJ HC.out HK2.out.symm
    subst hE
    (repeat'(first|refine Ctl ?_|((with_reducible refine j_ hK ?_);clear hK hE K E)|((with_reducible refine aj (fun h=>?_) (fun h=>?_))<;>(try(exfalso;assumption)))|(((with_reducible refine ae fun K E hK hE=>?_))<;>(try simp(disch:=omega) only[go_sem,seval,hla,hlb,hsx,aA, *]))))
    all_goals(refine ap yP hQ ?_)
    all_goals(refine⟨_,_,Wk.of_eq ?_,?_,rfl,rfl⟩)
    all_goals first|rfl|exact HF.out
   ·(repeat'(first|refine Ctl ?_|((with_reducible refine j_ hK ?_);clear hK hE K E)|((with_reducible refine aj (fun h=>?_) (fun h=>?_))<;>(try(exfalso;assumption)))|(((with_reducible refine ae fun K E hK hE=>?_))<;>(try simp(disch:=omega) only[go_sem,seval,hla,hlb,hsx,aA, *]))))
    exact⟨_,Fg.refl _,m - 1,by omega,i+1,by omega,by omega,rfl,u_ (bB HA.out HC.out HK2.out.symm),ab,ab,ab⟩
 ·have hA:=HA.out
  rw[B_ (by omega)]at hA
  have hE:W=true:=by rw[<- HW.out];exact hA
  subst hE
  clear hA HA
  (repeat'(first|refine Ctl ?_|((with_reducible refine j_ hK ?_);clear hK hE K E)|((with_reducible refine aj (fun h=>?_) (fun h=>?_))<;>(try(exfalso;assumption)))|(((with_reducible refine ae fun K E hK hE=>?_))<;>(try simp(disch:=omega) only[go_sem,seval,hla,hlb, *]))))
  all_goals(refine ap yP hQ ?_)
  all_goals(refine⟨_,_,Wk.of_eq ?_,?_,rfl,rfl⟩)
  all_goals first|rfl|exact HF.out
def aD (l:List (List Int)):List (List VV):=l.map fun r=>[bV r]
theorem cL {l:List (List Int)}:(aD l).length=l.length:=by simp[aD]
theorem dP {l:List (List Int)}{i:Nat}{r:List Int}(h:l[i]?=some r):(aD l)[i]?=some [.lst (ay r) .no]:=by simp[aD,h,bV]
theorem oM {l m:List (List Int)}:aD (l++m)=aD l++aD m:=by simp[aD]
def iU (l:List (List Int)):Prop:=l.length<=1000000000/\∀r,r∈l->r.length<=1000000000
theorem xA {a b:List Int}{i:Nat}{x y:Int}(hx:a[i]?=some x)(hy:b[i]?=some y):eJ (a.drop i) (b.drop i)=if x=y then eJ (a.drop (i+1)) (b.drop (i+1))else decide (x<y):=by
 obtain⟨h1,rfl⟩:=n_.1 hx
 obtain⟨h2,rfl⟩:=n_.1 hy
 rw[g_ h1,g_ h2]
 simp only[eJ]
set_option maxHeartbeats 4000000 in
theorem Bq (a b:List Int)(o1 o2:Own)(ha:a.length<=1000000000)(hb:b.length<=1000000000)(t:St):SRet Tryz.prog 73 [.lst (ay a) o1,.lst (ay b) o2] t (.bool (eJ a b)) t:=by
 have hl1:(ay a).length=a.length:=bH
 have hl2:(ay b).length=b.length:=bH
 generalize hR:eJ a b=R
 have HR:=u_ hR
 clear hR
 refine bh Tryz.func73 rfl Tryz.ntmps73 rfl fun Q hQ hQe=>?_
 (repeat'(first|refine Ctl ?_|((with_reducible refine j_ hK ?_);clear hK hE K E)|(((with_reducible refine ae fun K E hK hE=>?_))<;>(try simp(disch:=omega) only[go_sem,seval,hl1,hl2, *]))))
 refine bi (fun m env s'=>∃(i:Nat),i<=a.length/\i<=b.length/\m+i=a.length/\Hid (eJ (a.drop i) (b.drop i)=R)/\s'=t/\env 0=.lst (ay a) o1/\env 1=.lst (ay b) o2/\env 5=.int .i64 i) a.length
  ⟨0,by omega,by omega,by omega,HR,rfl,ab,ab,ab⟩ ?_
 rintro m env s' ⟨i,hi,hi2,hm,HH,rfl,e0,e1,e5⟩
 by_cases h1:i<a.length
 ·by_cases h2:i<b.length
  ·obtain⟨x,hx⟩:∃x,a[i]?=some x:=⟨_,b_ h1⟩
   obtain⟨y,hy⟩:∃y,b[i]?=some y:=⟨_,b_ h2⟩
   have sx:=cq hx
   have sy:=cq hy
   have hd:=(xA hx hy).symm.trans HH.out
   clear hx hy
   by_cases e:x=y
   ·rw[if_pos e]at hd
    have HD:=u_ hd
    clear hd
    subst e
    (repeat'(first|refine Ctl ?_|(with_reducible first|(refine j_ hK ?_;clear hK hE K E)|(refine j_ hKh ?_;clear hKh Kh)|refine au 4 [] [0,1,2,3,4,5,6,7,8] hQe fun K E hK hE=>?_)|((with_reducible refine aj (fun h=>?_) (fun h=>?_))<;>(try(exfalso;assumption)))|(((with_reducible first|refine ae fun K E hK hE=>?_|refine aC fun Kh hKh=>?_))<;>(try simp(disch:=omega) only[go_sem,seval,hl1,hl2,sx,sy, *]))))
    all_goals exact⟨m - 1,by omega,i+1,by omega,by omega,by omega,HD,rfl,ab,ab,ab⟩
   ·rw[if_neg e]at hd
    have HD:=u_ hd
    have e':=eq_false e
    clear hd e
    (repeat'(first|refine Ctl ?_|(with_reducible first|(refine j_ hK ?_;clear hK hE K E)|(refine j_ hKh ?_;clear hKh Kh)|refine au 4 [] [0,1,2,3,4,5,6,7,8] hQe fun K E hK hE=>?_|refine au 5 [] [0,1,2,3,4,5,6,7,8,9] hQe fun K E hK hE=>?_)|((with_reducible refine aj (fun h=>?_) (fun h=>?_))<;>(try(exfalso;assumption)))|(((with_reducible first|refine ae fun K E hK hE=>?_|refine aC fun Kh hKh=>?_))<;>(try simp(disch:=omega) only[go_sem,seval,hl1,hl2,sx,sy,e', *]))))
    all_goals(refine ap vf hQ ?_)
    all_goals rw[<- HD.out]
    all_goals(refine⟨_,_,Wk.of_eq ?_,?_,rfl,rfl⟩)
    all_goals first|rfl|(exact bj)
  ·have hd:=HH.out
   rw[List.drop_of_length_le (l:=b) (by omega),g_ h1]at hd
   have hR:R=false:=hd.symm
   subst hR
   clear hd
   have hle:¬ a.length<b.length:=by omega
   (repeat'(first|refine Ctl ?_|((with_reducible refine j_ hK ?_);clear hK hE K E)|((with_reducible refine aj (fun h=>?_) (fun h=>?_))<;>(try(exfalso;assumption)))|(((with_reducible refine ae fun K E hK hE=>?_))<;>(try simp(disch:=omega) only[go_sem,seval,hl1,hl2, *]))))
   all_goals(refine ap vf hQ ?_)
   all_goals(refine⟨_,_,Wk.of_eq ?_,?_,rfl,rfl⟩)
   all_goals first|rfl|(exact bj)
 ·have hd:=HH.out
  have hie:i=a.length:=by omega
  rw[List.drop_of_length_le (l:=a) (by omega)]at hd
  have hR:R=decide (a.length<b.length):=by
   rw[<- hd]
   by_cases h3:i<b.length
   ·rw[g_ h3]
    simp[eJ]
    omega
   ·rw[List.drop_of_length_le (by omega)]
    simp[eJ]
    omega
  have HR2:=u_ hR
  clear hd hR
  (repeat'(first|refine Ctl ?_|((with_reducible refine j_ hK ?_);clear hK hE K E)|((with_reducible refine aj (fun h=>?_) (fun h=>?_))<;>(try(exfalso;assumption)))|((first|(with_reducible refine ae fun K E hK hE=>?_)|((with_reducible refine dC (fun h=>?_) (fun h=>?_))<;>(try(exfalso;omega))))<;>(try simp(disch:=omega) only[go_sem,seval,hl1,hl2, *]))))
  all_goals(refine ap vf hQ ?_)
  all_goals rw[HR2.out]
  all_goals(refine⟨_,_,Wk.of_eq ?_,?_,rfl,rfl⟩)
  all_goals first|rfl|(exact bj)
set_option maxHeartbeats 4000000 in
theorem nP (a b:List (List Int))(o1 o2:Own)(ha:iU a)(hb:iU b)(t:St):SRet Tryz.prog 22 [.lst (aD a) o1,.lst (aD b) o2] t (.bool (decide (a=b))) t:=by
 have hl1:(aD a).length=a.length:=cL
 have hl2:(aD b).length=b.length:=cL
 obtain⟨ha1,ha2⟩:=ha
 obtain⟨hb1,hb2⟩:=hb
 by_cases hlen:a.length=b.length
 ·generalize hR:decide (a=b)=R
  have HR:=u_ hR
  clear hR
  refine bh Tryz.func22 rfl Tryz.ntmps22 rfl fun Q hQ hQe=>?_
  (repeat'(first|refine Ctl ?_|((with_reducible refine j_ hK ?_);clear hK hE K E)|((with_reducible refine aj (fun h=>?_) (fun h=>?_))<;>(try(exfalso;assumption)))|(((with_reducible refine ae fun K E hK hE=>?_))<;>(try simp(disch:=omega) only[go_sem,seval,hl1,hl2,hlen, *]))))
  refine bi (fun m env s'=>∃(i:Nat),i<=b.length/\m+i=b.length/\Hid (a.take i=b.take i)/\s'=t/\env 0=.lst (aD a) o1/\env 1=.lst (aD b) o2/\env 5=.int .i64 i) b.length
   ⟨0,by omega,by omega,u_ rfl,rfl,ab,ab,ab⟩ ?_
  rintro m env s' ⟨i,hi,hm,HH,rfl,e0,e1,e5⟩
  by_cases h2:i<b.length
  ·obtain⟨x,hx⟩:∃x,a[i]?=some x:=⟨_,b_ (by omega)⟩
   obtain⟨y,hy⟩:∃y,b[i]?=some y:=⟨_,b_ h2⟩
   have sx:=dP hx
   have sy:=dP hy
   have w1:=fun s=>jQ x y .no .no (by have:=ha2 x (p_ hx);omega) (by have:=hb2 y (p_ hy);omega) s
   have t1:a.take (i+1)=a.take i++[x]:=by rw[List.take_add_one,hx];rfl
   have t2:b.take (i+1)=b.take i++[y]:=by rw[List.take_add_one,hy];rfl
   have HT:x=y->a.take (i+1)=b.take (i+1):=fun e=>by rw[t1,t2,HH.out,e]
   have HN:¬ x=y->a≠b:=fun e=>by rintro rfl;exact e (by rw[hx]at hy;injection hy)
   clear t1 t2 hx hy
   by_cases e:x=y
   ·have HT2:=u_ (HT e)
    rw[show decide (x=y)=true by simp[e]]at w1
    clear HT HN e
    (repeat'(first|refine Ctl ?_|(with_reducible first|(refine j_ hK ?_;clear hK hE K E)|(refine j_ hKh ?_;clear hKh Kh)|(refine j_ hKb (aK ?_);clear hKb Kb)|refine au 6 [([0,1,2,3,4,5,6,7],8,[[]])] [9] hQe fun K E hK hE=>?_)|((with_reducible refine aj (fun h=>?_) (fun h=>?_))<;>(try(exfalso;assumption)))|(((with_reducible first|refine ae fun K E hK hE=>?_|refine ak py (w1 _) ?_|refine aE fun Kh hKh=>?_|refine aC fun Kh hKh=>?_|refine aL fun Kb hKb=>?_))<;>(try simp(disch:=omega) only[go_sem,seval,hl1,hl2,sx,sy,hlen, *]))))
    all_goals exact⟨m - 1,by omega,i+1,by omega,by omega,HT2,rfl,ab,ab,ab⟩
   ·have hR:R=false:=by rw[<- HR.out];simp[HN e]
    subst hR
    rw[show decide (x=y)=false by simp[e]]at w1
    clear HT HN e
    (repeat'(first|refine Ctl ?_|(with_reducible first|(refine j_ hK ?_;clear hK hE K E)|(refine j_ hKh ?_;clear hKh Kh)|(refine j_ hKb (aK ?_);clear hKb Kb)|refine au 6 [([0,1,2,3,4,5,6,7],8,[[]])] [9] hQe fun K E hK hE=>?_)|((with_reducible refine aj (fun h=>?_) (fun h=>?_))<;>(try(exfalso;assumption)))|(((with_reducible first|refine ae fun K E hK hE=>?_|refine ak py (w1 _) ?_|refine aE fun Kh hKh=>?_|refine aC fun Kh hKh=>?_|refine aL fun Kb hKb=>?_))<;>(try simp(disch:=omega) only[go_sem,seval,hl1,hl2,sx,sy,hlen, *]))))
    all_goals(refine ap vi hQ ?_)
    all_goals(refine⟨_,_,Wk.of_eq ?_,?_,rfl,rfl⟩)
    all_goals first|rfl|(exact bj)
  ·have hR:R=true:=by
    have h3:=HH.out
    rw[B_ (by omega),B_ (by omega)]at h3
    rw[<- HR.out];simp[h3]
   subst hR
   (repeat'(first|refine Ctl ?_|((with_reducible refine j_ hK ?_);clear hK hE K E)|((with_reducible refine aj (fun h=>?_) (fun h=>?_))<;>(try(exfalso;assumption)))|(((with_reducible refine ae fun K E hK hE=>?_))<;>(try simp(disch:=omega) only[go_sem,seval,hl1,hl2,hlen, *]))))
   all_goals(refine ap vi hQ ?_)
   all_goals(refine⟨_,_,Wk.of_eq ?_,?_,rfl,rfl⟩)
   all_goals first|rfl|(exact bj)
 ·have hR:decide (a=b)=false:=by
   have:a≠b:=fun e=>hlen (by rw[e])
   simp[this]
  rw[hR]
  have hln:((a.length:Int)=(b.length:Int))=False:=eq_false (by omega)
  clear hR
  refine bh Tryz.func22 rfl Tryz.ntmps22 rfl fun Q hQ hQe=>?_
  (repeat'(first|refine Ctl ?_|((with_reducible refine j_ hK ?_);clear hK hE K E)|((with_reducible refine aj (fun h=>?_) (fun h=>?_))<;>(try(exfalso;assumption)))|(((with_reducible refine ae fun K E hK hE=>?_))<;>(try simp(disch:=omega) only[go_sem,seval,hl1,hl2,hln, *]))))
  all_goals(refine ap vi hQ ?_)
  all_goals(refine⟨_,_,Wk.of_eq ?_,?_,rfl,rfl⟩)
  all_goals first|rfl|(exact bj)
end Go.Proofs.YteldpmgepfaiiaaGreatDoor
