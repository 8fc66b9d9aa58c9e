/- Walks of functions, and plain facts. Conditions: those in the statements. -/
import Derived.Test.YteldpmgepfaiiaaGreatDoorQsYij
set_option linter.unusedSimpArgs false
set_option linter.unusedVariables false
set_option maxRecDepth 100000
namespace Go.Proofs.YteldpmgepfaiiaaGreatDoor
open Go.RowKit
theorem qc {k:List UInt8}{l:List (List UInt8)}{i:Nat}(h:l[i]?=some k):ixT k l=some i↔k∉l.take i:=by
 have hlt:=(n_.1 h).1
 have hs:l=l.take i++l.drop i:=(List.take_append_drop i l).symm
 have h2:l.drop i=k::l.drop (i+1):=by
  rw[g_ hlt]
  rw[b_ hlt]at h;injection h with h;rw[h]
 rw[hs,xr,<- hs]
 cases hx:ixT k (l.take i)with
 |some j=>
  have h3:=cI hx
  have h4:=(n_.1 h3).1
  rw[A_]at h4
  simp only[Option.some.injEq]
  constructor
  ·intro e;omega
  ·intro e;exact absurd (p_ h3) e
 |none=>
  have h3:=eN.1 hx
  rw[h2]
  simp only[ixT,if_true,Option.map_some,Nat.zero_add,A_]
  constructor
  ·intro _;exact h3
  ·intro _;congr 1;omega
theorem ik {l:List (List UInt8)}{i:Nat}{k:List UInt8}(h:l[i]?=some k):(l.take (i+1)).Nodup↔(l.take i).Nodup/\k∉l.take i:=by
 rw[bY h,List.nodup_append]
 constructor
 ·rintro⟨h1,_,h3⟩
  exact⟨h1,fun hk=>h3 _ hk _ (by simp) rfl⟩
 ·rintro⟨h1,h2⟩
  refine⟨h1,by simp,?_⟩
  intro a ha b hb e
  rw[e_]at hb
  subst hb;subst e
  exact h2 ha
theorem p5 {l:List (List UInt8)}{i:Nat}(h:¬ (l.take i).Nodup):¬ l.Nodup:=fun hn=>h (hn.sublist (List.take_sublist _ _))
theorem s7 {l:List (List UInt8)}{i:Nat}{k:List UInt8}(h:k∈l.take i):∃j,j<i/\l[j]?=some k:=by
 obtain⟨j,hj,e⟩:=List.getElem_of_mem h
 rw[A_]at hj
 refine⟨j,by omega,?_⟩
 rw[List.getElem_take]at e
 rw[b_ (by omega),e]
theorem s6 {l:List (List UInt8)}{i j:Nat}{k:List UInt8}(hj:j<i)(h:l[j]?=some k):k∈l.take i:=by
 refine p_ (i:=j) ?_
 rw[List.getElem?_take,if_pos hj];exact h
set_option maxHeartbeats 8000000 in
theorem EI (x:Pgm)(hx:PgmOk x)(t:St):SRet Tryz.prog 108 [.agg (pgC x)] t (.int .i64 (cp x)) t:=by
  have w1:=fun s=>CN x hx s
  have w2:=fun n s=>rT x n hx.1 s
  have w3:=fun n s=>lR x n hx.2.1 s
  obtain⟨ds,cs,rs⟩:=x
  obtain⟨hd,hc,hr,hdd,hdc,_⟩:=hx
  simp only at hd hc hr hdd hdc w2 w3
  have hlr:(ds.map dmC).length=ds.length:=by simp
  have hle:(cs.map az).length=cs.length:=by simp
  cases hB:cm ⟨ds,cs,rs⟩with
  |false=>
    have he:cp ⟨ds,cs,rs⟩=1:=by unfold cp;rw[if_pos hB]
    rw[hB]at w1
    simp only[pgC]at w1 ⊢
    rw[he]
    clear he hB
    refine aw Tryz.func108 rfl Tryz.ntmps108 rfl fun Q hQ hQe=>?_
    (repeat'(first|refine Ctl ?_|((with_reducible refine j_ hK ?_);clear hK hE K E)|((with_reducible refine aj (fun h=>?_) (fun h=>?_))<;>(try(exfalso;assumption)))|((first|(with_reducible first|refine ae fun K E hK hE=>?_|refine ak Cd (w1 _) ?_)|((with_reducible refine ao (fun b hb=>?_))))<;>(try simp(disch:=omega) only[go_sem,seval, *]))))
    all_goals(refine ap iU hQ ?_)
    all_goals(refine⟨_,_,Wk.of_eq ?_,?_,rfl,rfl⟩)
    all_goals first|rfl|(exact bC)
  |true=>
    rw[hB]at w1
    have hread:cp ⟨ds,cs,rs⟩=if ds.all jW=false then 1 else if ¬ (ds.map (·.name)).Nodup\/¬ (cs.map (·.name)).Nodup then 120 else if cs.all (kwn ds)=false then 121 else 0:=by
      unfold cp
      simp only[hB,sk,xq,Bool.not_eq_true',Bool.true_eq_false,if_false]
    generalize cp ⟨ds,cs,rs⟩=RE at hread
    have HRD:=u_ hread
    have HDC:=u_ hdc
    clear hread hB hdc
    simp only[pgC]at w1 w2 w3 ⊢
    refine aw Tryz.func108 rfl Tryz.ntmps108 rfl fun Q hQ hQe=>?_
    (repeat'(first|refine Ctl ?_|((with_reducible refine j_ hK ?_);clear hK hE K E)|((with_reducible refine aj (fun h=>?_) (fun h=>?_))<;>(try(exfalso;assumption)))|((first|(with_reducible first|refine ae fun K E hK hE=>?_|refine ak Cd (w1 _) ?_)|((with_reducible refine ao (fun b hb=>?_))))<;>(try simp(disch:=omega) only[go_sem,seval, *]))))
    obtain⟨pp,hpp⟩:∃x,x=b:=⟨_,rfl⟩
    subst hpp
    have hSb:(t.set pp (.obj 26 [.lst (ds.map dmC) .no,.lst (cs.map az) .no,.lst (rs.map ax) .no])) pp=.obj 26 [.lst (ds.map dmC) .no,.lst (cs.map az) .no,.lst (rs.map ax) .no]:=q_ _ _ _
    have hF:Fg (t.set pp (.obj 26 [.lst (ds.map dmC) .no,.lst (cs.map az) .no,.lst (rs.map ax) .no])) t:=v_ _ hb
    generalize t.set pp (.obj 26 [.lst (ds.map dmC) .no,.lst (cs.map az) .no,.lst (rs.map ax) .no])=S at *
    have HF:=u_ hF
    clear hF hb
    refine aI (fun m env s'=>∃i:Nat,i<=ds.length/\m+i=ds.length/\s'=S/\Hid ((ds.take i).all jW=true)/\env 1=.ptr pp 0/\env 3=.int .i64 i) ds.length ?_ ?_
    · exact⟨S,Fg.refl _,0,by omega,by omega,rfl,u_ rfl,ab,ab⟩
    rintro m env s' ⟨i,hi,hm,rfl,HE,e1,e3⟩
    by_cases hlt:i<ds.length
    · obtain⟨d,hd0⟩:=aN hlt
      have hsx:=ge hd0
      have HD:=u_ hd0
      clear hd0
      obtain⟨dn,dz⟩:=d
      by_cases hz:jW ⟨dn,dz⟩=true
      · have hz2:=hz
        simp only[jW,Bool.not_eq_true',Bool.or_eq_false_iff,decide_eq_false_iff_not]at hz2
        obtain⟨hz3,hz4⟩:=hz2
        have HZ:=u_ hz
        clear hz
        (repeat'(first|refine Ctl ?_|((with_reducible refine j_ hK ?_);clear hK hE K E)|((with_reducible refine aj (fun h=>?_) (fun h=>?_))<;>(try(exfalso;assumption)))|(((with_reducible refine ae fun K E hK hE=>?_))<;>(try simp(disch:=omega) only[go_sem,seval,hlr,hsx,dmC, *]))))
        exact⟨s',Fg.refl _,m - 1,by omega,i+1,by omega,by omega,rfl,u_ (bE HE.out HD.out HZ.out),ab,ab⟩
      · have hz2:=hz
        simp only[jW,Bool.not_eq_true',Bool.or_eq_false_iff,decide_eq_false_iff_not]at hz2
        have hall:ds.all jW=false:=bO HD.out (by simpa using hz)
        have hE:RE=1:=by rw[HRD.out,if_pos hall]
        subst hE
        clear hz hall
        (repeat'(first|refine Ctl ?_|((with_reducible refine j_ hK ?_);clear hK hE K E)|((with_reducible refine aj (fun h=>?_) (fun h=>?_))<;>(try(exfalso;first|assumption|omega)))|((first|(with_reducible refine ae fun K E hK hE=>?_)|((with_reducible refine dy (fun h=>?_) (fun h=>?_))))<;>(try simp(disch:=omega) only[go_sem,seval,hlr,hsx,dmC, *]))))
        all_goals first
          |(exfalso;omega)
          | ((first | refine ap iU hQ ?_ | refine en iU hQ ?_ | refine jm hQ ?_)
             (refine⟨_,_,Wk.of_eq ?_,?_,rfl,rfl⟩)
             · rfl
             · exact HF.out)
    · have hall:=HE.out
      rw[B_ (by omega)]at hall
      have hr2:=HRD.out
      rw[if_neg (by rw[hall];simp)]at hr2
      have HRD2:=u_ hr2
      clear hr2 HRD hall HE
      (repeat'(first|refine Ctl ?_|((with_reducible refine j_ hK ?_);clear hK hE K E)|((with_reducible refine aj (fun h=>?_) (fun h=>?_))<;>(try(exfalso;assumption)))|(((with_reducible refine ae fun K E hK hE=>?_))<;>(try simp(disch:=omega) only[go_sem,seval,hlr, *]))))
      refine aI (fun m env s2=>∃i:Nat,i<=ds.length/\m+i=ds.length/\s2=s'/\Hid (((ds.map (·.name)).take i).Nodup)/\env 1=.ptr pp 0/\env 4=.int .i64 i) ds.length ?_ ?_
      · exact⟨_,Fg.refl _,0,by omega,by omega,rfl,u_ (by simp),ab,ab⟩
      clear e1 e3 env hm hi hlt m i
      rintro m env s2 ⟨i,hi,hm,rfl,HN,e1,e4⟩
      by_cases hlt:i<ds.length
      · obtain⟨d,hd0⟩:=aN hlt
        have hsx:=ge hd0
        have hnm:(ds.map (·.name))[i]?=some d.name:=by rw[c_,hd0];rfl
        have HNM:=u_ hnm
        clear hd0 hnm
        obtain⟨dn,dz⟩:=d
        (repeat'(first|refine Ctl ?_|((with_reducible refine j_ hK ?_);clear hK hE K E)|((with_reducible refine aj (fun h=>?_) (fun h=>?_))<;>(try(exfalso;assumption)))|(((with_reducible refine ae fun K E hK hE=>?_))<;>(try simp(disch:=omega) only[go_sem,seval,hlr, *]))))
        refine aI (fun m' env s3=>∃k:Nat,k<=i/\m'+k=i/\s3=s2/\Hid (∀j,j<k->(ds.map (·.name))[j]?≠some dn)/\env 1=.ptr pp 0/\env 4=.int .i64 i/\env 5=.int .i64 k) i ?_ ?_
        · exact⟨_,Fg.refl _,0,by omega,by omega,rfl,u_ (fun j hj=>by omega),ab,ab,ab⟩
        clear e1 e4 env
        rintro m' env s3 ⟨k,hk,hm',rfl,HK,e1,e4,e5⟩
        by_cases hlk:k<i
        · obtain⟨c,hc0⟩:=aN (l:=ds) (i:=k) (by omega)
          have hsy:=ge hc0
          have hcm:(ds.map (·.name))[k]?=some c.name:=by rw[c_,hc0];rfl
          have HCM:=u_ hcm
          clear hc0 hcm
          obtain⟨cn,cz⟩:=c
          by_cases hcn:dn=cn
          · have hE:RE=120:=by
              rw[HRD2.out,if_pos]
              refine .inl (p5 (i:=i+1) ?_)
              rw[ik HNM.out]
              rintro⟨_,h2⟩
              exact h2 (s6 hlk (by rw[HCM.out];simp only;rw[hcn]))
            subst hE
            subst hcn
            (repeat'(first|refine Ctl ?_|(with_reducible first|(refine j_ hK ?_;clear hK hE K E)|(refine j_ hKh ?_;clear hKh Kh)|refine aq 14 [] [0,1,2,3,4,5,6,7,8,9,10,11,12] hQe fun K E hK hE=>?_)|((with_reducible refine aj (fun h=>?_) (fun h=>?_))<;>(try(exfalso;assumption)))|(((with_reducible first|refine ae fun K E hK hE=>?_|refine aD fun Kh hKh=>?_))<;>(try simp(disch:=omega) only[go_sem,seval,hlr,hsx,hsy,dmC, *]))))
            all_goals(refine ap iU hQ ?_)
            all_goals(refine⟨_,_,Wk.of_eq ?_,?_,rfl,rfl⟩)
            all_goals first|rfl|exact HF.out
          · have hcf:(dn=cn)=False:=eq_false hcn
            have HCN:=u_ hcn
            clear hcn
            (repeat'(first|refine Ctl ?_|(with_reducible first|(refine j_ hK ?_;clear hK hE K E)|(refine j_ hKh ?_;clear hKh Kh)|refine aq 14 [] [0,1,2,3,4,5,6,7,8,9,10,11,12] hQe fun K E hK hE=>?_)|((with_reducible refine aj (fun h=>?_) (fun h=>?_))<;>(try(exfalso;assumption)))|(((with_reducible first|refine ae fun K E hK hE=>?_|refine aD fun Kh hKh=>?_))<;>(try simp(disch:=omega) only[go_sem,seval,hlr,hsx,hsy,dmC, *]))))
            refine⟨_,Fg.refl _,m' - 1,by omega,k+1,by omega,by omega,rfl,u_ (fun j hj=>?_),ab,ab,ab⟩
            by_cases hjk:j=k
            · subst hjk
              rw[HCM.out]
              intro e
              injection e with e
              exact HCN.out e.symm
            · exact HK.out j (by omega)
        · (repeat'(first|refine Ctl ?_|((with_reducible refine j_ hK ?_);clear hK hE K E)|((with_reducible refine aj (fun h=>?_) (fun h=>?_))<;>(try(exfalso;assumption)))|(((with_reducible refine ae fun K E hK hE=>?_))<;>(try simp(disch:=omega) only[go_sem,seval,hlr, *]))))
          refine⟨_,Fg.refl _,m - 1,by omega,i+1,by omega,by omega,rfl,u_ ?_,ab,ab⟩
          rw[ik HNM.out]
          refine⟨HN.out,fun hmem=>?_⟩
          obtain⟨j,hj,e⟩:=s7 hmem
          exact HK.out j (by omega) e
      · have hdn:=HN.out
        rw[B_ (by simp;omega)]at hdn
        have HDN:=u_ hdn
        clear hdn HN
        (repeat'(first|refine Ctl ?_|((with_reducible refine j_ hK ?_);clear hK hE K E)|((with_reducible refine aj (fun h=>?_) (fun h=>?_))<;>(try(exfalso;assumption)))|(((with_reducible refine ae fun K E hK hE=>?_))<;>(try simp(disch:=omega) only[go_sem,seval,hlr, *]))))
        refine aI (fun m env s3=>∃i:Nat,i<=cs.length/\m+i=cs.length/\s3=s2/\Hid (((cs.map (·.name)).take i).Nodup)/\env 1=.ptr pp 0/\env 6=.int .i64 i) cs.length ?_ ?_
        · exact⟨_,Fg.refl _,0,by omega,by omega,rfl,u_ (by simp),ab,ab⟩
        clear e1 e4 env hm hi hlt m i
        rintro m env s3 ⟨i,hi,hm,rfl,HN,e1,e6⟩
        by_cases hlt:i<cs.length
        · obtain⟨d,hd0⟩:=aN hlt
          have hsx:=dp hd0
          have hnm:(cs.map (·.name))[i]?=some d.name:=by rw[c_,hd0];rfl
          have HNM:=u_ hnm
          clear hd0 hnm
          obtain⟨dn,dz⟩:=d
          by_cases hrz:eI cs dn=(i:Int)
          · have HRZ:=u_ hrz
            have hit:((eI cs dn=(i:Int))=True):=eq_true hrz
            (repeat'(first|refine Ctl ?_|(with_reducible first|(refine j_ hK ?_;clear hK hE K E)|(refine j_ hKh ?_;clear hKh Kh)|(refine j_ hKb (aL ?_);clear hKb Kb)|refine aq 19 [([0,1,2,3,4,5,6,8],7,[[8]])] [9] hQe fun K E hK hE=>?_)|((with_reducible refine aj (fun h=>?_) (fun h=>?_))<;>(try(exfalso;assumption)))|(((with_reducible first|refine ae fun K E hK hE=>?_|refine ak fm (w3 _ _) ?_|refine aE fun Kh hKh=>?_|refine aD fun Kh hKh=>?_|refine aM fun Kb hKb=>?_))<;>(try simp(disch:=omega) only[go_sem,seval,hle,hsx,az, *]))))
            refine⟨_,Fg.refl _,m - 1,by omega,i+1,by omega,by omega,rfl,u_ ?_,ab,ab⟩
            rw[ik HNM.out]
            refine⟨HN.out,(qc HNM.out).1 ?_⟩
            have hz:=HRZ.out
            unfold eI cO at hz
            cases hx:ixT dn (cs.map (·.name))with
            |none=>rw[hx]at hz;simp only at hz;omega
            |some j=>rw[hx]at hz;simp only at hz;congr 1;omega
          · have hE:RE=120:=by
              rw[HRD2.out,if_pos]
              refine .inr (p5 (i:=i+1) ?_)
              rw[ik HNM.out]
              rintro⟨_,h2⟩
              apply hrz
              unfold eI cO
              rw[(qc HNM.out).2 h2]
            subst hE
            have hif:((eI cs dn=(i:Int))=False):=eq_false hrz
            (repeat'(first|refine Ctl ?_|(with_reducible first|(refine j_ hK ?_;clear hK hE K E)|(refine j_ hKh ?_;clear hKh Kh)|(refine j_ hKb (aL ?_);clear hKb Kb)|refine aq 19 [([0,1,2,3,4,5,6,8],7,[[8]])] [9] hQe fun K E hK hE=>?_)|((with_reducible refine aj (fun h=>?_) (fun h=>?_))<;>(try(exfalso;assumption)))|(((with_reducible first|refine ae fun K E hK hE=>?_|refine ak fm (w3 _ _) ?_|refine aE fun Kh hKh=>?_|refine aD fun Kh hKh=>?_|refine aM fun Kb hKb=>?_))<;>(try simp(disch:=omega) only[go_sem,seval,hle,hsx,az, *]))))
            all_goals(refine ap iU hQ ?_)
            all_goals(refine⟨_,_,Wk.of_eq ?_,?_,rfl,rfl⟩)
            all_goals first|rfl|exact HF.out
        · have hcn:=HN.out
          rw[B_ (by simp;omega)]at hcn
          have hr3:=HRD2.out
          rw[if_neg (by rintro(h|h);exact h HDN.out;exact h hcn)]at hr3
          have HRD3:=u_ hr3
          clear hcn HN hr3 HRD2 HDN
          (repeat'(first|refine Ctl ?_|((with_reducible refine j_ hK ?_);clear hK hE K E)|((with_reducible refine aj (fun h=>?_) (fun h=>?_))<;>(try(exfalso;assumption)))|(((with_reducible refine ae fun K E hK hE=>?_))<;>(try simp(disch:=omega) only[go_sem,seval,hle, *]))))
          refine aI (fun m env s4=>∃i:Nat,i<=cs.length/\m+i=cs.length/\s4=s3/\Hid ((cs.take i).all (kwn ds)=true)/\env 1=.ptr pp 0/\env 7=.int .i64 i) cs.length ?_ ?_
          · exact⟨_,Fg.refl _,0,by omega,by omega,rfl,u_ (by simp),ab,ab⟩
          clear e1 e6 env hm hi hlt m i
          rintro m env s4 ⟨i,hi,hm,rfl,HN,e1,e7⟩
          by_cases hlt:i<cs.length
          · obtain⟨d,hd0⟩:=aN hlt
            have hsx:=dp hd0
            have hdl:=(HDC.out d (p_ hd0)).2.1
            have HD:=u_ hd0
            clear hd0
            obtain⟨dn,dz⟩:=d
            simp only at hdl
            have hlz:(aA dz).length=dz.length:=by simp[aA]
            (repeat'(first|refine Ctl ?_|((with_reducible refine j_ hK ?_);clear hK hE K E)|((with_reducible refine aj (fun h=>?_) (fun h=>?_))<;>(try(exfalso;assumption)))|(((with_reducible refine ae fun K E hK hE=>?_))<;>(try simp(disch:=omega) only[go_sem,seval,hle,hsx,az, *]))))
            refine aI (fun m' env s5=>∃k:Nat,k<=dz.length/\m'+k=dz.length/\s5=s4/\Hid ((dz.take k).all (fun s=>!decide (da ds s=0))=true)/\env 1=.ptr pp 0/\env 7=.int .i64 i/\env 8=.int .i64 k) dz.length ?_ ?_
            · exact⟨_,Fg.refl _,0,by omega,by omega,rfl,u_ (by simp),ab,ab,ab⟩
            clear e1 e7 env
            rintro m' env s5 ⟨k,hk,hm',rfl,HK,e1,e7,e8⟩
            by_cases hlk:k<dz.length
            · obtain⟨c,hc0⟩:=aN hlk
              have hsy:=dm hc0
              have HC:=u_ hc0
              clear hc0
              by_cases hz0:da ds c=0
              · have hE:RE=121:=by
                  rw[HRD3.out,if_pos]
                  exact bO HD.out (by unfold kwn;exact bO HC.out (by simp[hz0]))
                subst hE
                (repeat'(first|refine Ctl ?_|(with_reducible first|(refine j_ hK ?_;clear hK hE K E)|(refine j_ hKh ?_;clear hKh Kh)|(refine j_ hKb (aL ?_);clear hKb Kb)|refine aq 27 [([0,1,2,3,4,5,6,7,8,9],10,[[]])] [11] hQe fun K E hK hE=>?_)|((with_reducible refine aj (fun h=>?_) (fun h=>?_))<;>(try(exfalso;assumption)))|(((with_reducible first|refine ae fun K E hK hE=>?_|refine ak jP (w2 _ _) ?_|refine aE fun Kh hKh=>?_|refine aD fun Kh hKh=>?_|refine aM fun Kb hKb=>?_))<;>(try simp(disch:=omega) only[go_sem,seval,hle,hsx,az,hlz,hsy,hz0, *]))))
                all_goals(refine ap iU hQ ?_)
                all_goals(refine⟨_,_,Wk.of_eq ?_,?_,rfl,rfl⟩)
                all_goals first|rfl|exact HF.out
              · have hzf:(da ds c=0)=False:=eq_false hz0
                have HZ:=u_ hz0
                clear hz0
                (repeat'(first|refine Ctl ?_|(with_reducible first|(refine j_ hK ?_;clear hK hE K E)|(refine j_ hKh ?_;clear hKh Kh)|(refine j_ hKb (aL ?_);clear hKb Kb)|refine aq 27 [([0,1,2,3,4,5,6,7,8,9],10,[[]])] [11] hQe fun K E hK hE=>?_)|((with_reducible refine aj (fun h=>?_) (fun h=>?_))<;>(try(exfalso;assumption)))|(((with_reducible first|refine ae fun K E hK hE=>?_|refine ak jP (w2 _ _) ?_|refine aE fun Kh hKh=>?_|refine aD fun Kh hKh=>?_|refine aM fun Kb hKb=>?_))<;>(try simp(disch:=omega) only[go_sem,seval,hle,hsx,az,hlz,hsy, *]))))
                exact⟨_,Fg.refl _,m' - 1,by omega,k+1,by omega,by omega,rfl,u_ (bE HK.out HC.out (by simp[HZ.out])),ab,ab,ab⟩
            · have hall:=HK.out
              rw[B_ (by omega)]at hall
              have HALL:=u_ hall
              clear hall HK
              (repeat'(first|refine Ctl ?_|((with_reducible refine j_ hK ?_);clear hK hE K E)|((with_reducible refine aj (fun h=>?_) (fun h=>?_))<;>(try(exfalso;assumption)))|(((with_reducible refine ae fun K E hK hE=>?_))<;>(try simp(disch:=omega) only[go_sem,seval,hle,hsx,az,hlz, *]))))
              exact⟨_,Fg.refl _,m - 1,by omega,i+1,by omega,by omega,rfl,u_ (bE HN.out HD.out HALL.out),ab,ab⟩
          · have hall:=HN.out
            rw[B_ (by omega)]at hall
            have hE:RE=0:=by rw[HRD3.out,if_neg (by rw[hall];simp)]
            subst hE
            clear hall HN
            (repeat'(first|refine Ctl ?_|((with_reducible refine j_ hK ?_);clear hK hE K E)|((with_reducible refine aj (fun h=>?_) (fun h=>?_))<;>(try(exfalso;assumption)))|(((with_reducible refine ae fun K E hK hE=>?_))<;>(try simp(disch:=omega) only[go_sem,seval,hle, *]))))
            all_goals(refine ap iU hQ ?_)
            all_goals(refine⟨_,_,Wk.of_eq ?_,?_,rfl,rfl⟩)
            all_goals first|rfl|exact HF.out
theorem Bu {n:List UInt8}{l:List (List UInt8)}(h:ixT n l=none):ixZ n l=-1:=by unfold ixZ;rw[h]
theorem Bt {n:List UInt8}{l:List (List UInt8)}{i:Nat}(h:ixT n l=some i):ixZ n l=(i:Int):=by unfold ixZ;rw[h]
def ScO (T:St)(o1 o2:Own)(X:Scp):St:=(T.own o1 9 1 X.vs.length).own o2 9 1 X.ds.length
def ScK (T:St)(o1 o2:Own)(X:Scp):Prop:=OwnOk T o1 X.vs.length/\OwnOk (T.own o1 9 1 X.vs.length) o2 X.ds.length
def scC (X:Scp)(o1 o2:Own):List VV:=[.lst (aA X.vs) o1,.lst (aA X.ds) o2]
def RaQ (T:St)(r:Except Int Scp):SEnd->St->Prop:=fun w u=>
 match r with
 |.ok Y=>∃p1 p2,w=.ret (.tup [.agg (scC Y p1 p2),.int .i64 0])/\u=ScO T p1 p2 Y/\ScK T p1 p2 Y/\WfS Y
 |.error e=>e≠0/\∃(Z:Scp) (p1 p2:Own),w=.ret (.tup [.agg (scC Z p1 p2),.int .i64 e])/\u=T
theorem JW {s:St}{b1 b2 b3 b4:Nat}{c1 c2 c3 c4:Cell}(h3:¬ b3=b2)(h4:¬ b4=b2):(((s.set b1 c1).set b2 c2).set b3 c3).set b4 c4=(((s.set b1 c1).set b3 c3).set b4 c4).set b2 c2:=by
 rw[cJ (x:=b2) (y:=b3) (fun e=>h3 e.symm),cJ (x:=b2) (y:=b4) (fun e=>h4 e.symm)]
attribute [local go_sem] dA bD aH aV cH
set_option maxHeartbeats 8000000 in
theorem jF (T:St)(x:Pgm)(X:Scp)(o1 o2 o0:Own)(a:Atm)(hK:ScK T o1 o2 X)(hx:x.doms.length<=140737488355328)(hc:x.decls.length<=140737488355328)(hW:WfS X)(ha:a.ts.length<=100000)(hX:X.vs.length<=10000000) :
  SCalls Tryz.prog 82 [.agg (pgC x),.agg (scC X o1 o2),.agg [.bool a.not,.str a.rel,.lst (a.ts.map aC) o0]] (ScO T o1 o2 X) (RaQ T (bU x X a)):=by
 have w2:=fun n s=>rT x n hx s
 have w3:=fun n s=>lR x n hc s
 obtain⟨an,ar,ats⟩:=a
 obtain⟨xds,xcs,xrs⟩:=x
 obtain⟨hK1,hK2⟩:=hK
 simp only at ha hx hc w2 w3
 have hle:(xcs.map az).length=xcs.length:=by simp
 have hla:(ats.map aC).length=ats.length:=by simp
 generalize hR:bU ⟨xds,xcs,xrs⟩ X ⟨an,ar,ats⟩=R
 unfold bU at hR
 simp only at hR
 simp only[pgC,scC]at w2 w3 ⊢
 cases hk:cO xcs ar with
 |none=>
  rw[hk]at hR
  simp only at hR
  have hrz:eI xcs ar=-1:=by unfold eI;rw[hk]
  clear hk
  subst hR
  have hFT:Fg (ScO T o1 o2 X) T:=(Fg.own hK2).trans (Fg.own hK1)
  generalize ScO T o1 o2 X=S at *
  have HFT:=u_ hFT
  clear hFT
  refine aw Tryz.func82 rfl Tryz.ntmps82 rfl fun Q hQ hQe=>?_
  (repeat'(first|refine Ctl ?_|((with_reducible refine j_ hK ?_);clear hK hE K E)|((with_reducible refine aj (fun h=>?_) (fun h=>?_))<;>(try(exfalso;assumption)))|((first|(with_reducible first|refine ae fun K E hK hE=>?_|refine ak fm (w3 _ _) ?_)|((with_reducible refine ao (fun b hb=>?_));(repeat(obtain⟨_,hb⟩:=hb))))<;>(try simp(disch:=omega) only[go_sem,seval,hrz, *]))))
  all_goals(refine ap pO hQ ?_)
  exact⟨_,T,Wk.refl _,(bC:Fg _ S).trans HFT.out,by decide,X,o1,o2,rfl,rfl⟩
 |some k=>
  rw[hk]at hR
  simp only at hR
  have hrz:eI xcs ar=(k:Int):=by unfold eI;rw[hk]
  obtain⟨dc,hdc,_⟩:∃dc,xcs[k]?=some dc/\True:=by
   have:=cI hk
   rw[c_]at this
   obtain⟨dc,h,_⟩:=Option.map_eq_some_iff.1 this
   exact⟨dc,h,trivial⟩
  rw[hdc]at hR
  simp only at hR
  have hkl:=(n_.1 hdc).1
  have hsd:=dp hdc
  obtain⟨dn,dd⟩:=dc
  simp only at hR
  have hsl:(aA dd).length=dd.length:=by simp[aA]
  clear hk hdc
  by_cases hlen:ats.length=dd.length
  ·rw[if_neg (by simpa using hlen)]at hR
   have hli:((ats.length:Int)=(dd.length:Int))=True:=eq_true (by omega)
   unfold ScO
   have hWX:X.ds.length=X.vs.length:=hW
   refine aw Tryz.func82 rfl Tryz.ntmps82 rfl fun Q hQ hQe=>?_
   (repeat'(first|refine Ctl ?_|(with_reducible first|(refine j_ hK ?_;clear hK hE K E)|(refine j_ hKh ?_;clear hKh Kh)|refine aq 4 [] [0,1,2,3,4,5,6,7,8,9,10] hQe fun K E hK hE=>?_)|((with_reducible refine aj (fun h=>?_) (fun h=>?_))<;>(try(exfalso;first|assumption|omega)))|((first|(with_reducible first|refine ae fun K E hK hE=>?_|refine ak fm (w3 _ _) ?_|refine aD fun Kh hKh=>?_)|((with_reducible refine ao (fun b hb=>?_));(repeat(obtain⟨_,hb⟩:=hb));(try(rw[aR,aR]at hb;obtain⟨_,_,hb⟩:=hb))))<;>(try simp(disch:=omega) only[go_sem,seval,hrz,hle,hla,hsd,az,hsl, *]))))
   rename_i bp p1 p2 hbp bx x1 x2 x3 x4 hbx ba a1 a2 a3 a4 a5 a6 hba r1 r2 r3 r4 r5 r6 r7 r8 hk0
   obtain⟨br,hbr⟩:∃z,z=b:=⟨_,rfl⟩
   subst hbr
   have hst:(((((T.own o1 9 1 X.vs.length).own o2 9 1 X.vs.length).set bp (.obj 26 [.lst (xds.map dmC) .no,.lst (xcs.map az) .no,.lst (xrs.map ax) .no])).set bx (.obj 114 [.lst (aA X.vs) o1,.lst (aA X.ds) o2])).set ba (.obj 40 [.bool an,.str ar,.lst (ats.map aC) o0])).set br (.obj 114 [.lst [] .full,.lst [] .full])=(((((T.set bp (.obj 26 [.lst (xds.map dmC) .no,.lst (xcs.map az) .no,.lst (xrs.map ax) .no])).set ba (.obj 40 [.bool an,.str ar,.lst (ats.map aC) o0])).set br (.obj 114 [.lst [] .full,.lst [] .full])).own o1 9 1 X.vs.length).own o2 9 1 X.vs.length).set bx (.obj 114 [.lst (aA X.vs) o1,.lst (aA X.ds) o2]):=by
    rw[aZ r8,aZ a6,aZ p2,aZ r7,aZ a5,aZ p1]
    exact JW a1 r3
   rw[hst]
   have hB1:OwnOk (((T.set bp (.obj 26 [.lst (xds.map dmC) .no,.lst (xcs.map az) .no,.lst (xrs.map ax) .no])).set ba (.obj 40 [.bool an,.str ar,.lst (ats.map aC) o0])).set br (.obj 114 [.lst [] .full,.lst [] .full])) o1 X.vs.length:=by
    rw[bc,bc,bc];exact⟨r8,a6,p2,hK1⟩
   have hB2:OwnOk ((((T.set bp (.obj 26 [.lst (xds.map dmC) .no,.lst (xcs.map az) .no,.lst (xrs.map ax) .no])).set ba (.obj 40 [.bool an,.str ar,.lst (ats.map aC) o0])).set br (.obj 114 [.lst [] .full,.lst [] .full])).own o1 9 1 X.vs.length) o2 X.vs.length:=by
    rw[aZ r8,aZ a6,aZ p2,bc,bc,bc];rw[hWX]at hK2;exact⟨r7,a5,p1,hK2⟩
   have hBp:(((T.set bp (.obj 26 [.lst (xds.map dmC) .no,.lst (xcs.map az) .no,.lst (xrs.map ax) .no])).set ba (.obj 40 [.bool an,.str ar,.lst (ats.map aC) o0])).set br (.obj 114 [.lst [] .full,.lst [] .full])) bp=(.obj 26 [.lst (xds.map dmC) .no,.lst (xcs.map az) .no,.lst (xrs.map ax) .no]):=by rw[k_ _ _ r6,k_ _ _ a4,q_]
   have hBa:(((T.set bp (.obj 26 [.lst (xds.map dmC) .no,.lst (xcs.map az) .no,.lst (xrs.map ax) .no])).set ba (.obj 40 [.bool an,.str ar,.lst (ats.map aC) o0])).set br (.obj 114 [.lst [] .full,.lst [] .full])) ba=(.obj 40 [.bool an,.str ar,.lst (ats.map aC) o0]):=by rw[k_ _ _ r2,q_]
   have hBr:(((T.set bp (.obj 26 [.lst (xds.map dmC) .no,.lst (xcs.map az) .no,.lst (xrs.map ax) .no])).set ba (.obj 40 [.bool an,.str ar,.lst (ats.map aC) o0])).set br (.obj 114 [.lst [] .full,.lst [] .full])) br=(.obj 114 [.lst [] .full,.lst [] .full]):=q_ _ _ _
   have hBx:(((T.set bp (.obj 26 [.lst (xds.map dmC) .no,.lst (xcs.map az) .no,.lst (xrs.map ax) .no])).set ba (.obj 40 [.bool an,.str ar,.lst (ats.map aC) o0])).set br (.obj 114 [.lst [] .full,.lst [] .full])) bx=.free:=by rw[k_ _ _ r4,k_ _ _ a2,k_ _ _ x1];exact hbx
   have hF:Fg (((T.set bp (.obj 26 [.lst (xds.map dmC) .no,.lst (xcs.map az) .no,.lst (xrs.map ax) .no])).set ba (.obj 40 [.bool an,.str ar,.lst (ats.map aC) o0])).set br (.obj 114 [.lst [] .full,.lst [] .full])) T:=bC
   generalize (((T.set bp (.obj 26 [.lst (xds.map dmC) .no,.lst (xcs.map az) .no,.lst (xrs.map ax) .no])).set ba (.obj 40 [.bool an,.str ar,.lst (ats.map aC) o0])).set br (.obj 114 [.lst [] .full,.lst [] .full]))=B at *
   have HF:=u_ hF
   have HTB:=u_ hb
   have HTX:=u_ hbx
   have hBpf:B bp≠.free:=by rw[hBp];simp
   have hBaf:B ba≠.free:=by rw[hBa];simp
   have hBrf:B br≠.free:=by rw[hBr];simp
   clear hst hF hb hbx hba hbp p1 p2 a5 a6 r7 r8 hK1 hK2
   refine aI (fun m env s'=>∃(i:Nat) (Y:Scp) (p1 p2:Own),i<=ats.length/\m+i=ats.length/\Y.ds.length=Y.vs.length/\Y.vs.length<=X.vs.length+i/\Hid (c5 (da xds) Y (ats.drop i) (dd.drop i)=R) /\
    OwnOk B p1 Y.vs.length/\OwnOk (B.own p1 9 1 Y.vs.length) p2 Y.vs.length/\ay p1 bx/\ay p2 bx /\
    s'=((B.own p1 9 1 Y.vs.length).own p2 9 1 Y.vs.length).set bx (.obj 114 [.lst (aA Y.vs) p1,.lst (aA Y.ds) p2]) /\
    env 3=.ptr bp 0/\env 4=.ptr bx 0/\env 5=.ptr ba 0/\env 6=.ptr br 0/\env 8=.int .i64 k/\env 9=.int .i64 i) ats.length ?_ ?_
   ·exact⟨_,Fg.refl _,0,X,o1,o2,by omega,by omega,hWX,by omega,u_ hR,hB1,hB2,x4,x3,rfl,ab,ab,ab,ab,ab,ab⟩
   clear hR hB1 hB2 hWX hW x3 x4
   rintro m env s' ⟨i,Y,p1,p2,hi,hm,hWY,hYl,HI,hq1,hq2,hx1,hx2,rfl,e3,e4,e5,e6,e8,e9⟩
   have hp1p:=hq1.not hBpf
   have hp1a:=hq1.not hBaf
   have hp1r:=hq1.not hBrf
   have hp2p:=hq2.not (b:=bp) (by rw[c7 hp1p];exact hBpf)
   have hp2a:=hq2.not (b:=ba) (by rw[c7 hp1a];exact hBaf)
   have hp2r:=hq2.not (b:=br) (by rw[c7 hp1r];exact hBrf)
   have hl1:(aA Y.vs).length=Y.vs.length:=by simp[aA]
   have hl2:(aA Y.ds).length=Y.vs.length:=by simp[aA,hWY]
   by_cases hlt:i<ats.length
   ·obtain⟨c,hc⟩:=aN hlt
    obtain⟨d,hd⟩:=aN (l:=dd) (i:=i) (by omega)
    have hsx:=dl hc
    have hsy:=dm hd
    have hI:=HI.out
    rw[g_ hlt,show ats[i]=c by rw[b_ hlt]at hc;injection hc,g_ (show i<dd.length by omega),show dd[i]=d by rw[b_ (by omega)]at hd;injection hd]at hI
    simp only[c5]at hI
    clear hc hd HI
    obtain⟨cv,cn,cz⟩:=c
    cases cv
    ·rw[mb]at hI
     by_cases hdz:da xds d<=cz
     ·rw[if_pos hdz,jb]at hI
      subst hI
      (repeat'(first|refine Ctl ?_|(with_reducible first|(refine j_ hK ?_;clear hK hE K E)|(refine j_ hKh ?_;clear hKh Kh)|(refine j_ hKb (aL ?_);clear hKb Kb)|refine aq 11 [([0,1,2,3,4,5,6,7],8,[[0,1,2,3,4,5]])] [9] hQe fun K E hK hE=>?_)|((with_reducible refine aj (fun h=>?_) (fun h=>?_))<;>(try(exfalso;first|assumption|omega)))|(((with_reducible first|refine ae fun K E hK hE=>?_|refine ak jP (w2 _ _) ?_|refine aE fun Kh hKh=>?_|refine aD fun Kh hKh=>?_|refine aM fun Kb hKb=>?_))<;>(try simp(disch:=first|assumption|omega) only[go_sem,seval,hle,hla,hsd,az,hsl,hsx,hsy,aC,hl1,hl2, *]))))
      all_goals(refine ap pO hQ ?_)
      exact⟨_,T,Wk.refl _,w_ (w_ (((Fg.own hq2).trans (Fg.own hq1)).trans HF.out) HTX.out) HTB.out,by decide,Y,p1,p2,rfl,rfl⟩
     ·rw[if_neg hdz,dX]at hI
      have HI2:=u_ hI
      clear hI
      (repeat'(first|refine Ctl ?_|(with_reducible first|(refine j_ hK ?_;clear hK hE K E)|(refine j_ hKh ?_;clear hKh Kh)|(refine j_ hKb (aL ?_);clear hKb Kb)|refine aq 11 [([0,1,2,3,4,5,6,7],8,[[0,1,2,3,4,5]])] [9] hQe fun K E hK hE=>?_)|((with_reducible refine aj (fun h=>?_) (fun h=>?_))<;>(try(exfalso;first|assumption|omega)))|(((with_reducible first|refine ae fun K E hK hE=>?_|refine ak jP (w2 _ _) ?_|refine aE fun Kh hKh=>?_|refine aD fun Kh hKh=>?_|refine aM fun Kb hKb=>?_))<;>(try simp(disch:=first|assumption|omega) only[go_sem,seval,hle,hla,hsd,az,hsl,hsx,hsy,aC,hl1,hl2, *]))))
      exact⟨_,Fg.refl _,m - 1,by omega,i+1,Y,p1,p2,by omega,by omega,hWY,by omega,HI2,hq1,hq2,hx1,hx2,rfl,ab,ab,ab,ab,ab,ab⟩
    ·have w4:=fun s=>EG Y.vs cn p1 (by omega) s
     cases hx:ixT cn Y.vs with
     |none=>
      rw[pz hx,dX]at hI
      have HI2:=u_ hI
      rw[Bu hx]at w4
      clear hI hx
      have hq2b:=sZ hq2
      (repeat'(first|refine Ctl ?_|(with_reducible first|(refine j_ hK ?_;clear hK hE K E)|(refine j_ hKh ?_;clear hKh Kh)|(refine j_ hKb (aL ?_);clear hKb Kb)|refine aq 13 [([0,1,2,3,4,5,6,7],8,[[]])] [9] hQe fun K E hK hE=>?_|refine aq 15 [([0,1,2,3,4,5,6,7,8],9,[[]]),([10],11,[[],[]])] [] hQe fun K E hK hE=>?_)|((with_reducible refine aj (fun h=>?_) (fun h=>?_))<;>(try(exfalso;first|assumption|omega)))|((first|(with_reducible first|refine ae fun K E hK hE=>?_|refine ak vS (w4 _) ?_|refine aE fun Kh hKh=>?_|refine aD fun Kh hKh=>?_|refine aM fun Kb hKb=>?_)|((with_reducible refine cq (fun o2 ho=>?_));(try simp(disch:=assumption) only[aQ,aS,bc,cB,a_,List.length_cons,List.length_nil,Nat.zero_add,hle,hla,hsd,az,hsl,hsx,hsy,aC,hl1,hl2,bD]at ho);(repeat(obtain⟨_,ho⟩:=ho))))<;>(try simp(disch:=first|assumption|omega) only[go_sem,seval,hle,hla,hsd,az,hsl,hsx,hsy,aC,hl1,hl2,bD, *]))))
      rename_i o3 m1 g1 m2
      refine⟨_,Fg.refl _,m - 1,by omega,i+1,⟨Y.vs++[cn],Y.ds++[d]⟩,o3,o2,by omega,by omega,by simp[hWY],by simp;omega,HI2,?_,?_,m1,m2,?_,ab,ab,ab,ab,ab,ab⟩
      ·simp only[d_,List.length_cons,List.length_nil];exact sZ g1
      ·simp only[d_,List.length_cons,List.length_nil];exact ho
      ·simp only[d_,List.length_cons,List.length_nil,aA,List.map_append,List.map_cons,List.map_nil]
     |some j=>
      rw[py hx]at hI
      rw[Bt hx]at w4
      have hjl:=(n_.1 (cI hx)).1
      obtain⟨dj,hdj⟩:=aN (l:=Y.ds) (i:=j) (by omega)
      have hsj:=dm hdj
      rw[hdj]at hI
      clear hx hdj
      by_cases hdd:dj=d
      ·subst hdd
       rw[if_pos rfl,dX]at hI
       have HI2:=u_ hI
       clear hI
       (repeat'(first|refine Ctl ?_|(with_reducible first|(refine j_ hK ?_;clear hK hE K E)|(refine j_ hKh ?_;clear hKh Kh)|(refine j_ hKb (aL ?_);clear hKb Kb)|refine aq 13 [([0,1,2,3,4,5,6,7],8,[[]])] [9] hQe fun K E hK hE=>?_)|((with_reducible refine aj (fun h=>?_) (fun h=>?_))<;>(try(exfalso;first|assumption|omega)))|(((with_reducible first|refine ae fun K E hK hE=>?_|refine ak vS (w4 _) ?_|refine aE fun Kh hKh=>?_|refine aD fun Kh hKh=>?_|refine aM fun Kb hKb=>?_))<;>(try simp(disch:=first|assumption|omega) only[go_sem,seval,hle,hla,hsd,az,hsl,hsx,hsy,aC,hl1,hl2,hsj, *]))))
       exact⟨_,Fg.refl _,m - 1,by omega,i+1,Y,p1,p2,by omega,by omega,hWY,by omega,HI2,hq1,hq2,hx1,hx2,rfl,ab,ab,ab,ab,ab,ab⟩
      ·rw[if_neg (fun e=>hdd (by injection e)),jb]at hI
       subst hI
       have hdf:(dj=d)=False:=eq_false hdd
       (repeat'(first|refine Ctl ?_|(with_reducible first|(refine j_ hK ?_;clear hK hE K E)|(refine j_ hKh ?_;clear hKh Kh)|(refine j_ hKb (aL ?_);clear hKb Kb)|refine aq 13 [([0,1,2,3,4,5,6,7],8,[[]])] [9] hQe fun K E hK hE=>?_)|((with_reducible refine aj (fun h=>?_) (fun h=>?_))<;>(try(exfalso;first|assumption|omega)))|(((with_reducible first|refine ae fun K E hK hE=>?_|refine ak vS (w4 _) ?_|refine aE fun Kh hKh=>?_|refine aD fun Kh hKh=>?_|refine aM fun Kb hKb=>?_))<;>(try simp(disch:=first|assumption|omega) only[go_sem,seval,hle,hla,hsd,az,hsl,hsx,hsy,aC,hl1,hl2,hsj, *]))))
       all_goals(refine ap pO hQ ?_)
       exact⟨_,T,Wk.refl _,w_ (w_ (((Fg.own hq2).trans (Fg.own hq1)).trans HF.out) HTX.out) HTB.out,by decide,Y,p1,p2,rfl,rfl⟩
   ·have hI:=HI.out
    rw[show i=ats.length by omega,G_]at hI
    simp only[c5]at hI
    subst hI
    clear HI
    (repeat'(first|refine Ctl ?_|((with_reducible refine j_ hK ?_);clear hK hE K E)|((with_reducible refine aj (fun h=>?_) (fun h=>?_))<;>(try(exfalso;omega)))|(((with_reducible refine ae fun K E hK hE=>?_))<;>(try simp(disch:=first|assumption|omega) only[go_sem,seval,hla, *]))))
    all_goals(refine ap pO hQ ?_)
    refine⟨_,ScO T p1 p2 Y,Wk.refl _,?_,p1,p2,rfl,rfl,⟨hq1.fg HF.out,?_⟩,hWY⟩
    ·unfold ScO
     rw[hWY]
     exact w_ (w_ (Fg.ownm (Fg.ownm HF.out)) (by rw[aR,aR];exact⟨hx2,hx1,HTX.out⟩)) (by rw[aR,aR];exact⟨hp2r,hp1r,HTB.out⟩)
    ·rw[hWY]
     exact hq2.fg (Fg.ownm HF.out)
  ·rw[if_pos (by simpa using hlen)]at hR
   have hli:((ats.length:Int)=(dd.length:Int))=False:=eq_false (by omega)
   subst hR
   have hFT:Fg (ScO T o1 o2 X) T:=(Fg.own hK2).trans (Fg.own hK1)
   generalize ScO T o1 o2 X=S at *
   have HFT:=u_ hFT
   clear hFT
   refine aw Tryz.func82 rfl Tryz.ntmps82 rfl fun Q hQ hQe=>?_
   (repeat'(first|refine Ctl ?_|(with_reducible first|(refine j_ hK ?_;clear hK hE K E)|(refine j_ hKh ?_;clear hKh Kh)|refine aq 4 [] [0,1,2,3,4,5,6,7,8,9,10] hQe fun K E hK hE=>?_)|((with_reducible refine aj (fun h=>?_) (fun h=>?_))<;>(try(exfalso;first|assumption|omega)))|((first|(with_reducible first|refine ae fun K E hK hE=>?_|refine ak fm (w3 _ _) ?_|refine aD fun Kh hKh=>?_)|((with_reducible refine ao (fun b hb=>?_));(repeat(obtain⟨_,hb⟩:=hb))))<;>(try simp(disch:=omega) only[go_sem,seval,hrz,hle,hla,hsd,az,hsl, *]))))
   all_goals(refine ap pO hQ ?_)
   exact⟨_,T,Wk.refl _,(bC:Fg _ S).trans HFT.out,by decide,X,o1,o2,rfl,rfl⟩
end Go.Proofs.YteldpmgepfaiiaaGreatDoor
namespace Go.Proofs.YteldpmgepfaiiaaGreatDoor
open Go.RowKit
theorem ui {α:Type}{l:List α}{p:α->Bool}{i:Nat}{x:α}(hx:l[i]?=some x):(l.take (i+1)).any p=((l.take i).any p || p x):=by
 rw[bY hx,List.any_append];simp
theorem vG {l:List Atm}{i:Nat}{a:Atm}{n:List UInt8}(h:l[i]?=some a):c8 (l.take (i+1)) n=(c8 (l.take i) n || (!a.not && a.ts.any fun t=>t.var && decide (t.nm=n))):=ui h
set_option maxHeartbeats 8000000 in
theorem yb (T:St)(r:Rul)(a:Atm)(o0:Own)(hr:r.body.length<=140737488355328)(ha:a.ts.length<=140737488355328)(hb:∀c,c∈r.body->c.ts.length<=140737488355328) :
  SRet Tryz.prog 83 [.agg (ax r),.agg [.bool a.not,.str a.rel,.lst (a.ts.map aC) o0]] T (.bool (cM r.body a)) T:=by
 obtain⟨⟨hn,hrel,hts⟩,body⟩:=r
 obtain⟨an,ar,ats⟩:=a
 simp only at hr ha hb
 have HB:=u_ hb
 clear hb
 have hla:(ats.map aC).length=ats.length:=by simp
 have hlb:(body.map aG).length=body.length:=by simp
 generalize hW:cM body ⟨an,ar,ats⟩=W
 have HW:=u_ hW
 clear hW
 simp only[ax]
 refine aw Tryz.func83 rfl Tryz.ntmps83 rfl fun Q hQ hQe=>?_
 (repeat'(first|refine Ctl ?_|((with_reducible refine j_ hK ?_);clear hK hE K E)|((first|(with_reducible refine ae fun K E hK hE=>?_)|((with_reducible refine ao (fun b hb=>?_));(repeat(obtain⟨_,hb⟩:=hb))))<;>(try simp(disch:=omega) only[go_sem,seval,hla,hlb, *]))))
 rename_i br hbr n1 n2
 obtain⟨ba,hba⟩:∃z,z=b:=⟨_,rfl⟩
 subst hba
 have hSr:((T.set br (.obj 43 [.bool hn,.str hrel,.lst (hts.map aC) .no,.lst (body.map aG) .no])).set ba (.obj 40 [.bool an,.str ar,.lst (ats.map aC) o0])) br=(.obj 43 [.bool hn,.str hrel,.lst (hts.map aC) .no,.lst (body.map aG) .no]):=by rw[k_ _ _ n2,q_]
 have hSa:((T.set br (.obj 43 [.bool hn,.str hrel,.lst (hts.map aC) .no,.lst (body.map aG) .no])).set ba (.obj 40 [.bool an,.str ar,.lst (ats.map aC) o0])) ba=(.obj 40 [.bool an,.str ar,.lst (ats.map aC) o0]):=q_ _ _ _
 have hF:Fg ((T.set br (.obj 43 [.bool hn,.str hrel,.lst (hts.map aC) .no,.lst (body.map aG) .no])).set ba (.obj 40 [.bool an,.str ar,.lst (ats.map aC) o0])) T:=bC
 generalize (T.set br (.obj 43 [.bool hn,.str hrel,.lst (hts.map aC) .no,.lst (body.map aG) .no])).set ba (.obj 40 [.bool an,.str ar,.lst (ats.map aC) o0])=S at *
 have HF:=u_ hF
 clear hF hb hbr n1 n2
 have hSrf:S br≠.free:=by rw[hSr];simp
 have hSaf:S ba≠.free:=by rw[hSa];simp
 refine aI (fun m env s'=>∃i:Nat,i<=ats.length/\m+i=ats.length/\s'=S/\Hid ((ats.take i).all (fun t=>!t.var || c8 body t.nm)=true)/\env 2=.ptr br 0/\env 3=.ptr ba 0/\env 5=.int .i64 i) ats.length ?_ ?_
 ·exact⟨_,Fg.refl _,0,by omega,by omega,rfl,u_ rfl,ab,ab,ab⟩
 rintro m env s' ⟨i,hi,hm,rfl,HA,e2,e3,e5⟩
 by_cases hlt:i<ats.length
 ·obtain⟨c,hc⟩:=aN hlt
  have hsx:=dl hc
  have HC:=u_ hc
  clear hc
  obtain⟨tv,tn,tz⟩:=c
  (repeat'(first|refine Ctl ?_|((with_reducible refine j_ hK ?_);clear hK hE K E)|((with_reducible refine aj (fun h=>?_) (fun h=>?_))<;>(try(exfalso;assumption)))|(((with_reducible refine ae fun K E hK hE=>?_))<;>(try simp(disch:=omega) only[go_sem,seval,hla,hlb,hsx,aC, *]))))
  refine aI (fun m' env s2=>∃(k:Nat) (w:Bool),k<=body.length/\m'+k=body.length/\s2=s'/\env 2=.ptr br 0/\env 3=.ptr ba 0/\env 5=.int .i64 i/\env 6=.bool w/\env 7=.int .i64 k/\Hid (w=(!tv || c8 (body.take k) tn))) body.length ?_ ?_
  ·exact⟨_,Fg.refl _,0,_,by omega,by omega,rfl,ab,ab,ab,jH,ab,u_ (by simp[c8])⟩
  clear e2 e3 e5 env
  rintro m' env s2 ⟨k,w,hk,hm',rfl,e2,e3,e5,e6,e7,HK⟩
  by_cases hlk:k<body.length
  ·obtain⟨d,hd⟩:=aN hlk
   have hsy:=cX hd
   have hdl:=HB.out d (p_ hd)
   have HD:=u_ hd
   clear hd
   obtain⟨cn,cr,cts⟩:=d
   simp only at hdl
   have hlc:(cts.map aC).length=cts.length:=by simp
   (repeat'(first|refine Ctl ?_|((with_reducible refine j_ hK ?_);clear hK hE K E)|((with_reducible refine aj (fun h=>?_) (fun h=>?_))<;>(try(exfalso;assumption)))|(((with_reducible refine ae fun K E hK hE=>?_))<;>(try simp(disch:=omega) only[go_sem,seval,hla,hlb,hsx,hsy,aC,aG,hlc, *]))))
   refine aI (fun m3 env s3=>∃(j:Nat) (w:Bool),j<=cts.length/\m3+j=cts.length/\s3=s2/\env 2=.ptr br 0/\env 3=.ptr ba 0/\env 5=.int .i64 i/\env 6=.bool w/\env 7=.int .i64 k/\env 8=.int .i64 j/\Hid (w=((!tv || c8 (body.take k) tn) || (!cn && (cts.take j).any fun t=>t.var && decide (t.nm=tn))))) cts.length ?_ ?_
   ·exact⟨_,Fg.refl _,0,_,by omega,by omega,rfl,ab,ab,ab,jH,ab,ab,u_ (by rw[HK.out];simp)⟩
   clear e2 e3 e5 e6 e7 env HK w
   rintro m3 env s3 ⟨j,w,hj,hm3,rfl,e2,e3,e5,e6,e7,e8,HJ⟩
   by_cases hlj:j<cts.length
   ·obtain⟨u,hu⟩:=aN hlj
    have hsz:=dl hu
    have HU:=u_ hu
    clear hu
    obtain⟨uv,un,uz⟩:=u
    have hJ:=HJ.out
    have hspec:((!tv || c8 (body.take k) tn) || (!cn && (cts.take (j+1)).any fun t=>t.var && decide (t.nm=tn)))=(w || (!cn && (uv && decide (un=tn)))):=by
     rw[ui HU.out,hJ]
     cases (!tv || c8 (body.take k) tn)<;>cases cn<;>simp
    have HS:=u_ hspec
    clear hJ hspec HJ
    cases w<;>cases cn<;>cases uv
    all_goals
     (repeat'(first|refine Ctl ?_|(with_reducible first|(refine j_ hK ?_;clear hK hE K E)|(refine j_ hKh ?_;clear hKh Kh)|(refine j_ hKb (aL ?_);clear hKb Kb)|refine aq 12 [([0,1,2,3,4,5,6,7,8,9,10,11,12,13,14,15,16,17,18,19,20,21,22,23,24],25,[[0,1,2,3,4,5,6,7,8,9,10,11,12,13,14,15,16,17,18,19,20,21,22,23,24]])] [] hQe fun K E hK hE=>?_)|((with_reducible refine aj (fun h=>?_) (fun h=>?_))<;>(try(exfalso;assumption)))|((first|(with_reducible first|refine ae fun K E hK hE=>?_|refine aE fun Kh hKh=>?_|refine aD fun Kh hKh=>?_|refine aM fun Kb hKb=>?_)|((with_reducible refine ao (fun b hb=>?_));(try(obtain⟨_,_⟩:=nef hb hSrf;obtain⟨_,_⟩:=nef hb hSaf))))<;>(try simp(disch:=omega) only[go_sem,seval,hla,hlb,hsx,hsy,hsz,aC,aG,hlc, *]))))
    all_goals
     exact⟨_,v_ _ hb,m3 - 1,by omega,j+1,_,by omega,by omega,rfl,ab,ab,ab,jH,ab,ab,u_ (by rw[HS.out];simp)⟩
   ·(repeat'(first|refine Ctl ?_|((with_reducible refine j_ hK ?_);clear hK hE K E)|((with_reducible refine aj (fun h=>?_) (fun h=>?_))<;>(try(exfalso;assumption)))|(((with_reducible refine ae fun K E hK hE=>?_))<;>(try simp(disch:=omega) only[go_sem,seval,hla,hlb,hsx,hsy,aC,aG,hlc, *]))))
    refine⟨_,Fg.refl _,m' - 1,by omega,k+1,_,by omega,by omega,rfl,ab,ab,ab,jH,ab,u_ ?_⟩
    have hJ:=HJ.out
    rw[show cts.take j=cts from B_ (by omega)]at hJ
    rw[hJ,vG HD.out]
    simp only[Bool.or_assoc]
  ·have hK:=HK.out
   rw[B_ (by omega)]at hK
   have HK2:=u_ hK
   clear hK HK
   cases w
   ·have hE:W=false:=by
     rw[<- HW.out]
     unfold cM
     exact bO HC.out HK2.out.symm
    subst hE
    (repeat'(first|refine Ctl ?_|((with_reducible refine j_ hK ?_);clear hK hE K E)|((with_reducible refine aj (fun h=>?_) (fun h=>?_))<;>(try(exfalso;assumption)))|(((with_reducible refine ae fun K E hK hE=>?_))<;>(try simp(disch:=omega) only[go_sem,seval,hla,hlb,hsx,aC, *]))))
    all_goals(refine ap Ax hQ ?_)
    all_goals(refine⟨_,_,Wk.of_eq ?_,?_,rfl,rfl⟩)
    all_goals first|rfl|exact HF.out
   ·(repeat'(first|refine Ctl ?_|((with_reducible refine j_ hK ?_);clear hK hE K E)|((with_reducible refine aj (fun h=>?_) (fun h=>?_))<;>(try(exfalso;assumption)))|(((with_reducible refine ae fun K E hK hE=>?_))<;>(try simp(disch:=omega) only[go_sem,seval,hla,hlb,hsx,aC, *]))))
    exact⟨_,Fg.refl _,m - 1,by omega,i+1,by omega,by omega,rfl,u_ (bE HA.out HC.out HK2.out.symm),ab,ab,ab⟩
 ·have hA:=HA.out
  rw[B_ (by omega)]at hA
  have hE:W=true:=by rw[<- HW.out];exact hA
  subst hE
  clear hA HA
  (repeat'(first|refine Ctl ?_|((with_reducible refine j_ hK ?_);clear hK hE K E)|((with_reducible refine aj (fun h=>?_) (fun h=>?_))<;>(try(exfalso;assumption)))|(((with_reducible refine ae fun K E hK hE=>?_))<;>(try simp(disch:=omega) only[go_sem,seval,hla,hlb, *]))))
  all_goals(refine ap Ax hQ ?_)
  all_goals(refine⟨_,_,Wk.of_eq ?_,?_,rfl,rfl⟩)
  all_goals first|rfl|exact HF.out
def aF (l:List (List Int)):List (List VV):=l.map fun r=>[ca r]
theorem rowsV_len {l:List (List Int)}:(aF l).length=l.length:=by simp[aF]
theorem dK {l:List (List Int)}{i:Nat}{r:List Int}(h:l[i]?=some r):(aF l)[i]?=some [.lst (aB r) .no]:=by simp[aF,h,ca]
theorem pK {l m:List (List Int)}:aF (l++m)=aF l++aF m:=by simp[aF]
def iv (l:List (List Int)):Prop:=l.length<=1000000000/\∀r,r∈l->r.length<=1000000000
theorem zh {a b:List Int}{i:Nat}{x y:Int}(hx:a[i]?=some x)(hy:b[i]?=some y):eV (a.drop i) (b.drop i)=if x=y then eV (a.drop (i+1)) (b.drop (i+1))else decide (x<y):=by
 obtain⟨h1,rfl⟩:=n_.1 hx
 obtain⟨h2,rfl⟩:=n_.1 hy
 rw[g_ h1,g_ h2]
 simp only[eV]
set_option maxHeartbeats 4000000 in
theorem CT (a b:List Int)(o1 o2:Own)(ha:a.length<=1000000000)(hb:b.length<=1000000000)(t:St):SRet Tryz.prog 73 [.lst (aB a) o1,.lst (aB b) o2] t (.bool (eV a b)) t:=by
 have hl1:(aB a).length=a.length:=bH
 have hl2:(aB b).length=b.length:=bH
 generalize hR:eV a b=R
 have HR:=u_ hR
 clear hR
 refine aw Tryz.func73 rfl Tryz.ntmps73 rfl fun Q hQ hQe=>?_
 (repeat'(first|refine Ctl ?_|((with_reducible refine j_ hK ?_);clear hK hE K E)|(((with_reducible refine ae fun K E hK hE=>?_))<;>(try simp(disch:=omega) only[go_sem,seval,hl1,hl2, *]))))
 refine bB (fun m env s'=>∃(i:Nat),i<=a.length/\i<=b.length/\m+i=a.length/\Hid (eV (a.drop i) (b.drop i)=R)/\s'=t/\env 0=.lst (aB a) o1/\env 1=.lst (aB b) o2/\env 5=.int .i64 i) a.length
  ⟨0,by omega,by omega,by omega,HR,rfl,ab,ab,ab⟩ ?_
 rintro m env s' ⟨i,hi,hi2,hm,HH,rfl,e0,e1,e5⟩
 by_cases h1:i<a.length
 ·by_cases h2:i<b.length
  ·obtain⟨x,hx⟩:∃x,a[i]?=some x:=⟨_,b_ h1⟩
   obtain⟨y,hy⟩:∃y,b[i]?=some y:=⟨_,b_ h2⟩
   have sx:=cD hx
   have sy:=cD hy
   have hd:=(zh hx hy).symm.trans HH.out
   clear hx hy
   by_cases e:x=y
   ·rw[if_pos e]at hd
    have HD:=u_ hd
    clear hd
    subst e
    (repeat'(first|refine Ctl ?_|(with_reducible first|(refine j_ hK ?_;clear hK hE K E)|(refine j_ hKh ?_;clear hKh Kh)|refine aq 4 [] [0,1,2,3,4,5,6,7,8] hQe fun K E hK hE=>?_)|((with_reducible refine aj (fun h=>?_) (fun h=>?_))<;>(try(exfalso;assumption)))|(((with_reducible first|refine ae fun K E hK hE=>?_|refine aD fun Kh hKh=>?_))<;>(try simp(disch:=omega) only[go_sem,seval,hl1,hl2,sx,sy, *]))))
    all_goals exact⟨m - 1,by omega,i+1,by omega,by omega,by omega,HD,rfl,ab,ab,ab⟩
   ·rw[if_neg e]at hd
    have HD:=u_ hd
    have e':=eq_false e
    clear hd e
    (repeat'(first|refine Ctl ?_|(with_reducible first|(refine j_ hK ?_;clear hK hE K E)|(refine j_ hKh ?_;clear hKh Kh)|refine aq 4 [] [0,1,2,3,4,5,6,7,8] hQe fun K E hK hE=>?_|refine aq 5 [] [0,1,2,3,4,5,6,7,8,9] hQe fun K E hK hE=>?_)|((with_reducible refine aj (fun h=>?_) (fun h=>?_))<;>(try(exfalso;assumption)))|(((with_reducible first|refine ae fun K E hK hE=>?_|refine aD fun Kh hKh=>?_))<;>(try simp(disch:=omega) only[go_sem,seval,hl1,hl2,sx,sy,e', *]))))
    all_goals(refine ap wL hQ ?_)
    all_goals rw[<- HD.out]
    all_goals(refine⟨_,_,Wk.of_eq ?_,?_,rfl,rfl⟩)
    all_goals first|rfl|(exact bC)
  ·have hd:=HH.out
   rw[List.drop_of_length_le (l:=b) (by omega),g_ h1]at hd
   have hR:R=false:=hd.symm
   subst hR
   clear hd
   have hle:¬ a.length<b.length:=by omega
   (repeat'(first|refine Ctl ?_|((with_reducible refine j_ hK ?_);clear hK hE K E)|((with_reducible refine aj (fun h=>?_) (fun h=>?_))<;>(try(exfalso;assumption)))|(((with_reducible refine ae fun K E hK hE=>?_))<;>(try simp(disch:=omega) only[go_sem,seval,hl1,hl2, *]))))
   all_goals(refine ap wL hQ ?_)
   all_goals(refine⟨_,_,Wk.of_eq ?_,?_,rfl,rfl⟩)
   all_goals first|rfl|(exact bC)
 ·have hd:=HH.out
  have hie:i=a.length:=by omega
  rw[List.drop_of_length_le (l:=a) (by omega)]at hd
  have hR:R=decide (a.length<b.length):=by
   rw[<- hd]
   by_cases h3:i<b.length
   ·rw[g_ h3]
    simp[eV]
    omega
   ·rw[List.drop_of_length_le (by omega)]
    simp[eV]
    omega
  have HR2:=u_ hR
  clear hd hR
  (repeat'(first|refine Ctl ?_|((with_reducible refine j_ hK ?_);clear hK hE K E)|((with_reducible refine aj (fun h=>?_) (fun h=>?_))<;>(try(exfalso;assumption)))|((first|(with_reducible refine ae fun K E hK hE=>?_)|((with_reducible refine dy (fun h=>?_) (fun h=>?_))<;>(try(exfalso;omega))))<;>(try simp(disch:=omega) only[go_sem,seval,hl1,hl2, *]))))
  all_goals(refine ap wL hQ ?_)
  all_goals rw[HR2.out]
  all_goals(refine⟨_,_,Wk.of_eq ?_,?_,rfl,rfl⟩)
  all_goals first|rfl|(exact bC)
set_option maxHeartbeats 4000000 in
theorem oZ (a b:List (List Int))(o1 o2:Own)(ha:iv a)(hb:iv b)(t:St):SRet Tryz.prog 22 [.lst (aF a) o1,.lst (aF b) o2] t (.bool (decide (a=b))) t:=by
 have hl1:(aF a).length=a.length:=rowsV_len
 have hl2:(aF b).length=b.length:=rowsV_len
 obtain⟨ha1,ha2⟩:=ha
 obtain⟨hb1,hb2⟩:=hb
 by_cases hlen:a.length=b.length
 ·generalize hR:decide (a=b)=R
  have HR:=u_ hR
  clear hR
  refine aw Tryz.func22 rfl Tryz.ntmps22 rfl fun Q hQ hQe=>?_
  (repeat'(first|refine Ctl ?_|((with_reducible refine j_ hK ?_);clear hK hE K E)|((with_reducible refine aj (fun h=>?_) (fun h=>?_))<;>(try(exfalso;assumption)))|(((with_reducible refine ae fun K E hK hE=>?_))<;>(try simp(disch:=omega) only[go_sem,seval,hl1,hl2,hlen, *]))))
  refine bB (fun m env s'=>∃(i:Nat),i<=b.length/\m+i=b.length/\Hid (a.take i=b.take i)/\s'=t/\env 0=.lst (aF a) o1/\env 1=.lst (aF b) o2/\env 5=.int .i64 i) b.length
   ⟨0,by omega,by omega,u_ rfl,rfl,ab,ab,ab⟩ ?_
  rintro m env s' ⟨i,hi,hm,HH,rfl,e0,e1,e5⟩
  by_cases h2:i<b.length
  ·obtain⟨x,hx⟩:∃x,a[i]?=some x:=⟨_,b_ (by omega)⟩
   obtain⟨y,hy⟩:∃y,b[i]?=some y:=⟨_,b_ h2⟩
   have sx:=dK hx
   have sy:=dK hy
   have w1:=fun s=>kr x y .no .no (by have:=ha2 x (p_ hx);omega) (by have:=hb2 y (p_ hy);omega) s
   have t1:a.take (i+1)=a.take i++[x]:=by rw[List.take_add_one,hx];rfl
   have t2:b.take (i+1)=b.take i++[y]:=by rw[List.take_add_one,hy];rfl
   have HT:x=y->a.take (i+1)=b.take (i+1):=fun e=>by rw[t1,t2,HH.out,e]
   have HN:¬ x=y->a≠b:=fun e=>by rintro rfl;exact e (by rw[hx]at hy;injection hy)
   clear t1 t2 hx hy
   by_cases e:x=y
   ·have HT2:=u_ (HT e)
    rw[show decide (x=y)=true by simp[e]]at w1
    clear HT HN e
    (repeat'(first|refine Ctl ?_|(with_reducible first|(refine j_ hK ?_;clear hK hE K E)|(refine j_ hKh ?_;clear hKh Kh)|(refine j_ hKb (aL ?_);clear hKb Kb)|refine aq 6 [([0,1,2,3,4,5,6,7],8,[[]])] [9] hQe fun K E hK hE=>?_)|((with_reducible refine aj (fun h=>?_) (fun h=>?_))<;>(try(exfalso;assumption)))|(((with_reducible first|refine ae fun K E hK hE=>?_|refine ak qr (w1 _) ?_|refine aE fun Kh hKh=>?_|refine aD fun Kh hKh=>?_|refine aM fun Kb hKb=>?_))<;>(try simp(disch:=omega) only[go_sem,seval,hl1,hl2,sx,sy,hlen, *]))))
    all_goals exact⟨m - 1,by omega,i+1,by omega,by omega,HT2,rfl,ab,ab,ab⟩
   ·have hR:R=false:=by rw[<- HR.out];simp[HN e]
    subst hR
    rw[show decide (x=y)=false by simp[e]]at w1
    clear HT HN e
    (repeat'(first|refine Ctl ?_|(with_reducible first|(refine j_ hK ?_;clear hK hE K E)|(refine j_ hKh ?_;clear hKh Kh)|(refine j_ hKb (aL ?_);clear hKb Kb)|refine aq 6 [([0,1,2,3,4,5,6,7],8,[[]])] [9] hQe fun K E hK hE=>?_)|((with_reducible refine aj (fun h=>?_) (fun h=>?_))<;>(try(exfalso;assumption)))|(((with_reducible first|refine ae fun K E hK hE=>?_|refine ak qr (w1 _) ?_|refine aE fun Kh hKh=>?_|refine aD fun Kh hKh=>?_|refine aM fun Kb hKb=>?_))<;>(try simp(disch:=omega) only[go_sem,seval,hl1,hl2,sx,sy,hlen, *]))))
    all_goals(refine ap wO hQ ?_)
    all_goals(refine⟨_,_,Wk.of_eq ?_,?_,rfl,rfl⟩)
    all_goals first|rfl|(exact bC)
  ·have hR:R=true:=by
    have h3:=HH.out
    rw[B_ (by omega),B_ (by omega)]at h3
    rw[<- HR.out];simp[h3]
   subst hR
   (repeat'(first|refine Ctl ?_|((with_reducible refine j_ hK ?_);clear hK hE K E)|((with_reducible refine aj (fun h=>?_) (fun h=>?_))<;>(try(exfalso;assumption)))|(((with_reducible refine ae fun K E hK hE=>?_))<;>(try simp(disch:=omega) only[go_sem,seval,hl1,hl2,hlen, *]))))
   all_goals(refine ap wO hQ ?_)
   all_goals(refine⟨_,_,Wk.of_eq ?_,?_,rfl,rfl⟩)
   all_goals first|rfl|(exact bC)
 ·have hR:decide (a=b)=false:=by
   have:a≠b:=fun e=>hlen (by rw[e])
   simp[this]
  rw[hR]
  have hln:((a.length:Int)=(b.length:Int))=False:=eq_false (by omega)
  clear hR
  refine aw Tryz.func22 rfl Tryz.ntmps22 rfl fun Q hQ hQe=>?_
  (repeat'(first|refine Ctl ?_|((with_reducible refine j_ hK ?_);clear hK hE K E)|((with_reducible refine aj (fun h=>?_) (fun h=>?_))<;>(try(exfalso;assumption)))|(((with_reducible refine ae fun K E hK hE=>?_))<;>(try simp(disch:=omega) only[go_sem,seval,hl1,hl2,hln, *]))))
  all_goals(refine ap wO hQ ?_)
  all_goals(refine⟨_,_,Wk.of_eq ?_,?_,rfl,rfl⟩)
  all_goals first|rfl|(exact bC)
end Go.Proofs.YteldpmgepfaiiaaGreatDoor
