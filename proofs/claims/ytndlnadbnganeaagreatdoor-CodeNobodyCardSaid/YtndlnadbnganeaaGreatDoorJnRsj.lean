/- Walks of functions that the claim reaches, and plain facts of them. Conditions: those in the statements. -/
import Derived.Test.YtndlnadbnganeaaGreatDoorJnRmj
set_option linter.unusedSimpArgs false
set_option linter.unusedVariables false
set_option maxRecDepth 100000
namespace Go.Proofs.YtndlnadbnganeaaGreatDoor
open Go.RowKit
abbrev Dm:=List UInt8×Int
def domsI (ds:List Dm):List (List VV):=ds.map fun d=>[.str d.1,.int .i64 d.2]
theorem domsI_len {ds:List Dm}:(domsI ds).length=ds.length:=by simp[domsI]
theorem domsI_at {ds:List Dm}{i:Nat}{d:Dm}(h:ds[i]?=some d):(domsI ds)[i]?=some [.str d.1,.int .i64 d.2]:=by simp[domsI,h]
def seenT (l:List (List UInt8)):List (List UInt8×Bool):=l.map fun k=>(k,true)
theorem seenT_lk {k:List UInt8}:∀{l:List (List UInt8)},(lkA k (seenT l)).getD false=decide (k∈l)
 |[]=>rfl
 |a::l=>by
  have ih:=seenT_lk (k:=k) (l:=l)
  simp only[seenT,List.map_cons,lkA]at ih ⊢
  by_cases h:k=a
  ·subst h;simp
  ·rw[if_neg h,ih]
   simp[h]
theorem seenT_pt {k:List UInt8}:∀{l:List (List UInt8)},k∉l→ptA k true (seenT l)=seenT (l++[k])
 |[],_=>rfl
 |a::l,h=>by
  have ih:=seenT_pt (k:=k) (l:=l) fun h2=>h (List.mem_cons_of_mem _ h2)
  simp only[seenT,List.map_cons,ptA,List.cons_append]at ih ⊢
  rw[if_neg (fun e=>h (by rw[e];exact List.mem_cons_self ..)),ih]
def okD (sn:List (List UInt8))(d:Dm):Bool:=((decide (1≤d.2) && decide (d.2≤1073741824)) && nameB d.1) && !decide (d.1∈sn)
def okDs:List (List UInt8)→List Dm→Bool
 |_,[]=>true
 |sn,d::r=>okD sn d && okDs (sn++[d.1]) r
def wdL (ds:List Dm):List Nat:=ds.map fun d=>widthN d.2.toNat
def wdR (ds:List Dm):List VV:=if okDs [] ds=true then [.lst (natsL (wdL ds)) .no,.int .i64 ((wdL ds).sum:Nat),.bool (decide ((wdL ds).sum≤256) && decide (ds.length≤32))] else [.lst [] .no,.int .i64 0,.bool false]
theorem Wk.tupW {xs:List (List VV)}{o:Own}{a c:VV}:Wk (.tup [.lst xs o,a,c]) (.tup [.lst xs .no,a,c]):=
 .tup rfl fun j x y hx hy=>by
  match j with
  |0=>simp at hx hy;subst hx;subst hy;exact .lst _ _
  |1=>simp at hx hy;subst hx;subst hy;exact .refl _
  |2=>simp at hx hy;subst hx;subst hy;exact .refl _
  |j+3=>simp at hx
set_option maxHeartbeats 16000000 in
theorem Lwidths_S (s:St)(ds:List Dm)(ow:Own)(hl:ds.length≤1000000)(hnl:∀d,d∈ds→d.1.length≤1000000000):SRet Tryz.prog 83 [.lst (domsI ds) ow] s (.tup (wdR ds)) s:=by
 have hat:=fun i d h=>domsI_at (ds:=ds) (i:=i) (d:=d) h
 have hln:=domsI_len (ds:=ds)
 obtain⟨R,hR⟩:∃R,wdR ds=R:=⟨_,rfl⟩
 rw[hR]
 have HR:=Lib.hid hR
 have HAT:=Lib.hid hat
 have HNL:=Lib.hid hnl
 clear hR hat hnl
 generalize domsI ds=D at *
 have hz0:seenT []=[]:=rfl
 refine G_enter Tryz.func83 rfl Tryz.ntmps83 rfl fun Q hQ hQe=>?_
 (repeat'(first|refine Ctl ?_|((with_reducible refine Kof.use hK ?_);clear hK hE K E)|((first|(with_reducible refine G_region fun K E hK hE=>?_)|((with_reducible refine W_fresh (fun b hb=>?_))))<;>(try simp(disch:=omega) only[go_sem,seval,hln, *]))))
 obtain⟨bm,hbm⟩:∃z,z=b:=⟨_,rfl⟩
 subst hbm
 have HBM:=Lib.hid hb
 refine G_loop (fun m env s'=>∃(i:Nat) (o:Own),i≤ds.length∧m+i=ds.length∧Hid (okDs [] ds=okDs ((ds.take i).map (·.1)) (ds.drop i)∧(wdL (ds.take i)).sum≤62 * i)∧OwnOk s o i∧NotOwn o bm∧s'=(s.own o 3 1 i).set bm (.map (mpV encB (seenT ((ds.take i).map (·.1)))))∧env 0=.lst D ow∧env 2=.lst (natsL (wdL (ds.take i))) o∧env 3=.int .i64 ((wdL (ds.take i)).sum:Nat)∧env 5=.mp bm∧env 11=.lst D ow∧env 12=.int .i64 ds.length∧env 13=.int .i64 i) ds.length ?_ ?_
 ·exact⟨_,Fg.refl _,0,.full,by omega,by omega,Lib.hid ⟨rfl,by simp[wdL]⟩,rfl,trivial,rfl,z_sl,z_sl,z_sl,z_sl,z_sl,z_sl,z_sl⟩
 rintro m env s' ⟨i,o,hi,hm,HN,hO,hno,rfl,e0,e2,e3,e5,e11,e12,e13⟩
 by_cases h7:i<ds.length
 ·have hk:=List.getElem?_eq_getElem h7
  have hkm:=List.getElem_mem h7
  have hdr:=List.drop_eq_getElem_cons h7
  generalize ds[i]=d at hk hkm hdr
  have hx:=HAT.out i d hk
  have hnd:=HNL.out d hkm
  obtain⟨n1,n2⟩:=HN.out
  rw[hdr]at n1
  simp only[okDs]at n1
  have htk:ds.take (i+1)=ds.take i++[d]:=by rw[List.take_add_one,hk];rfl
  have hsk:=seenT_lk (k:=d.1) (l:=(ds.take i).map (·.1))
  have wn:=fun u=>Lname_S u d.1
  have ww:=fun u=>Bwidth_S u d.2
  obtain⟨nm,sz⟩:=d
  dsimp only at *
  have hfail:okD ((ds.take i).map (·.1)) (nm,sz)=false→R=[.lst [] .no,.int .i64 0,.bool false]:=fun h=>by
   rw[← HR.out,wdR,if_neg]
   rw[n1,h]
   simp
  have hcont:okD ((ds.take i).map (·.1)) (nm,sz)=true→okDs [] ds=okDs ((ds.take (i+1)).map (·.1)) (ds.drop (i+1)):=fun h=>by
   rw[n1,h,Bool.true_and,htk,List.map_append]
   rfl
  have hfl:Fg ((s.own o 3 1 i).set bm (.map (mpV encB (seenT ((ds.take i).map (·.1)))))) s:=Fg.setA (Fg.own hO) HBM.out
  have hwl:wdL (ds.take (i+1))=wdL (ds.take i)++[widthN sz.toNat]:=by rw[htk,wdL,List.map_append];rfl
  have hpt:nm∉(ds.take i).map (·.1)→ptA nm true (seenT ((ds.take i).map (·.1)))=seenT ((ds.take (i+1)).map (·.1)):=fun h=>by
   rw[seenT_pt h,htk,List.map_append]
   rfl
  have hwb:widthN sz.toNat≤62:=halvF_le _ _
  have HWL:=Lib.hid hwl
  have HF:=Lib.hid hfail
  have HC:=Lib.hid hcont
  have HPT:=Lib.hid hpt
  have HFL:=Lib.hid hfl
  clear hk hkm hdr htk hfail hcont hfl hwl hpt n1 HN
  unfold okD at HF HC
  dsimp only at HF HC
  by_cases s1:1≤sz∧sz≤4611686018427387903
  ·simp only[if_pos s1]at ww
   by_cases s2:sz > 1073741824
   ·have hR:=HF.out (by simp;omega)
    subst hR
    (repeat'(first|refine Ctl ?_|((with_reducible refine Kof.use hK ?_);clear hK hE K E)|((with_reducible refine W_cond (fun h=>?_) (fun h=>?_))<;>(try(exfalso;assumption)))|((first|(with_reducible first|refine G_region fun K E hK hE=>?_|refine call_ret can126 (ww _) ?_)|((with_reducible refine W_fresh (fun b hb=>?_));(repeat(obtain⟨_,hb⟩:=hb))))<;>(try simp(disch:=omega) only[go_sem,seval,hx,s2, *]))))
    all_goals(refine W_ret res83 hQ ?_)
    all_goals exact⟨_,_,Wk.tupW,Fg.trans (Fg.of_set _ (by rw[St.set_other _ _ (by assumption)];exact hb)) HFL.out,rfl,rfl⟩
   ·have s2':¬ 1073741824<sz:=by omega
    by_cases s3:nameB nm=true
    ·rw[s3]at wn
     by_cases s4:nm∈(ds.take i).map (·.1)
     ·have hR:=HF.out (by rw[s3,decide_eq_true s4];simp)
      subst hR
      rw[decide_eq_true s4]at hsk
      generalize seenT ((ds.take i).map (·.1))=Sn at *
      (repeat'(first|refine Ctl ?_|((with_reducible refine Kof.use hK ?_);clear hK hE K E)|((with_reducible refine W_cond (fun h=>?_) (fun h=>?_))<;>(try(exfalso;assumption)))|((first|(with_reducible first|refine G_region fun K E hK hE=>?_|refine call_ret can126 (ww _) ?_|refine call_ret can127 (wn _) ?_)|((with_reducible refine W_fresh (fun b hb=>?_));(repeat(obtain⟨_,hb⟩:=hb))))<;>(try simp(disch:=omega) only[go_sem,seval,hx,s2,s2',hsk, *]))))
      all_goals(refine W_ret res83 hQ ?_)
      all_goals exact⟨_,_,Wk.tupW,Fg.trans (Fg.of_set _ (by rw[St.set_other _ _ (by assumption)];exact hb)) HFL.out,rfl,rfl⟩
     ·rw[decide_eq_false s4]at hsk
      have hp:=HPT.out s4
      have hc:=HC.out (by rw[s3,decide_eq_false s4,decide_eq_true s1.1,decide_eq_true (show sz≤1073741824 by omega)];rfl)
      have hsum:(wdL (ds.take (i+1))).sum=(wdL (ds.take i)).sum+widthN sz.toNat:=by rw[HWL.out,List.sum_append];simp
      have hnl2:natsL (wdL (ds.take (i+1)))=natsL (wdL (ds.take i))++[[.int .i64 (widthN sz.toNat:Int)]]:=by rw[HWL.out,natsL_add]
      have hnl3:(natsL (wdL (ds.take i))).length=i:=by
       rw[natsL_len,wdL,List.length_map,List.length_take]
       omega
      have HH:=Lib.hid (And.intro hc (And.intro hsum hnl2))
      clear hc hsum hnl2 HF HC HPT s4
      generalize hSn2:seenT ((ds.take (i+1)).map (·.1))=Sn2 at *
      have HSN:=Lib.hid hSn2
      clear hSn2
      generalize seenT ((ds.take i).map (·.1))=Sn at *
      generalize natsL (wdL (ds.take i))=NL at *
      generalize (wdL (ds.take i)).sum=W0 at *
      generalize widthN sz.toNat=wq at *
      (repeat'(first|(with_reducible refine Kp_atQ 9 ?_)|refine Ctl ?_|((with_reducible refine Kof.use hK ?_);clear hK hE K E)|((with_reducible refine W_cond (fun h=>?_) (fun h=>?_))<;>(try(exfalso;assumption)))|((first|(with_reducible first|refine G_region fun K E hK hE=>?_|refine call_ret can126 (ww _) ?_|refine call_ret can127 (wn _) ?_)|((with_reducible refine W_fresh (fun b hb=>?_));(repeat(obtain⟨_,hb⟩:=hb))))<;>(try simp(disch:=first|assumption|omega) only[go_sem,seval,hx,s2,s2',hsk,hp, *]))))
      unfold StopQ
      refine Kp_forget (s':=(s.own o 3 1 i).set bm (.map (mpV encB Sn2))) (Fg.of_set _ (by rw[St.set_other _ _ (by assumption)];exact hb)) ?_
      (repeat'(first|refine Ctl ?_|((with_reducible refine Kof.use hK ?_);clear hK hE K E)|((first|(with_reducible refine G_region fun K E hK hE=>?_)|((with_reducible refine W_app (fun o2 ho=>?_));(try simp(disch:=assumption) only[disown_set,disown_own,ownok_o,ownok_m,List.length_map,List.length_cons,List.length_nil,Nat.zero_add,hnl3]at ho);(repeat(obtain⟨_,ho⟩:=ho))))<;>(try simp(disch:=first|assumption|omega) only[go_sem,seval,hnl3, *]))))
      all_goals exact⟨_,Fg.refl _,m - 1,by omega,i+1,o2,by omega,by omega,Lib.hid ⟨HH.out.1,by rw[HH.out.2.1];omega⟩,ho,by assumption,by rw[HSN.out],z_sl,by(rw[HH.out.2.2];((try simp(disch:=assumption) only[go_sem,seval, *])<;>rfl)),by(rw[HH.out.2.1];((try simp(disch:=assumption) only[go_sem,seval, *])<;>rfl)),z_sl,z_sl,z_sl,z_sl⟩
    ·have s3':nameB nm=false:=by simpa using s3
     rw[s3']at wn
     have hR:=HF.out (by simp[s3'])
     subst hR
     (repeat'(first|refine Ctl ?_|((with_reducible refine Kof.use hK ?_);clear hK hE K E)|((with_reducible refine W_cond (fun h=>?_) (fun h=>?_))<;>(try(exfalso;assumption)))|((first|(with_reducible first|refine G_region fun K E hK hE=>?_|refine call_ret can126 (ww _) ?_|refine call_ret can127 (wn _) ?_)|((with_reducible refine W_fresh (fun b hb=>?_));(repeat(obtain⟨_,hb⟩:=hb))))<;>(try simp(disch:=omega) only[go_sem,seval,hx,s2,s2', *]))))
     all_goals(refine W_ret res83 hQ ?_)
     all_goals exact⟨_,_,Wk.tupW,Fg.trans (Fg.of_set _ (by rw[St.set_other _ _ (by assumption)];exact hb)) HFL.out,rfl,rfl⟩
  ·simp only[if_neg s1]at ww
   have hR:=HF.out (by simp;omega)
   subst hR
   (repeat'(first|refine Ctl ?_|((with_reducible refine Kof.use hK ?_);clear hK hE K E)|((with_reducible refine W_cond (fun h=>?_) (fun h=>?_))<;>(try(exfalso;assumption)))|((first|(with_reducible first|refine G_region fun K E hK hE=>?_|refine call_ret can126 (ww _) ?_)|((with_reducible refine W_fresh (fun b hb=>?_));(repeat(obtain⟨_,hb⟩:=hb))))<;>(try simp(disch:=omega) only[go_sem,seval,hx, *]))))
   all_goals(refine W_ret res83 hQ ?_)
   all_goals exact⟨_,_,Wk.tupW,Fg.trans (Fg.of_set _ (by rw[St.set_other _ _ (by assumption)];exact hb)) HFL.out,rfl,rfl⟩
 ·have hie:i=ds.length:=by omega
  subst hie
  have ht:ds.take ds.length=ds:=List.take_length
  have hd:ds.drop ds.length=[]:=List.drop_length
  obtain⟨n1,n2⟩:=HN.out
  rw[ht,hd]at n1
  rw[ht]at n2 e2 e3 ⊢
  simp only[okDs]at n1
  have hR:R=[.lst (natsL (wdL ds)) .no,.int .i64 ((wdL ds).sum:Nat),.bool (decide ((wdL ds).sum≤256) && decide (ds.length≤32))]:=by rw[← HR.out,wdR,if_pos n1]
  have HRR:=Lib.hid hR
  clear hR HR
  have hfl:Fg ((s.own o 3 1 ds.length).set bm (.map (mpV encB (seenT (ds.map (·.1)))))) s:=Fg.setA (Fg.own hO) HBM.out
  have HFL:=Lib.hid hfl
  clear ht hd n1 hfl HN
  generalize natsL (wdL ds)=NL at *
  generalize (wdL ds).sum=W0 at *
  by_cases s1:W0≤256
  ·have s1':(W0:Int)≤256:=by omega
   by_cases s2:ds.length≤32
   ·have s2':(ds.length:Int)≤32:=by omega
    (repeat'(first|refine Ctl ?_|((with_reducible refine Kof.use hK ?_);clear hK hE K E)|((with_reducible refine W_cond (fun h=>?_) (fun h=>?_))<;>(try(exfalso;assumption)))|(((with_reducible refine G_region fun K E hK hE=>?_))<;>(try simp(disch:=omega) only[go_sem,seval,s1',s2',hln, *]))))
    all_goals(refine W_ret res83 hQ ?_)
    all_goals(rw[HRR.out,decide_eq_true s1,decide_eq_true s2];exact⟨_,_,Wk.tupW,HFL.out,rfl,rfl⟩)
   ·have s2':¬ (ds.length:Int)≤32:=by omega
    (repeat'(first|refine Ctl ?_|((with_reducible refine Kof.use hK ?_);clear hK hE K E)|((with_reducible refine W_cond (fun h=>?_) (fun h=>?_))<;>(try(exfalso;assumption)))|(((with_reducible refine G_region fun K E hK hE=>?_))<;>(try simp(disch:=omega) only[go_sem,seval,s1',s2',hln, *]))))
    all_goals(refine W_ret res83 hQ ?_)
    all_goals(rw[HRR.out,decide_eq_true s1,decide_eq_false s2];exact⟨_,_,Wk.tupW,HFL.out,rfl,rfl⟩)
  ·have s1':¬ (W0:Int)≤256:=by omega
   (repeat'(first|refine Ctl ?_|((with_reducible refine Kof.use hK ?_);clear hK hE K E)|((with_reducible refine W_cond (fun h=>?_) (fun h=>?_))<;>(try(exfalso;assumption)))|(((with_reducible refine G_region fun K E hK hE=>?_))<;>(try simp(disch:=omega) only[go_sem,seval,s1',hln, *]))))
   all_goals(refine W_ret res83 hQ ?_)
   all_goals(rw[HRR.out,decide_eq_false s1,Bool.false_and];exact⟨_,_,Wk.tupW,HFL.out,rfl,rfl⟩)
def mayDs (ds:List Dm):Bool:=okDs [] ds && (decide ((wdL ds).sum≤256) && decide (ds.length≤32))
set_option maxHeartbeats 2000000 in
theorem Lcheck_S (s:St)(ds:List Dm)(ow:Own)(hl:ds.length≤1000000)(hnl:∀d,d∈ds→d.1.length≤1000000000):SRet Tryz.prog 54 [.lst (domsI ds) ow] s (.int .i64 (if mayDs ds=true then 0 else 1)) s:=by
 have w1:=Lwidths_S s ds ow hl hnl
 unfold wdR at w1
 unfold mayDs
 generalize domsI ds=D at *
 cases h1:okDs [] ds
 ·rw[h1]at w1
  simp only[Bool.false_eq_true,if_false]at w1
  simp only[Bool.false_and,Bool.false_eq_true,if_false]
  refine G_enter Tryz.func54 rfl Tryz.ntmps54 rfl fun Q hQ hQe=>?_
  (repeat'(first|refine Ctl ?_|((with_reducible refine Kof.use hK ?_);clear hK hE K E)|((with_reducible refine W_cond (fun h=>?_) (fun h=>?_))<;>(try(exfalso;assumption)))|(((with_reducible first|refine G_region fun K E hK hE=>?_|refine call_ret can83 (w1) ?_))<;>(try simp(disch:=omega) only[go_sem,seval, *]))))
  all_goals(refine W_ret res54 hQ ?_)
  all_goals exact⟨_,_,Wk.refl _,Fg.refl _,rfl,rfl⟩
 ·rw[h1]at w1
  simp only[if_true]at w1
  rw[Bool.true_and]
  generalize natsL (wdL ds)=NL at *
  generalize (decide ((wdL ds).sum≤256) && decide (ds.length≤32))=B at *
  generalize (wdL ds).sum=W0 at *
  cases B
  ·simp only[Bool.false_eq_true,if_false]
   refine G_enter Tryz.func54 rfl Tryz.ntmps54 rfl fun Q hQ hQe=>?_
   (repeat'(first|refine Ctl ?_|((with_reducible refine Kof.use hK ?_);clear hK hE K E)|((with_reducible refine W_cond (fun h=>?_) (fun h=>?_))<;>(try(exfalso;assumption)))|(((with_reducible first|refine G_region fun K E hK hE=>?_|refine call_ret can83 (w1) ?_))<;>(try simp(disch:=omega) only[go_sem,seval, *]))))
   all_goals(refine W_ret res54 hQ ?_)
   all_goals exact⟨_,_,Wk.refl _,Fg.refl _,rfl,rfl⟩
  ·simp only[if_true]
   refine G_enter Tryz.func54 rfl Tryz.ntmps54 rfl fun Q hQ hQe=>?_
   (repeat'(first|refine Ctl ?_|((with_reducible refine Kof.use hK ?_);clear hK hE K E)|((with_reducible refine W_cond (fun h=>?_) (fun h=>?_))<;>(try(exfalso;assumption)))|(((with_reducible first|refine G_region fun K E hK hE=>?_|refine call_ret can83 (w1) ?_))<;>(try simp(disch:=omega) only[go_sem,seval, *]))))
   all_goals(refine W_ret res54 hQ ?_)
   all_goals exact⟨_,_,Wk.refl _,Fg.refl _,rfl,rfl⟩
set_option maxHeartbeats 2000000 in
theorem Lbits_S (s:St)(ds:List Dm)(ow:Own)(hl:ds.length≤1000000)(hnl:∀d,d∈ds→d.1.length≤1000000000):SRet Tryz.prog 55 [.lst (domsI ds) ow] s (.int .i64 (if mayDs ds=true then((wdL ds).sum:Nat)else 0)) s:=by
 have w1:=Lwidths_S s ds ow hl hnl
 unfold wdR at w1
 unfold mayDs
 generalize domsI ds=D at *
 cases h1:okDs [] ds
 ·rw[h1]at w1
  simp only[Bool.false_eq_true,if_false]at w1
  simp only[Bool.false_and,Bool.false_eq_true,if_false]
  refine G_enter Tryz.func55 rfl Tryz.ntmps55 rfl fun Q hQ hQe=>?_
  (repeat'(first|refine Ctl ?_|((with_reducible refine Kof.use hK ?_);clear hK hE K E)|((with_reducible refine W_cond (fun h=>?_) (fun h=>?_))<;>(try(exfalso;assumption)))|(((with_reducible first|refine G_region fun K E hK hE=>?_|refine call_ret can83 (w1) ?_))<;>(try simp(disch:=omega) only[go_sem,seval, *]))))
  all_goals(refine W_ret res55 hQ ?_)
  all_goals exact⟨_,_,Wk.refl _,Fg.refl _,rfl,rfl⟩
 ·rw[h1]at w1
  simp only[if_true]at w1
  rw[Bool.true_and]
  generalize natsL (wdL ds)=NL at *
  generalize (decide ((wdL ds).sum≤256) && decide (ds.length≤32))=B at *
  generalize (wdL ds).sum=W0 at *
  cases B
  ·simp only[Bool.false_eq_true,if_false]
   refine G_enter Tryz.func55 rfl Tryz.ntmps55 rfl fun Q hQ hQe=>?_
   (repeat'(first|refine Ctl ?_|((with_reducible refine Kof.use hK ?_);clear hK hE K E)|((with_reducible refine W_cond (fun h=>?_) (fun h=>?_))<;>(try(exfalso;assumption)))|(((with_reducible first|refine G_region fun K E hK hE=>?_|refine call_ret can83 (w1) ?_))<;>(try simp(disch:=omega) only[go_sem,seval, *]))))
   all_goals(refine W_ret res55 hQ ?_)
   all_goals exact⟨_,_,Wk.refl _,Fg.refl _,rfl,rfl⟩
  ·simp only[if_true]
   refine G_enter Tryz.func55 rfl Tryz.ntmps55 rfl fun Q hQ hQe=>?_
   (repeat'(first|refine Ctl ?_|((with_reducible refine Kof.use hK ?_);clear hK hE K E)|((with_reducible refine W_cond (fun h=>?_) (fun h=>?_))<;>(try(exfalso;assumption)))|(((with_reducible first|refine G_region fun K E hK hE=>?_|refine call_ret can83 (w1) ?_))<;>(try simp(disch:=omega) only[go_sem,seval, *]))))
   all_goals(refine W_ret res55 hQ ?_)
   all_goals exact⟨_,_,Wk.refl _,Fg.refl _,rfl,rfl⟩
open Go.RowKit Go.Sort
def splitC (c:UInt8):List UInt8→List (List UInt8)
 |[]=>[[]]
 |b::l=>if b=c then []::splitC c l else match splitC c l with
  |[]=>[[b]]
  |p::r=>(b::p)::r
theorem index_cons (b c:UInt8)(l:List UInt8)(h:b≠c):Lib.index (b::l) [c]=if Lib.index l [c] == -1 then -1 else Lib.index l [c]+1:=by
 have hp:([c]:List UInt8).isPrefixOf (b::l)=false:=by simp[List.isPrefixOf,Ne.symm h]
 rw[Lib.index,hp];simp
theorem splitK_ne (b c:UInt8)(h:b≠c):∀(k:Nat) (l:List UInt8),∃p r,Lib.splitK [c] 0 k l=p::r∧Lib.splitK [c] 0 k (b::l)=(b::p)::r
 |0,l=>⟨l,[],rfl,rfl⟩
 |k+1,l=>by
  have hix:=index_cons b c l h
  by_cases hm:Lib.index l [c]=-1
  ·refine⟨l,[],?_,?_⟩
   ·unfold Lib.splitK;rw[if_pos (beq_iff_eq.2 hm)]
   ·unfold Lib.splitK;rw[if_pos];rw[hix,if_pos (beq_iff_eq.2 hm)];rfl
  ·have hge:=Lib.index_ge l [c]
   obtain⟨j,hj⟩:∃j:Nat,Lib.index l [c]=j:=⟨(Lib.index l [c]).toNat,by omega⟩
   have hix':Lib.index (b::l) [c]=((j+1:Nat):Int):=by rw[hix,if_neg (fun e=>hm (beq_iff_eq.1 e)),hj];omega
   have n1:¬ (Lib.index l [c] == -1)=true:=fun e=>hm (beq_iff_eq.1 e)
   have n2:¬ (Lib.index (b::l) [c] == -1)=true:=fun e=>by have:=beq_iff_eq.1 e;omega
   refine⟨l.take j,Lib.splitK [c] 0 k (l.drop (j+1)),?_,?_⟩
   ·rw[Lib.splitK,if_neg n1,hj];rfl
   ·rw[Lib.splitK,if_neg n2,hix']
    rfl
theorem split_one (c:UInt8):∀s:List UInt8,Lib.split s [c]=splitC c s
 |[]=>by
  have:Lib.count [] [c]=0:=by rw[Lib.count_one];rfl
  rw[Lib.split,this];rfl
 |b::l=>by
  have ih:=split_one c l
  unfold Lib.split at ih ⊢
  by_cases h:b=c
  ·subst h
   have hix:Lib.index (b::l) [b]=0:=by rw[Lib.index];simp[List.isPrefixOf]
   rw[Lib.count_cons_eq,Nat.add_comm,Lib.splitK,if_neg (by rw[hix];decide),hix]
   simp only[splitC,if_true]
   rw[← ih]
   rfl
  ·rw[Lib.count_cons_ne b c l h]
   obtain⟨p,r,h1,h2⟩:=splitK_ne b c h (Lib.count l [c]) l
   rw[h2]
   simp only[splitC,if_neg h]
   rw[← ih,h1]
theorem splitC_len (c:UInt8):∀s:List UInt8,(splitC c s).length≤s.length+1
 |[]=>Nat.le_refl _
 |b::l=>by
  have ih:=splitC_len c l
  simp only[splitC]
  split
  ·simp;omega
  ·split
   ·simp
   ·rename_i h;rw[h]at ih;simp at ih ⊢;omega
theorem Split_S (s:St)(l:List UInt8)(c:UInt8)(hl:l.length<4294967281):SRet Tryz.prog 84 [.str l,.str [c]] s (.lst (strs (splitC c l)) .no) s:=by
 intro w0 G w vs hS hA
 obtain⟨v1,v2,rfl,r1,r2⟩:=RL_two hA
 obtain⟨a,ha,rfl⟩:∃a:Array UInt8,a.toList=l∧v1=.string ⟨a⟩:=by cases r1;exact⟨_,rfl,rfl⟩
 obtain⟨sep,hsep,rfl⟩:∃a:Array UInt8,a.toList=[c]∧v2=.string ⟨a⟩:=by
  obtain⟨q,hq⟩:∃q,q=[c]:=⟨_,rfl⟩
  rw[← hq]at r2
  cases r2
  exact⟨_,hq,rfl⟩
 obtain⟨m,hm⟩:=hS.gl
 have hlt:0<w0.heap.size:=World.block_lt_of_cell? _ _ hm
 have hm':w.cell? ⟨0,0,none⟩=some (.int .i64 m):=(hS.below.cell (p:=⟨0,0,none⟩) hlt).trans hm
 have hsz:(⟨a⟩:ByteArray).size<4294967281:=by
  have:(⟨a⟩:ByteArray).size=a.toList.length:=by rw[Array.length_toList];rfl
  rw[this,ha];exact hl
 have hs1:1≤(⟨sep⟩:ByteArray).size:=by
  have:(⟨sep⟩:ByteArray).size=sep.toList.length:=by rw[Array.length_toList];rfl
  rw[this,hsep];simp
 refine(Tryz.strings_Split ⟨a⟩ ⟨sep⟩ m w hsz hm' hs1).mono ?_
 rintro e w' ⟨rfl,rfl⟩
 obtain⟨PB,hPB⟩:∃PB,PB=Lib.splitB ⟨sep⟩ 0 (Lib.countB ⟨a⟩ ⟨sep⟩) ⟨a⟩:=⟨_,rfl⟩
 have hlen:PB.length=Lib.countB ⟨a⟩ ⟨sep⟩+1:=by rw[hPB];exact Lib.splitB_all _ hs1 0 _ _ rfl
 have hdat:PB.map (·.data.toList)=splitC c l:=by
  rw[hPB,Lib.splitB_data,← split_one]
  show Lib.splitK sep.toList 0 (Lib.count a.toList sep.toList) a.toList=_
  rw[hsep,ha];rfl
 rw[← hPB,← hlen]
 have hSn:Below w.heap.size w (w.alloc (.cells (PB.map Value.string).toArray 9)):=(Below.refl _ w).alloc (Nat.le_refl _) _
 obtain⟨G',g1,g2,g3⟩:=hS.know hSn w.heap.size (Nat.le_refl _) (fun i=>(PB[i]?).map Value.string) fun i v hv=>by
  simp only[World.cell?,heap_alloc_new]
  simpa using hv
 refine⟨G',s,.ret (.lst (strs (splitC c l)) .no),g1,g2,?_,rfl,rfl⟩
 refine .lst w.heap.size 0 PB.length PB.length 1 (strs (splitC c l)) .no (fun i _=>.string ((PB[i]?).getD ⟨#[]⟩)) (by rw[← hdat];simp[strs]) (Nat.le_refl _) ?_ ?_ ?_ ?_ (.inl rfl)
 ·intro x hx
  obtain⟨y,_,rfl⟩:=List.mem_map.1 hx
  rfl
 ·intro x hx y hy
  obtain⟨z,_,rfl⟩:=List.mem_map.1 hx
  rw[List.mem_singleton]at hy
  subst hy
  rfl
 ·intro i j hi hj
  have:j=0:=by omega
  subst this
  have:=g3 i (.string PB[i]) (by rw[List.getElem?_eq_getElem hi];rfl)
  rw[List.getElem?_eq_getElem hi]
  simpa using this
 ·intro i j x y hx hy
  simp only[strs,← hdat,List.map_map,List.getElem?_map]at hx
  obtain⟨z,hz,rfl⟩:=Option.map_eq_some_iff.1 hx
  have hj:j=0:=by
   have:=(List.getElem?_eq_some_iff.1 hy).1
   simp at this;exact this
  subst hj
  simp at hy
  subst hy
  rw[hz]
  obtain⟨b⟩:=z
  exact .str b
theorem Irev_S (s:St)(g:Nat)(T:TypeId)(zs:List Int)(hn:zs.length≤100000000)(hs:s g=.row T 1 (ints zs)) :
  SRet Tryz.prog 87 [.mrw g zs.length] s (.tup []) (s.set g (.row T 1 (ints zs.reverse))):=by
 intro w0 G w vs hS hA
 obtain⟨v1,rfl,r1⟩:=RL_one hA
 cases r1 with
 |mrw _ _ cap sz hq hc=>
 have hok:=hS.ok g
 rw[hs]at hok
 obtain⟨hB,hnK,c,cap',hh,hq',hcs,hl,hm,hx⟩:=hok
 have hil:(ints zs).length=zs.length:=by simp[ints]
 rw[hil]at hl
 have hblk:g<w.heap.size:=hS.lt (by rw[hs];simp)
 have hcell:∀(i:Nat) (z:Int),zs[i]?=some z→c[i]?=some (.int .i64 z):=fun i z hz=>by
  obtain⟨_,v,h1,h2⟩:=hx i (.int .i64 z) (by simp[ints,hz])
  cases h2
  exact h1
 have hH:Holds (Value.int .i64) w g 0 zs.toArray:=fun j hj=>by
  rw[List.size_toArray]at hj
  have h1:=hcell j _ (List.getElem?_eq_getElem hj)
  constructor
  ·rw[getElem!_pos _ j (by simpa using hj)]
   simp only[World.cell?,Nat.zero_add,hh]
   simpa using h1
  ·simp[World.frozen?,hh]
 refine(Tryz.slices_Reverse_int g 0 cap zs w hH (by omega)).mono ?_
 rintro e w' ⟨rfl,n,rfl⟩
 have hS1:Sim w0 G (Sort.ahead w n) s:=hS.world ⟨rfl,rfl,rfl,Nat.le_refl _,fun _ _=>rfl⟩
 obtain⟨d',hd'⟩:∃d',d'=zs.reverse.toArray:=⟨_,rfl⟩
 have hdl:d'.size=zs.length:=by rw[hd',List.size_toArray,List.length_reverse]
 rw[← hd']
 have hmod:∀k,(Sort.putRow (Value.int .i64) (Sort.ahead w n) g 0 d').heap[k]?=if g=k then(w.heap[k]?).map (onCells (putCells (Value.int .i64) 0 d'))else w.heap[k]?:=fun k=>Array.getElem?_modify ..
 have hS2:=hS1.set_row hs (Sort.putRow (Value.int .i64) (Sort.ahead w n) g 0 d') c (putCells (Value.int .i64) 0 d' c) (ys:=ints zs.reverse) hh
  ⟨rfl,rfl,rfl,by simp[Sort.putRow,mapBlock],fun k hk=>by rw[hmod,if_neg (by omega)];rfl⟩ (by simp[Sort.putRow,mapBlock]) (by rw[hmod,if_pos rfl,hh];rfl) (fun k hk=>by rw[hmod,if_neg (Ne.symm hk)];rfl)
  (by simp[putCells]) (by simp only[ints,List.length_map,List.length_reverse];rw[hcs];exact hl) (fun i x hi=>by
   simp only[ints,List.getElem?_map]at hi
   obtain⟨k,hk,rfl⟩:=Option.map_eq_some_iff.1 hi
   have hil:=(List.getElem?_eq_some_iff.1 hk).1
   rw[List.length_reverse]at hil
   refine⟨rfl,.int .i64 k,?_,.int _ _⟩
   have hid:i<d'.size:=by omega
   have hdk:d'[i]=k:=by
    have h3:d'.toList[i]?=some k:=by rw[hd'];exact hk
    rw[Array.getElem?_toList,Array.getElem?_eq_getElem hid]at h3
    injection h3
   have hic:i<c.size:=by rw[hcs];omega
   simp only[putCells,Array.getElem?_mapIdx,Array.getElem?_eq_getElem hic,Option.map_some,Nat.zero_le,Nat.zero_add,true_and,hid,if_true,Nat.sub_zero]
   rw[getElem!_pos d' i hid,hdk])
 refine⟨G,_,.ret (.tup []),Gh.le.refl G,hS2,.tup #[] [] rfl (fun j v y h=>by simp at h),rfl,rfl⟩
theorem Irev0_S (s:St):SRet Tryz.prog 87 [.raw (.slice none 0 0)] s (.tup []) s:=by
 intro w0 G w vs hS hA
 obtain⟨v1,rfl,r1⟩:=RL_one hA
 cases r1 with
 |raw=>
 refine(Tryz.slices_Reverse_int_empty none 0 w).mono ?_
 rintro e w' ⟨rfl,rfl⟩
 exact⟨G,s,.ret (.tup []),Gh.le.refl G,hS,R.tup #[] [] rfl (fun j v y h=>by simp at h),rfl,rfl⟩
def ixD (nm:List UInt8):List Dm→Nat→Int
 |[],_=>-1
 |d::r,i=>if d.1=nm then(i:Int)else ixD nm r (i+1)
set_option maxHeartbeats 1000000 in
theorem Lpl1_S (s:St)(sb:Nat)(nm x:List UInt8)(sz:Int)(hs:s sb=.obj 9 [.str x]):SRet Tryz.prog 86 [.agg [.str nm,.int .i64 sz],.ptr sb 0] s (.bool (decide (nm=x))) s:=by
 have hf:s sb≠.free:=by rw[hs];simp
 refine G_enter Tryz.func86 rfl Tryz.ntmps86 rfl fun Q hQ hQe=>?_
 (repeat'(first|refine Ctl ?_|((with_reducible refine Kof.use hK ?_);clear hK hE K E)|((first|(with_reducible refine G_region fun K E hK hE=>?_)|((with_reducible refine W_fresh (fun b hb=>?_));(try(obtain⟨_,_⟩:=nef hb hf))))<;>(try simp(disch:=omega) only[go_sem,seval, *]))))
 all_goals(refine W_ret res86 hQ ?_)
 exact⟨_,_,Wk.refl _,Fg.of_set _ hb,rfl,rfl⟩
set_option maxHeartbeats 4000000 in
theorem LixF_S (s:St)(sb:Nat)(x:List UInt8)(ds:List Dm)(ow:Own)(hl:ds.length≤1000000)(hs:s sb=.obj 9 [.str x]) :
  SRet Tryz.prog 85 [.lst (domsI ds) ow,.fn 86 [.ptr sb 0]] s (.int .i64 (ixD x ds 0)) s:=by
 have w1:=fun nm sz=>Lpl1_S s sb nm x sz hs
 have hln:=domsI_len (ds:=ds)
 have hat:=fun i d h=>domsI_at (ds:=ds) (i:=i) (d:=d) h
 have HA:=Lib.hid hat
 clear hat hs
 obtain⟨R,hR⟩:∃R,ixD x ds 0=R:=⟨_,rfl⟩
 rw[hR]
 have h0:Hid (ixD x (ds.drop 0) 0=R):=Lib.hid (by rw[List.drop_zero];exact hR)
 clear hR
 generalize domsI ds=L at *
 refine G_enter Tryz.func85 rfl Tryz.ntmps85 rfl fun Q hQ hQe=>?_
 (repeat'(first|refine Ctl ?_|((with_reducible refine Kof.use hK ?_);clear hK hE K E)|(((with_reducible refine G_region fun K E hK hE=>?_))<;>(try simp(disch:=omega) only[go_sem,seval,hln, *]))))
 refine L_loop (fun m env s'=>∃(i:Nat),i≤ds.length∧m+i=ds.length∧Hid (ixD x (ds.drop i) i=R)∧s'=s∧env 0=.lst L ow∧env 1=.fn 86 [.ptr sb 0]∧env 7=.int .i64 ds.length∧env 8=.int .i64 i) ds.length
  ⟨0,by omega,by omega,h0,rfl,z_sl,z_sl,z_sl,z_sl⟩ ?_
 rintro m env s' ⟨i,hi,hm,HR,rfl,e0,e1,e7,e8⟩
 by_cases h2:i<ds.length
 ·have hx:=HA.out i _ (List.getElem?_eq_getElem h2)
  have hd:=List.drop_eq_getElem_cons h2
  have hr:=HR.out
  rw[hd]at hr
  simp only[ixD]at hr
  generalize ds[i]=d at *
  obtain⟨nm,sz⟩:=d
  dsimp only at hx hr
  have w2:=w1 nm sz
  by_cases e:nm=x
  ·rw[if_pos e]at hr
   rw[decide_eq_true e]at w2
   have HRR:=Lib.hid hr
   clear hr hd e w1 HR
   (repeat'(first|refine Ctl ?_|((with_reducible refine Kof.use hK ?_);clear hK hE K E)|((with_reducible refine W_cond (fun h=>?_) (fun h=>?_))<;>(try(exfalso;assumption)))|(((with_reducible first|refine G_region fun K E hK hE=>?_|refine call_ret can86 (w2) ?_))<;>(try simp(disch:=omega) only[go_sem,seval,hx, *]))))
   all_goals(refine W_ret res85 hQ ?_)
   all_goals(rw[← HRR.out];exact⟨_,_,Wk.refl _,Fg.refl _,rfl,rfl⟩)
  ·rw[if_neg e]at hr
   rw[decide_eq_false e]at w2
   have HRR:=Lib.hid hr
   clear hr hd e w1 HR
   (repeat'(first|refine Ctl ?_|((with_reducible refine Kof.use hK ?_);clear hK hE K E)|((with_reducible refine W_cond (fun h=>?_) (fun h=>?_))<;>(try(exfalso;assumption)))|(((with_reducible first|refine G_region fun K E hK hE=>?_|refine call_ret can86 (w2) ?_))<;>(try simp(disch:=omega) only[go_sem,seval,hx, *]))))
   all_goals exact⟨m - 1,by omega,i+1,by omega,by omega,HRR,rfl,z_sl,z_sl,z_sl,z_sl⟩
 ·have hr:=HR.out
  rw[List.drop_of_length_le (by omega)]at hr
  simp only[ixD]at hr
  have HRR:=Lib.hid hr
  clear hr HR
  (repeat'(first|refine Ctl ?_|((with_reducible refine Kof.use hK ?_);clear hK hE K E)|((with_reducible refine W_cond (fun h=>?_) (fun h=>?_))<;>(try(exfalso;assumption)))|(((with_reducible refine G_region fun K E hK hE=>?_))<;>(try simp(disch:=omega) only[go_sem,seval, *]))))
  all_goals(refine W_ret res85 hQ ?_)
  all_goals(rw[← HRR.out];exact⟨_,_,Wk.refl _,Fg.refl _,rfl,rfl⟩)
end Go.Proofs.YtndlnadbnganeaaGreatDoor
namespace Go.Proofs.YtndlnadbnganeaaGreatDoor
open Go.RowKit
section
variable {w0 w : World} {G : Gh} {s : St} {b g i n : Nat} {T T' : TypeId} {xs cs cs' : List VV}
theorem set_at {l:List VV}{i:Nat}{x y:VV}(h:l[i]?=some x):(l.set i y)[i]?=some y:=List.getElem?_set_self (List.getElem?_eq_some_iff.1 h).1
theorem GSg.frz1 (hb:s b=.obj T cs)(hi:cs[i]?=some (.mrw g n))(hg:s g=.row T' 1 xs)(hn:xs.length=n) :
  GSg s ((s.set g .free).set b (.obj T (cs.set i (.lst (xs.map fun y=>[y]) .no)))):=by
 intro w0 G w h
 have hne:¬ b=g:=by rintro rfl;rw[hb]at hg;cases hg
 obtain⟨G',hle,hS,hK,_⟩:=h.frzR hg
 have hob:=hS.ok b
 rw[St.set_other _ _ hne,hb]at hob
 obtain⟨hB,hnK,c,hc,hsz,hx⟩:=hob
 refine⟨G',hle,hS.below,hS.K,hS.cap,fun x=>?_,hS.gl,hS.rows.keep' (Gh.le.refl _) (Nat.le_refl _) (fun g' _ hg'=>⟨?_,rfl,fun _=>rfl⟩) (fun b' T xs rs hb'=>?_)⟩
 ·by_cases hxb:x=b
  ·subst hxb
   rw[St.set_same]
   refine⟨hB,hnK,c,hc,by rw[hsz,List.length_set],fun j y hj=>?_⟩
   by_cases hji:j=i
   ·subst hji
    rw[set_at hi]at hj
    injection hj with hj
    subst hj
    obtain⟨_,v,hv,hr⟩:=hx j _ hi
    exact⟨rfl,v,hv,R.frz hn hK hr⟩
   ·rw[List.getElem?_set_ne (Ne.symm hji)]at hj
    exact hx j y hj
  ·rw[St.set_other _ _ hxb];exact hS.ok x
 ·by_cases e:g'=b
  ·subst e;rw[St.set_other _ _ hne,hb]at hg';cases hg'
  ·rw[St.set_other _ _ e];exact hg'
 ·by_cases e:b'=b
  ·subst e;rw[St.set_same]at hb';cases hb'
  ·rw[St.set_other _ _ e]at hb';exact⟨hb',rfl⟩
theorem GS.wkc (hb:s b=.obj T cs)(hl:cs'.length=cs.length)(hw:∀(i:Nat) (y':VV),cs'[i]?=some y'→∃y,cs[i]?=some y∧Wk y y'∧y'.one=true):GS s (s.set b (.obj T cs')):=by
 intro w0 G w hS
 have hob:=hS.ok b
 rw[hb]at hob
 obtain⟨hB,hnK,c,hc,hsz,hx⟩:=hob
 refine⟨hS.below,hS.K,hS.cap,fun x=>?_,hS.gl,hS.rows.keep' (Gh.le.refl _) (Nat.le_refl _) (fun g' _ hg'=>⟨?_,rfl,fun _=>rfl⟩) (fun b' T xs rs hb'=>?_)⟩
 ·by_cases hxb:x=b
  ·subst hxb
   rw[St.set_same]
   refine⟨hB,hnK,c,hc,by rw[hsz,hl],fun j y hj=>?_⟩
   obtain⟨y0,h1,h2,h3⟩:=hw j y hj
   obtain⟨_,v,hv,hr⟩:=hx j _ h1
   exact⟨h3,v,hv,h2 _ _ hr⟩
  ·rw[St.set_other _ _ hxb];exact hS.ok x
 ·by_cases e:g'=b
  ·subst e;rw[hb]at hg';cases hg'
  ·rw[St.set_other _ _ e];exact hg'
 ·by_cases e:b'=b
  ·subst e;rw[St.set_same]at hb';cases hb'
  ·rw[St.set_other _ _ e]at hb';exact⟨hb',rfl⟩
end
theorem Wk.toraw:Wk (.lst [] .full) (.raw (.slice none 0 0)):=fun G v hr=>by
 cases hr with
 |emp a cap o ho=>
  rcases ho with ho|⟨_,rfl,rfl⟩
  ·cases ho
  ·exact .raw _
 |lst b off len cap sz xs o f hl hc hz h1 hK hR ho=>
  simp at hl
  subst hl
  rcases ho with ho|⟨_,_,h0⟩|⟨ho,_⟩
  ·cases ho
  ·omega
  ·cases ho
structure PlS (s u:St) (bO:Nat) (xs:List VV) (out:List (List Nat)):Prop where
 o:u bO=.obj 34 xs
 nO:s bO=.free
 ln:xs.length=out.length
 c:∀(k:Nat) (r:List Nat),out[k]?=some r→(r=[]∧xs[k]?=some (.raw (.slice none 0 0)))∨∃g,xs[k]?=some (.mrw g r.length)∧u g=.row 3 1 (ints (r.map fun(k:Nat)=>(k:Int)))∧s g=.free
 ap:∀(k k' g n n':Nat),xs[k]?=some (.mrw g n)→xs[k']?=some (.mrw g n')→k=k'
 fr:∀z,s z≠.free→u z=s z
theorem PlS.ne {s u:St}{bO:Nat}{xs:List VV}{out:List (List Nat)}(h:PlS s u bO xs out){k g n:Nat}(hk:xs[k]?=some (.mrw g n)):g≠bO:=fun e=>by
 have hl:k<out.length:=by rw[← h.ln];exact(List.getElem?_eq_some_iff.1 hk).1
 rcases h.c k _ (List.getElem?_eq_getElem hl)with ⟨_,e2⟩|⟨g',e2,e3,_⟩
 ·rw[hk]at e2;cases e2
 ·rw[hk]at e2
  injection e2 with e2
  injection e2 with e2 _
  rw[← e2,e,h.o]at e3
  cases e3
theorem PlS.step {s u v:St}{bO k:Nat}{xs:List VV}{out:List (List Nat)}{r r2:List Nat}{y:Nat}(h:PlS s u bO xs out)(hk:out[k]?=some r)
  (hv:∀z,u z≠.free→z≠bO→(∀g n,xs[k]?=some (.mrw g n)→z≠g)→v z=u z) (ho:v bO=.obj 34 (xs.set k (.mrw y r2.length))) (hy:v y=.row 3 1 (ints (r2.map fun(k:Nat)=>(k:Int)))) (hyf:u y=.free∨∃n,xs[k]?=some (.mrw y n)) :
  PlS s v bO (xs.set k (.mrw y r2.length)) (out.set k r2):=by
 have hkl:k<out.length:=(List.getElem?_eq_some_iff.1 hk).1
 have hys:s y=.free:=by
  rcases hyf with e|⟨n,e⟩
  ·by_cases hs:s y=.free
   ·exact hs
   ·exact absurd (by rw[← h.fr y hs];exact e) hs
  ·rcases h.c k r hk with ⟨_,e2⟩|⟨g,e2,_,e4⟩
   ·rw[e]at e2;cases e2
   ·rw[e]at e2;injection e2 with e2;injection e2 with e2 _;rw[e2];exact e4
 have hsep:∀(j:Nat) (g n:Nat),j≠k→xs[j]?=some (.mrw g n)→g≠y∧v g=u g:=fun j g n hj hx=>by
  have hjl:j<out.length:=by rw[← h.ln];exact(List.getElem?_eq_some_iff.1 hx).1
  have hgu:u g≠.free:=by
   rcases h.c j _ (List.getElem?_eq_getElem hjl)with ⟨_,e2⟩|⟨g',e2,e3,_⟩
   ·rw[hx]at e2;cases e2
   ·rw[hx]at e2;injection e2 with e2;injection e2 with e2 _;rw[e2,e3];simp
  have hgk:∀g' n',xs[k]?=some (.mrw g' n')→g≠g':=fun g' n' hx' e=>hj (h.ap j k g n n' hx (e ▸ hx'))
  refine⟨fun e=>?_,hv g hgu (h.ne hx) hgk⟩
  rcases hyf with e2|⟨n',e2⟩
  ·rw[← e]at e2;exact hgu e2
  ·exact hgk _ _ e2 e
 refine⟨ho,h.nO,by rw[List.length_set,List.length_set];exact h.ln,fun j r' hj=>?_,fun j j' g n n' h1 h2=>?_,fun z hz=>?_⟩
 ·by_cases e:k=j
  ·subst e
   rw[List.getElem?_set_self hkl]at hj
   injection hj with hj
   subst hj
   exact .inr ⟨y,by rw[List.getElem?_set_self (by rw[h.ln];exact hkl)],hy,hys⟩
  ·rw[List.getElem?_set_ne e]at hj ⊢
   rcases h.c j r' hj with e2|⟨g,e2,e3,e4⟩
   ·exact .inl e2
   ·exact .inr ⟨g,e2,by rw[(hsep j g _ (Ne.symm e) e2).2];exact e3,e4⟩
 ·have hkx:k<xs.length:=by rw[h.ln];exact hkl
  by_cases e1:k=j
  ·by_cases e2:k=j'
   ·rw[← e1,← e2]
   ·subst e1
    rw[List.getElem?_set_self hkx]at h1
    rw[List.getElem?_set_ne e2]at h2
    injection h1 with h1
    injection h1 with h1 _
    exact absurd h1.symm (hsep j' g n' (Ne.symm e2) h2).1
  ·rw[List.getElem?_set_ne e1]at h1
   by_cases e2:k=j'
   ·subst e2
    rw[List.getElem?_set_self hkx]at h2
    injection h2 with h2
    injection h2 with h2 _
    exact absurd h2.symm (hsep j g n (Ne.symm e1) h1).1
   ·rw[List.getElem?_set_ne e2]at h2
    exact h.ap j j' g n n' h1 h2
 ·rw[hv z (by rw[h.fr z hz];exact hz) (fun e=>hz (e ▸ h.nO)) ?_,h.fr z hz]
  rintro g n hx rfl
  rcases h.c k r hk with ⟨_,e2⟩|⟨g',e2,_,e4⟩
  ·rw[hx]at e2;cases e2
  ·rw[hx]at e2;injection e2 with e2;injection e2 with e2 _;rw[← e2]at e4;exact hz e4
theorem PlS.other {s u v:St}{bO:Nat}{xs:List VV}{out:List (List Nat)}(h:PlS s u bO xs out)(hv:∀z,(∃T xs,u z=.obj T xs)∨(∃T sz xs,u z=.row T sz xs)∨s z≠.free→v z=u z):PlS s v bO xs out:=
 ⟨(hv bO (.inl ⟨_,_,h.o⟩)).trans h.o,h.nO,h.ln,fun k r hk=>by
  rcases h.c k r hk with e|⟨g,e1,e2,e3⟩
  ·exact .inl e
  ·exact .inr ⟨g,e1,(hv g (.inr (.inl ⟨_,_,_,e2⟩))).trans e2,e3⟩,h.ap,fun z hz=>(hv z (.inr (.inr hz))).trans (h.fr z hz)⟩
structure PlF (s u:St) (bO:Nat) (xs:List VV) (out:List (List Nat)) (j:Nat):Prop where
 o:u bO=.obj 34 xs
 nO:s bO=.free
 ln:xs.length=out.length
 d:∀(k:Nat) (r:List Nat),k<j→out[k]?=some r→xs[k]?=some (.lst (natsL r) .no)
 c:∀(k:Nat) (r:List Nat),j≤k→out[k]?=some r→(r=[]∧xs[k]?=some (.raw (.slice none 0 0)))∨∃g,xs[k]?=some (.mrw g r.length)∧u g=.row 3 1 (ints (r.map fun(k:Nat)=>(k:Int)))∧s g=.free
 ap:∀(k k' g n n':Nat),xs[k]?=some (.mrw g n)→xs[k']?=some (.mrw g n')→k=k'
 fr:∀z,s z≠.free→u z=s z
theorem frz_step {s u:St}{bO j:Nat}{xs:List VV}{out:List (List Nat)}(h:PlF s u bO xs out j){r:List Nat}(hr:out[j]?=some r):∃u',GSg u u'∧PlF s u' bO (xs.set j (.lst (natsL r) .no)) out (j+1):=by
 have hjl:j<xs.length:=by rw[h.ln];exact(List.getElem?_eq_some_iff.1 hr).1
 have dn:∀(k:Nat) (r':List Nat),k<j+1→out[k]?=some r'→(xs.set j (.lst (natsL r) .no))[k]?=some (.lst (natsL r') .no):=fun k r' hk hr'=>by
  by_cases e:j=k
  ·subst e
   rw[hr]at hr'
   injection hr' with hr'
   rw[List.getElem?_set_self hjl,hr']
  ·rw[List.getElem?_set_ne e]
   exact h.d k r' (by omega) hr'
 have ap2:∀(k k' g n n':Nat),(xs.set j (.lst (natsL r) .no))[k]?=some (.mrw g n)→(xs.set j (.lst (natsL r) .no))[k']?=some (.mrw g n')→k=k':=fun k k' g n n' h1 h2=>by
  have key:∀{k n:Nat},(xs.set j (.lst (natsL r) .no))[k]?=some (.mrw g n)→xs[k]?=some (.mrw g n):=fun {k n} hh=>by
   by_cases e:j=k
   ·subst e;rw[List.getElem?_set_self hjl]at hh;cases hh
   ·rwa [List.getElem?_set_ne e]at hh
  exact h.ap k k' g n n' (key h1) (key h2)
 rcases h.c j r (Nat.le_refl _) hr with ⟨e1,e2⟩|⟨g,e1,e2,e3⟩
 ·refine⟨u.set bO (.obj 34 (xs.set j (.lst (natsL r) .no))),.of_gs (GS.wkc h.o (List.length_set ..) fun i y hy=>?_),St.set_same _ _ _,h.nO,by rw[List.length_set];exact h.ln,dn,fun k r' hk hr'=>?_,ap2,fun z hz=>by rw[St.set_other _ _ (fun e=>hz (by rw[e];exact h.nO))];exact h.fr z hz⟩
  ·by_cases e:j=i
   ·subst e
    rw[List.getElem?_set_self hjl]at hy
    injection hy with hy
    subst hy
    subst e1
    exact⟨_,e2,Wk.rawnil,rfl⟩
   ·rw[List.getElem?_set_ne e]at hy
    refine⟨y,hy,Wk.refl _,?_⟩
    have hil:i<out.length:=by rw[← h.ln];exact(List.getElem?_eq_some_iff.1 hy).1
    by_cases hij:i<j
    ·rw[h.d i _ hij (List.getElem?_eq_getElem hil)]at hy
     injection hy with hy;subst hy;rfl
    ·rcases h.c i _ (by omega) (List.getElem?_eq_getElem hil)with ⟨_,e3⟩|⟨g,e3,_⟩
     ·rw[e3]at hy;injection hy with hy;subst hy;rfl
     ·rw[e3]at hy;injection hy with hy;subst hy;rfl
  ·have hkj:j≠k:=by omega
   rw[List.getElem?_set_ne hkj]
   rcases h.c k r' (by omega) hr' with e|⟨g,a1,a2,a3⟩
   ·exact .inl e
   ·refine .inr ⟨g,a1,?_,a3⟩
    rw[St.set_other]
    ·exact a2
    ·intro e;rw[e,h.o]at a2;cases a2
 ·have hgb:g≠bO:=fun e=>by rw[e,h.o]at e2;cases e2
  have hf:=GSg.frz1 h.o e1 e2 (by rw[ints_len,List.length_map])
  have hL:(ints (r.map fun(k:Nat)=>(k:Int))).map (fun y=>[y])=natsL r:=by simp[ints,natsL,Function.comp]
  rw[hL]at hf
  refine⟨_,hf,St.set_same _ _ _,h.nO,by rw[List.length_set];exact h.ln,dn,fun k r' hk hr'=>?_,ap2,fun z hz=>?_⟩
  ·have hkj:j≠k:=by omega
   rw[List.getElem?_set_ne hkj]
   rcases h.c k r' (by omega) hr' with e|⟨g',a1,a2,a3⟩
   ·exact .inl e
   ·refine .inr ⟨g',a1,?_,a3⟩
    have n1:g'≠bO:=fun e=>by rw[e,h.o]at a2;cases a2
    have n2:g'≠g:=fun e=>hkj (h.ap j k g _ _ e1 (e ▸ a1))
    rw[St.set_other _ _ n1,St.set_other _ _ n2]
    exact a2
  ·rw[St.set_other _ _ (fun e=>hz (by rw[e];exact h.nO)),St.set_other _ _ (fun e=>hz (by rw[e];exact e3))]
   exact h.fr z hz
theorem frz_all {s:St}{bO:Nat}{out:List (List Nat)}:∀(d j:Nat) {u:St} {xs:List VV},j+d=out.length→PlF s u bO xs out j→∃u' xs',GSg u u'∧PlF s u' bO xs' out out.length
 |0,j,u,xs,hd,h=>by
  have:j=out.length:=by omega
  subst this
  exact⟨u,xs,.refl u,h⟩
 |d+1,j,u,xs,hd,h=>by
  have hr:=List.getElem?_eq_getElem (show j<out.length by omega)
  obtain⟨u1,g1,h1⟩:=frz_step h hr
  obtain⟨u2,xs2,g2,h2⟩:=frz_all d (j+1) (by omega) h1
  exact⟨u2,xs2,g1.trans g2,h2⟩
def rowsN (out:List (List Nat)):List VV:=out.map fun r=>.lst (natsL r) .no
theorem PlS.freeze {s u:St}{bO:Nat}{xs:List VV}{out:List (List Nat)}(h:PlS s u bO xs out):GSg u (s.set bO (.obj 34 (rowsN out))):=by
 obtain⟨u',xs',g1,h1⟩:=frz_all (s:=s) (bO:=bO) (out:=out) out.length 0 (by omega) ⟨h.o,h.nO,h.ln,fun k r hk _=>by omega,fun k r _ hr=>h.c k r hr,h.ap,h.fr⟩
 have e:xs'=rowsN out:=by
  apply List.ext_getElem?
  intro k
  simp only[rowsN,List.getElem?_map]
  by_cases hk:k<out.length
  ·rw[h1.d k _ hk (List.getElem?_eq_getElem hk),List.getElem?_eq_getElem hk];rfl
  ·rw[List.getElem?_eq_none (by rw[h1.ln];omega),List.getElem?_eq_none (by omega)];rfl
 subst e
 refine g1.trans (.of_fg fun z=>?_)
 by_cases e:z=bO
 ·subst e;rw[St.set_same,h1.o];exact .inr rfl
 ·rw[St.set_other _ _ e]
  by_cases hz:s z=.free
  ·exact .inl hz
  ·exact .inr (h1.fr z hz).symm
def grpF (ds:List Dm):List (List UInt8)→List Nat→List Nat→Option (List Nat×List Nat)
 |[],l,sn=>some (l,sn)
 |p::r,l,sn=>if ixD p ds 0<0∨(ixD p ds 0).toNat∈sn then none else grpF ds r (l++[(ixD p ds 0).toNat]) (sn++[(ixD p ds 0).toNat])
def passF (wd:List Nat)(lv:Nat):List Nat→List (List Nat)→Nat→Bool→List (List Nat)×Nat×Bool
 |[],o,nx,mo=>(o,nx,mo)
 |k::r,o,nx,mo=>if lv<wd.getD k 0 then passF wd lv r (o.set k (o.getD k []++[nx])) (nx+1) true else passF wd lv r o nx mo
def levF (wd l:List Nat):Nat→Nat→List (List Nat)→Nat→List (List Nat)×Nat
 |0,_,o,nx=>(o,nx)
 |f+1,lv,o,nx=>if (passF wd lv l o nx false).2.2=true then levF wd l f (lv+1) (passF wd lv l o nx false).1 (passF wd lv l o nx false).2.1 else((passF wd lv l o nx false).1,(passF wd lv l o nx false).2.1)
def plF (ds:List Dm)(wd:List Nat):List (List UInt8)→List (List Nat)→Nat→List Nat→Option (List (List Nat)×List Nat)
 |[],o,_,sn=>some (o,sn)
 |g::r,o,nx,sn=>match grpF ds (splitC 42 g) [] sn with
  |none=>none
  |some (l,sn')=>plF ds wd r (levF wd l 64 0 o nx).1 (levF wd l 64 0 o nx).2 sn'
def finF (n:Nat):Option (List (List Nat)×List Nat)→Except Int (List (List Nat))
 |none=>.error 70
 |some (o,sn)=>if sn.length<n then .error 70 else .ok (o.map List.reverse)
def placeF (ds:List Dm)(od:List UInt8):Except Int (List (List Nat)):=
 if mayDs ds=true then finF ds.length (plF ds (wdL ds) (if od=[] then [] else splitC 95 od) (List.replicate ds.length []) 0 [])else .error 1
end Go.Proofs.YtndlnadbnganeaaGreatDoor
