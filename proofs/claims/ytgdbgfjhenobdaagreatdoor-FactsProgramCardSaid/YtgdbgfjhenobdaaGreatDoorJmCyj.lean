/- Walks of functions that the claim reaches, and plain facts of them. Conditions: those in the statements. -/
import Derived.Test.YtgdbgfjhenobdaaGreatDoorJmCvj
import Derived.Test.YtgdbgfjhenobdaaGreatDoorJmRlexj
import Derived.KernelRfl
set_option linter.unusedSimpArgs false
set_option linter.unusedVariables false
set_option maxRecDepth 100000
namespace Go.Proofs.YtgdbgfjhenobdaaGreatDoor
open Go.RowKit
attribute [local go_sem] p_enil1 p_enil2 p_nilE one_nil Nm2_set Nm2_gt Nm2_bf Nm2_setf Nm2_own Nm2_dis Nm2_ownd Nm2_ok Nm2_free NmX_set NmX_gt NmX_bf NmX_setf NmX_own NmX_dis NmX_ownd NmX_ok NmX_free NmX_gt3 NmX_xv3 NmX_bf3 NmX_setf3 owned_oth disown_other own_rd_ok own2_rd Nm2_xf Nm2_xn
set_option maxHeartbeats 8000000 in
theorem CNames_S (x:List Cls)(hx:SrcOk x)(t:St):SRet Tryz.prog 28 [srcV x] t (.tup [.agg (fctN (namesR x)),.int .i64 (rightE x)]) t:=by
 unfold namesR
 by_cases h0:rightE x=0
 ·have hcb:checkB x=true:=(rdE_0 (by
   by_cases hr:rdE x=0
   ·exact hr
   ·exact absurd ((rightE_rd hr).symm.trans h0) hr)).1
  have hb:=Bnd.of hcb
  have w0:=Cright2_S x hx h0
  rw[if_pos h0,h0]
  have hlen:(x.map clsC).length=x.length:=by simp
  have hxl:=hb.cls
  have hmc:=mcount_le x hb.mths
  generalize hR:namesN x=R
  have HR:Hid (x.foldl clsN nms0=R):=Lib.hid hR
  have HB:=Lib.hid hb
  have HC:=Lib.hid (body_len hcb)
  have HX:=Lib.hid hx
  clear hR hb h0 hx hcb
  simp only[srcV]at w0 ⊢
  refine SCalls.gs ?_
  refine G_enter Tryz.func28 rfl Tryz.ntmps28 rfl fun Q hQ hQe=>?_
  (repeat'(first|refine Ctl ?_|((with_reducible refine Kof.use hK ?_);clear hK hE K E)|((with_reducible refine W_cond (fun h=>?_) (fun h=>?_))<;>(try(exfalso;assumption)))|((first|(with_reducible refine G_region fun K E hK hE=>?_)|((with_reducible refine call_ex can60 (w0 _) (fun a h=>?_)))|((with_reducible refine W_fresh (fun b hb=>?_));(repeat(obtain⟨_,hb⟩:=hb))))<;>(try simp(disch:=first|assumption|omega) only[go_sem,seval,hlen, *]))))
  refine G_loopS (fun m env s'=>∃(i:Nat) (q:Nms) (B:B5) (T:St) (b2 b7 b8:Nat),i≤x.length∧m+i=x.length∧szA q+mcount (x.drop i) * 420000000≤900000000000∧Hid ((x.drop i).foldl clsN q=R)∧NTop T t B b2 b7 b8∧s'=Nm2 T (.pk 26 (fctC q) rsF) B q.names q.fields∧env 2=.ptr b2 0∧env 6=.ptr B.bf 0∧env 7=.ptr b7 0∧env 8=.ptr b8 0∧env 34=.lst (x.map clsC) .no∧env 35=.int .i64 x.length∧env 36=.int .i64 i) x.length ?_ ?_
  ·refine⟨_,Nm2_start1 (by simp[*]) (by simp[*]) (by simp[*]) (by assumption),0,nms0,⟨_,_,_,_,_⟩,_,_,_,_,by omega,by omega,by simp[szA,nms0];omega,HR,
    ?_,rfl,z_sl,z_sl,z_sl,z_sl,z_sl,z_sl,z_sl⟩
   exact⟨⟨by simp[B5.l, *],by simp[B5.l,St.set, *]⟩,by simp[St.set, *],by simp[St.set, *],by simp[St.set, *],z_fg,by assumption⟩
  clear HR hmc
  rintro m env s' ⟨i,q,B,T,b2,b7,b8,hi,hm,hsz,HR,hT,rfl,e2,e6,e7,e8,e34,e35,e36⟩
  repeat(rename_i hh;clear hh)
  have HT:=Lib.hid hT
  obtain⟨hfr,h2,h7,h8,hfg,hz2⟩:=hT
  have hnd:=hfr.nd
  have f2:T b2≠.free:=by rw[h2];simp
  have f7:T b7≠.free:=by rw[h7];simp
  have f8:T b8≠.free:=by rw[h8];simp
  have n2:NA b2 B.l:=hfr.na f2
  have n7:NA b7 B.l:=hfr.na f7
  have n8:NA b8 B.l:=hfr.na f8
  by_cases hlt:i<x.length
  ·obtain⟨c,hc⟩:=uget hlt
   have hsx:=clsC_at hc
   have hcm:=List.mem_of_getElem? hc
   have hml:(c.mths.map mthC).length=c.mths.length:=by simp
   have hcl:=HB.out.mths c hcm
   have hmd:=mcount_drop hc
   have hr:=HR.out
   rw[List.drop_eq_getElem_cons hlt,show x[i]=c by rw[List.getElem?_eq_getElem hlt]at hc;injection hc,List.foldl_cons]at hr
   have HP:=Lib.hid (fun mt (h:mt∈c.mths)=>And.intro (HB.out.pars c hcm mt h) (And.intro (HB.out.body c hcm mt h) (And.intro (HC.out c hcm mt h) ((HX.out.2 c hcm).2.2.2 mt h))))
   have hcn:=(HX.out.2 c hcm).1
   obtain⟨cn,cp,cm⟩:=c
   generalize hq1:clsN q ⟨cn,cp,cm⟩=q1 at hr
   have HQ:Hid (cm.foldl (mthN ⟨cn,cp,cm⟩) q=q1):=Lib.hid hq1
   have HR2:=Lib.hid hr
   generalize hrest:mcount (x.drop (i+1))=rest at hmd
   have HRE:=Lib.hid hrest
   simp only at hml hcl hmd HP hcn
   rw[hmd]at hsz
   clear HR hr hq1 hmd hc hcm hrest
   (repeat'(first|refine Ctl ?_|((with_reducible refine Kof.use hK ?_);clear hK hE K E)|((with_reducible refine W_cond (fun h=>?_) (fun h=>?_))<;>(try(exfalso;assumption)))|((first|(with_reducible refine G_region fun K E hK hE=>?_)|((with_reducible refine W_fresh (fun b hb=>?_));(repeat(obtain⟨_,hb⟩:=hb));(try(obtain⟨_,_⟩:=nef hb f2;obtain⟨_,_⟩:=nef hb f7;obtain⟨_,_⟩:=nef hb f8))))<;>(try simp(disch:=first|assumption|omega) only[go_sem,seval,hlen,hsx,clsC,hml, *]))))
   generalize b=bc at *
   have hUfr:NFr (T.set bc (.obj 85 [.str cn,.str cp,.lst (cm.map mthC) .no])) B.l:=hfr.set (by assumption)
   have hU2:(T.set bc (.obj 85 [.str cn,.str cp,.lst (cm.map mthC) .no])) b2≠.free:=by rw[St.set_other _ _ (by assumption)];exact f2
   have hU7:(T.set bc (.obj 85 [.str cn,.str cp,.lst (cm.map mthC) .no])) b7=.obj 142 [.ptr B.xf 0]:=by rw[St.set_other _ _ (by assumption)];exact h7
   have hU8:(T.set bc (.obj 85 [.str cn,.str cp,.lst (cm.map mthC) .no])) b8=.obj 142 [.ptr B.xn 0]:=by rw[St.set_other _ _ (by assumption)];exact h8
   have hUc:(T.set bc (.obj 85 [.str cn,.str cp,.lst (cm.map mthC) .no])) bc=.obj 85 [.str cn,.str cp,.lst (cm.map mthC) .no]:=St.set_same _ _ _
   have HUg:=Lib.hid (Fg.of_set (.obj 85 [.str cn,.str cp,.lst (cm.map mthC) .no]) hb)
   generalize T.set bc (.obj 85 [.str cn,.str cp,.lst (cm.map mthC) .no])=U at *
   refine G_loopS (fun m2 env s'=>∃(j:Nat) (q:Nms),j≤cm.length∧m2+j=cm.length∧szA q+(m2+rest) * 420000000≤900000000000∧Hid ((cm.drop j).foldl (mthN ⟨cn,cp,cm⟩) q=q1)∧s'=Nm2 U (.pk 26 (fctC q) rsF) B q.names q.fields∧env 2=.ptr b2 0∧env 6=.ptr B.bf 0∧env 7=.ptr b7 0∧env 8=.ptr b8 0∧env 10=.ptr bc 0∧env 34=.lst (x.map clsC) .no∧env 35=.int .i64 x.length∧env 36=.int .i64 i∧env 41=.lst (cm.map mthC) .no∧env 42=.int .i64 cm.length∧env 43=.int .i64 j) cm.length ?_ ?_
   ·exact⟨_,GS.refl _,0,q,by omega,by omega,hsz,HQ,rfl,z_sl,z_sl,z_sl,z_sl,z_sl,z_sl,z_sl,z_sl,z_sl,z_sl,z_sl⟩
   clear h2 h7 h8 f2 f7 f8 n2 n7 n8 hfr hfg hb hsz HQ e2 e6 e7 e8 e34 e35 e36
   have f7:U b7≠.free:=by rw[hU7];simp
   have f8:U b8≠.free:=by rw[hU8];simp
   have fc:U bc≠.free:=by rw[hUc];simp
   have n7:NA b7 B.l:=hUfr.na f7
   have n8:NA b8 B.l:=hUfr.na f8
   have nc:NA bc B.l:=hUfr.na fc
   rintro m2 env s' ⟨j,q,hj,hm2,hsz,HQ,rfl,e2,e6,e7,e8,e10,e34,e35,e36,e41,e42,e43⟩
   repeat(rename_i hh;clear hh)
   by_cases hjt:j<cm.length
   ·obtain⟨mt,hmt⟩:=uget hjt
    have hsm:=mthC_at16 hmt
    obtain⟨hp8,hbo,hbl,hmo⟩:=HP.out mt (List.mem_of_getElem? hmt)
    have hr:=HQ.out
    rw[List.drop_eq_getElem_cons hjt,show cm[j]=mt by rw[List.getElem?_eq_getElem hjt]at hmt;injection hmt,List.foldl_cons]at hr
    obtain⟨qm,qv,qs,qc,qo,qh,qmain,qf,qx⟩:=q
    obtain⟨ms,mn,mp,mb⟩:=mt
    have hms:=strsl_len qm
    have hpl:(mp.map strC).length=mp.length:=by simp
    have hmn:=hmo.1
    simp only[szA]at hsz hp8 hbo hbl hmn
    have HR3:=Lib.hid hr
    clear HQ hr hmt
    simp only[mthC,strsV,stsV]at hsm
    have htt:∀ms,mthT ⟨cn,cp,cm⟩ ⟨ms,mn,mp,mb⟩=cn++[58,58]++mn:=fun _=>rfl
    have htl:(cn++[58,58]++mn).length≤281474976710700:=by simp only[List.length_append,List.length_cons,List.length_nil];omega
    have ht1:(cn++[58,58]).length≤140737488355400:=by simp only[List.length_append,List.length_cons,List.length_nil];omega
    generalize htx:cn++[58,58]++mn=txt at htt htl
    refine Kp_unpk B.bf 0 (T':=9) (sz:=1) rs5 (Nm2_bf hnd) rfl (by simp) (by simp) ?_
    intro o1 hO1 _
    rw[Nm2_ok]at hO1
    obtain⟨hno,hO1⟩:=hO1
    rw[Nm2_own hno,Nm2_setf hnd]
    simp only[List.set,hms]at hO1 ⊢
    have p2:=hO1.not hU2
    have p7:=hO1.not f7
    have p8:=hO1.not f8
    have pc:=hO1.not fc
    by_cases hM0:txt=[77,97,105,110,58,58,109,97,105,110]
    ·have hM:(txt=[77,97,105,110,58,58,109,97,105,110])=True:=eq_true hM0
     clear hM0
     cases ms
     ·have wA:∀(V:St) (c:Cell) (xv bv b:Nat) (z:Cell) (o:Own),NFr V B.l→NA xv B.l→NA bv B.l→NA b B.l→¬ bv=xv→¬ b=xv→¬ b=bv→V xv=.free→V bv=.free→SRet Tryz.prog 61 [.ptr xv 0,.lst [[.str selfT]] o] (Nm2 (((V.set bv (.map [])).set xv (.obj 145 [.lst [] .full,.mp bv])).set b z) c B qx qf) (.tup []) (NmX (V.set b z) c ⟨B,xv,bv⟩ qx qf (addsS [] [selfT])):=fun V c xv bv b z o a1 a2 a3 a4 a5 a6 a7 a8 a9=>Nadd_0 (ts:=[selfT]) (by simp) a1 a2 a3 a4 a5 a6 a7 a8 a9
      have wB:∀(V:St) (c:Cell) (xv bv:Nat) (o:Own),NFr V B.l→NA xv B.l→NA bv B.l→¬ bv=xv→V xv=.free→V bv=.free→SRet Tryz.prog 61 [.ptr xv 0,.lst (mp.map strC) o] (NmX V c ⟨B,xv,bv⟩ qx qf (addsS [] [selfT])) (.tup []) (NmX V c ⟨B,xv,bv⟩ qx qf (addsS (addsS [] [selfT]) mp)):=fun V c xv bv o a1 a2 a3 a4 a5 a6=>Nadd_1 (ts:=mp) (by omega) (by decide) a1 a2 a3 a4 a5 a6
      have hvl:(addsS (addsS [] [selfT]) mp).length≤10:=by have h:=addsS_len (addsS [] [selfT]) mp;exact Nat.le_trans h (by have h2:(addsS [] [selfT]).length≤1:=(by decide);omega)
      have hv0:vars0 ⟨false,mn,mp,mb⟩=addsS (addsS (addsS [] [selfT]) mp) [retT]:=rfl
      have wC:∀(V:St) (c:Cell) (xv bv:Nat) (o:Own),NFr V B.l→NA xv B.l→NA bv B.l→¬ bv=xv→V xv=.free→V bv=.free→SRet Tryz.prog 61 [.ptr xv 0,.lst [[.str retT]] o] (NmX V c ⟨B,xv,bv⟩ qx qf (addsS (addsS [] [selfT]) mp)) (.tup []) (NmX V c ⟨B,xv,bv⟩ qx qf (vars0 ⟨false,mn,mp,mb⟩)):=fun V c xv bv o a1 a2 a3 a4 a5 a6=>Nadd_1 (ts:=[retT]) (by simp) (by omega) a1 a2 a3 a4 a5 a6
      have hv10:=vars0_len ⟨false,mn,mp,mb⟩ hp8
      have wE:=fun(o:Own) (xv bv b12 b13 b14 b15:Nat) (d12:Cell) hO g1 g2 g3 g4 g5 g6 g7 k1 k2 k3 k4 k5 k6 h3 f1 f2 i1 i2 i3 i4 i5 i6 i7 i8 i9 i10 i11 m1 m2 m3 m4 m5 m6 m7 m8=>
       Cneach1 (U:=U) (o:=o) (N:=qm.length+1) (B:=B) (xv:=xv) (bv:=bv) (b12:=b12) (b13:=b13) (b14:=b14) (b15:=b15) (b8:=b8) (b7:=b7) (d12:=d12) (txt:=txt) (n:=qm.length)
        ⟨qm++[txt],qv,qs,qc,qo,qh,qm.length,qf,qx⟩ (vars0 ⟨false,mn,mp,mb⟩) mb hbo (by simp only[szN];omega) (by simp) hO g1 g2 g3 g4 g5 g6 g7 hUfr k1 k2 k3 k4 k5 k6 h3 f1 f2 i1 i2 i3 i4 i5 i6 i7 i8 i9 i10 i11 hU8 hU7 m1 m2 m3 m4 m5 m6 m7 m8
      have hvm:=vs_le (txt:=txt) (n:=qm.length) (q:=⟨qm++[txt],qv,qs,qc,qo,qh,qm.length,qf,qx⟩) hmo
      have hmz:=mthN_sz ⟨cn,cp,cm⟩ ⟨qm,qv,qs,qc,qo,qh,qmain,qf,qx⟩ ⟨false,mn,mp,mb⟩ hp8 hbo hbl
      have hot:=stms_other txt qm.length (preL mb) (⟨qm++[txt],qv,qs,qc,qo,qh,qm.length,qf,qx⟩,vars0 ⟨false,mn,mp,mb⟩)
      have hsv:=stms_v txt qm.length (preL mb) (⟨qm++[txt],qv,qs,qc,qo,qh,qm.length,qf,qx⟩,vars0 ⟨false,mn,mp,mb⟩) (fun x hx=>(hbo.all x hx).1)
      unfold mthN at HR3 hmz
      simp only[htt,hM,if_true,if_false,reduceIte]at HR3 hmz
      generalize (preL mb).foldl (stmN txt qm.length) (⟨qm++[txt],qv,qs,qc,qo,qh,qm.length,qf,qx⟩,vars0 ⟨false,mn,mp,mb⟩)=r at wE hvm hmz hot hsv HR3
      generalize vars0 ⟨false,mn,mp,mb⟩=v3 at wC wE hv10 hsv hv0
      clear hv0
      generalize addsS (addsS [] [selfT]) mp=v2 at wB wC hvl
      generalize addsS [] [selfT]=v1 at wA wB
      unfold selfT at wA
      unfold retT at wC
      simp only[strs_snoc]at wE
      have HVM:=Lib.hid hvm
      have HMZ:=Lib.hid hmz
      have HOT:=Lib.hid hot
      have HSV:=Lib.hid hsv
      have hrl:=strsl_len r.2
      clear hvm hmz hot hsv
      (repeat'(first|refine Ctl ?_|((with_reducible refine Kof.use hK ?_);clear hK hE K E)|((with_reducible refine W_cond (fun h=>?_) (fun h=>?_))<;>(try(exfalso;assumption)))|((first|(with_reducible first|refine G_region fun K E hK hE=>?_|refine call_ret can61 (wA _ _ _ _ _ _ _ (z_nfr hUfr) (by assumption) (by assumption) (by assumption) (by assumption) (by assumption) (by assumption) z_sl z_sl) ?_|refine call_ret can61 (wB _ _ _ _ _ (z_nfr hUfr) (by assumption) (by assumption) (by assumption) z_sl z_sl) ?_|refine call_ret can61 (wC _ _ _ _ _ (z_nfr hUfr) (by assumption) (by assumption) (by assumption) z_sl z_sl) ?_|refine call_ret can62 (wE _ _ _ _ _ _ _ _ (by assumption) (by assumption) (by assumption) (by assumption) (by assumption) (by assumption) (by assumption) (by assumption) (by assumption) (by assumption) (by assumption) (by assumption) (by assumption) (by assumption) (by assumption) (by assumption) (by assumption) (by assumption) (by assumption) (by assumption) (by assumption) (by assumption) (by assumption) (by assumption) (by assumption) (by assumption) (by assumption) (by assumption) (by assumption) (by assumption) (by assumption) (by assumption) (by assumption) (by assumption) (by assumption) (by assumption)) ?_|refine W_and ?_)|((with_reducible refine W_fresh (fun b hb=>?_));(repeat(obtain⟨_,hb⟩:=hb));(try((try(rw[own_fr]at hb;obtain⟨_,hb⟩:=hb));obtain⟨_,_⟩:=nef hb hU2;obtain⟨_,_⟩:=nef hb f7;obtain⟨_,_⟩:=nef hb f8;obtain⟨_,_⟩:=nef hb fc)))|((with_reducible refine W_app (fun o2 ho=>?_));(try simp(disch:=assumption) only[disown_set,disown_own,ownok_o,ownok_m,List.length_map,List.length_cons,List.length_nil,Nat.zero_add,hml,hsm,hms,hpl,Nm2_dis,Nm2_ok,or_true,true_or,if_true]at ho);(repeat(obtain⟨_,ho⟩:=ho))))<;>(try simp(disch:=first|assumption|omega) only[go_sem,seval,hml,hsm,hms,hpl,Nm2_dis,Nm2_ok,or_true,true_or,if_true, *]))))
      refine G_loopS (fun m3 env s'=>∃(k:Nat) (V:St) (xv bv b13 b14:Nat),k≤r.2.length∧m3+k=r.2.length∧NLp V U B xv bv b13 b14 txt qm.length∧s'=NmX V (.pk 26 (fctC { r.1 with vars:=r.1.vars++(r.2.take k).map (fun v=>txt++[46]++v),owner:=r.1.owner++(r.2.take k).map (fun _=>qm.length) }) rsF) ⟨B,xv,bv⟩ r.1.names r.1.fields r.2∧env 2=.ptr b2 0∧env 6=.ptr B.bf 0∧env 7=.ptr b7 0∧env 8=.ptr b8 0∧env 10=.ptr bc 0∧env 13=.ptr b13 0∧env 14=.ptr b14 0∧env 34=.lst (x.map clsC) .no∧env 35=.int .i64 x.length∧env 36=.int .i64 i∧env 41=.lst (cm.map mthC) .no∧env 42=.int .i64 cm.length∧env 43=.int .i64 j∧env 89=.lst (strs r.2) .no∧env 90=.int .i64 r.2.length∧env 91=.int .i64 k) r.2.length ?_ ?_
      ·refine⟨_,GS.refl _,0,_,_,_,_,_,by omega,by omega,?_,(by simp only[List.take_zero,List.map_nil,List.append_nil];rfl),z_sl,z_sl,z_sl,z_sl,z_sl,z_sl,z_sl,z_sl,z_sl,z_sl,z_sl,z_sl,z_sl,z_sl,z_sl,z_sl⟩
       exact⟨NFr7 (z_nfr hUfr) (by assumption) (by assumption) (by assumption) z_sl z_sl,by simp[St.set, *],by simp[St.set, *],z_fg⟩
      repeat(rename_i hh;clear hh)
      rintro m3 env s' ⟨k,V,xv,bv,b13,b14,hk,hm3,hV,rfl,e2,e6,e7,e8,e10,e13,e14,e34,e35,e36,e41,e42,e43,e89,e90,e91⟩
      by_cases hkt:k<r.2.length
      ·obtain⟨v,hv⟩:=uget hkt
       have hvx:(strs r.2)[k]?=some [.str v]:=by simp[strs,hv]
       have hvl:=HVM.out v (List.mem_of_getElem? hv)
       have hut:=utake hv
       have HV:=Lib.hid hV
       obtain⟨hfr,k13,k14,hfg⟩:=hV
       have hnd7:=hfr.nd
       have f13:V b13≠.free:=by rw[k13];simp
       have f14:V b14≠.free:=by rw[k14];simp
       have n13:=hfr.na f13
       have n14:=hfr.na f14
       have HE1:Hid (∃VS,VS=r.1.vars++(r.2.take k).map (fun v=>txt++[46]++v)∧VS.length≤900000000000∧VS++[txt++[46]++v]=r.1.vars++(r.2.take (k+1)).map (fun v=>txt++[46]++v)):=Lib.hid ⟨_,rfl,by
        have h1:=HSV.out;have h2:=HOT.out;simp only at h1 h2;simp only[h2.2.1,List.length_append,List.length_map,List.length_take];omega,by rw[hut];simp⟩
       have HE2:Hid (∃OW,OW=r.1.owner++(r.2.take k).map (fun _=>qm.length)∧OW.length≤900000000000∧OW++[qm.length]=r.1.owner++(r.2.take (k+1)).map (fun _=>qm.length)):=Lib.hid ⟨_,rfl,by
        have h1:=HSV.out;have h2:=HOT.out;simp only at h1 h2;simp only[h2.2.2.1,List.length_append,List.length_map,List.length_take];omega,by rw[hut];simp⟩
       obtain⟨VS,hVS,hVl,hVe⟩:=HE1.out
       obtain⟨OW,hOW,hOl,hOe⟩:=HE2.out
       rw[← hVS,← hOW]
       have HVe:=Lib.hid hVe
       have HOe:=Lib.hid hOe
       have htl1:(txt++[46]).length≤281474976710800:=by simp only[List.length_append,List.length_cons,List.length_nil];omega
       have hsl1:=strsl_len VS
       have hrb:r.2.length≤300000000:=by have h1:=HSV.out;simp only at h1;omega
       have hsl2:=natsL_len OW
       clear HE1 HE2 hVS hOW hVe hOe hut hv hfg
       refine Kp_unpk B.bf 1 (T':=9) (sz:=1) [(0,9,1),(2,9,1),(3,9,1),(6,3,1),(7,3,1)] (NmX_bf (C:=⟨B,xv,bv⟩) hnd7) rfl (by simp) (by simp) ?_
       intro o1 hO1 _
       rw[NmX_ok]at hO1
       obtain⟨hno1,hO1⟩:=hO1
       rw[NmX_own hno1,show B.bf=(B7.mk B xv bv).bf from rfl,NmX_setf hnd7]
       simp only[List.set,hsl1]at hO1 ⊢
       refine Kp_unpk B.bf 6 (T':=3) (sz:=1) [(0,9,1),(2,9,1),(3,9,1),(7,3,1)] (NmX_bf (C:=⟨B,xv,bv⟩) hnd7) rfl (by simp) (by simp) ?_
       intro o3 hO2 _
       rw[NmX_ok]at hO2
       obtain⟨hno2,hO2⟩:=hO2
       rw[NmX_own hno2,show B.bf=(B7.mk B xv bv).bf from rfl,NmX_setf hnd7]
       simp only[List.set,hsl2]at hO2 ⊢
       have hO2b:=own_bs hO2
       have r13:=hO1.not f13
       have r14:=hO1.not f14
       have q13:=hO2b.not f13
       have q14:=hO2b.not f14
       have hq14:(V.own o3 3 1 OW.length) b14≠.free:=by rw[own_rd_ok hO2b f14];exact f14
       (repeat'(first|refine Ctl ?_|((with_reducible refine Kof.use hK ?_);clear hK hE K E)|((with_reducible refine W_cond (fun h=>?_) (fun h=>?_))<;>(try(exfalso;assumption)))|((first|(with_reducible first|refine G_region fun K E hK hE=>?_|refine W_and ?_)|((with_reducible refine W_app (fun o2 ho=>?_));(try simp(disch:=assumption) only[disown_set,disown_own,ownok_o,ownok_m,List.length_map,List.length_cons,List.length_nil,Nat.zero_add,hrl,hvx,hsl1,hsl2,NmX_dis,NmX_ok,or_true,true_or,if_true,disown_other]at ho);(repeat(obtain⟨_,ho⟩:=ho));(try(have _:=own_bs ho))))<;>(try simp(disch:=first|assumption|omega) only[go_sem,seval,hrl,hvx,hsl1,hsl2,NmX_dis,NmX_ok,or_true,true_or,if_true,disown_other, *]))))
       refine⟨_,(NmX_pack (C:=⟨B,xv,bv⟩) (i:=6) (l:=natsL OW++[[.int .i64 (qm.length:Int)]]) (rs':=[(0,9,1),(2,9,1),(3,9,1),(6,3,1),(7,3,1)]) hnd7 (by assumption) (by assumption) (by simp[natsL_len]) rfl (by simp)).trans
        (NmX_pack (C:=⟨B,xv,bv⟩) (i:=1) (l:=strs VS++[[.str (txt++[46]++v)]]) (rs':=rsF) hnd7 (by assumption) (by assumption) (by simp[strsl_len]) rfl (by simp)),m3 - 1,by omega,k+1,V,xv,bv,b13,b14,by omega,by omega,HV.out,?_,z_sl,z_sl,z_sl,z_sl,z_sl,z_sl,z_sl,z_sl,z_sl,z_sl,z_sl,z_sl,z_sl,z_sl,z_sl,z_sl⟩
       rw[← HVe.out,← HOe.out]
       simp only[fctC,fctV,strs_snoc,natsL_snoc,List.set_cons_succ,List.set_cons_zero]
      ·have hke:r.2.take k=r.2:=List.take_of_length_le (by omega)
       have HV:=Lib.hid hV
       clear hV
       rw[hke]
       clear hke
       (repeat'(first|refine Ctl ?_|((with_reducible refine Kof.use hK ?_);clear hK hE K E)|((with_reducible refine W_cond (fun h=>?_) (fun h=>?_))<;>(try(exfalso;assumption)))|(((with_reducible refine G_region fun K E hK hE=>?_))<;>(try simp(disch:=omega) only[go_sem,seval,hml,hrl, *]))))
       exact⟨_,GS.of_fg (NmX_fg2 HV.out.fr HV.out.fg),m2 - 1,by omega,j+1,_,by omega,by omega,by have h1:=HMZ.out;simp only[szA]at h1 ⊢;omega,HR3,rfl,z_sl,z_sl,z_sl,z_sl,z_sl,z_sl,z_sl,z_sl,z_sl,z_sl,z_sl⟩
     ·have wB:∀(V:St) (c:Cell) (xv bv b:Nat) (z:Cell) (o:Own),NFr V B.l→NA xv B.l→NA bv B.l→NA b B.l→¬ bv=xv→¬ b=xv→¬ b=bv→V xv=.free→V bv=.free→SRet Tryz.prog 61 [.ptr xv 0,.lst (mp.map strC) o] (Nm2 (((V.set bv (.map [])).set xv (.obj 145 [.lst [] .full,.mp bv])).set b z) c B qx qf) (.tup []) (NmX (V.set b z) c ⟨B,xv,bv⟩ qx qf (addsS [] mp)):=fun V c xv bv b z o a1 a2 a3 a4 a5 a6 a7 a8 a9=>Nadd_0 (ts:=mp) (by omega) a1 a2 a3 a4 a5 a6 a7 a8 a9
      have hvl:(addsS [] mp).length≤10:=by have h:=addsS_len [] mp;simp only[List.length_nil]at h;omega
      have hv0:vars0 ⟨true,mn,mp,mb⟩=addsS (addsS [] mp) [retT]:=rfl
      have wC:∀(V:St) (c:Cell) (xv bv:Nat) (o:Own),NFr V B.l→NA xv B.l→NA bv B.l→¬ bv=xv→V xv=.free→V bv=.free→SRet Tryz.prog 61 [.ptr xv 0,.lst [[.str retT]] o] (NmX V c ⟨B,xv,bv⟩ qx qf (addsS [] mp)) (.tup []) (NmX V c ⟨B,xv,bv⟩ qx qf (vars0 ⟨true,mn,mp,mb⟩)):=fun V c xv bv o a1 a2 a3 a4 a5 a6=>Nadd_1 (ts:=[retT]) (by simp) (by omega) a1 a2 a3 a4 a5 a6
      have hv10:=vars0_len ⟨true,mn,mp,mb⟩ hp8
      have wE:=fun(o:Own) (xv bv b12 b13 b14 b15:Nat) (d12:Cell) hO g1 g2 g3 g4 g5 g6 g7 k1 k2 k3 k4 k5 k6 h3 f1 f2 i1 i2 i3 i4 i5 i6 i7 i8 i9 i10 i11 m1 m2 m3 m4 m5 m6 m7 m8=>
       Cneach1 (U:=U) (o:=o) (N:=qm.length+1) (B:=B) (xv:=xv) (bv:=bv) (b12:=b12) (b13:=b13) (b14:=b14) (b15:=b15) (b8:=b8) (b7:=b7) (d12:=d12) (txt:=txt) (n:=qm.length)
        ⟨qm++[txt],qv,qs,qc,qo,qh,qm.length,qf,qx⟩ (vars0 ⟨true,mn,mp,mb⟩) mb hbo (by simp only[szN];omega) (by simp) hO g1 g2 g3 g4 g5 g6 g7 hUfr k1 k2 k3 k4 k5 k6 h3 f1 f2 i1 i2 i3 i4 i5 i6 i7 i8 i9 i10 i11 hU8 hU7 m1 m2 m3 m4 m5 m6 m7 m8
      have hvm:=vs_le (txt:=txt) (n:=qm.length) (q:=⟨qm++[txt],qv,qs,qc,qo,qh,qm.length,qf,qx⟩) hmo
      have hmz:=mthN_sz ⟨cn,cp,cm⟩ ⟨qm,qv,qs,qc,qo,qh,qmain,qf,qx⟩ ⟨true,mn,mp,mb⟩ hp8 hbo hbl
      have hot:=stms_other txt qm.length (preL mb) (⟨qm++[txt],qv,qs,qc,qo,qh,qm.length,qf,qx⟩,vars0 ⟨true,mn,mp,mb⟩)
      have hsv:=stms_v txt qm.length (preL mb) (⟨qm++[txt],qv,qs,qc,qo,qh,qm.length,qf,qx⟩,vars0 ⟨true,mn,mp,mb⟩) (fun x hx=>(hbo.all x hx).1)
      unfold mthN at HR3 hmz
      simp only[htt,hM,if_true,if_false,reduceIte]at HR3 hmz
      generalize (preL mb).foldl (stmN txt qm.length) (⟨qm++[txt],qv,qs,qc,qo,qh,qm.length,qf,qx⟩,vars0 ⟨true,mn,mp,mb⟩)=r at wE hvm hmz hot hsv HR3
      generalize vars0 ⟨true,mn,mp,mb⟩=v3 at wC wE hv10 hsv hv0
      clear hv0
      generalize addsS [] mp=v2 at wB wC hvl
      unfold retT at wC
      simp only[strs_snoc]at wE
      have HVM:=Lib.hid hvm
      have HMZ:=Lib.hid hmz
      have HOT:=Lib.hid hot
      have HSV:=Lib.hid hsv
      have hrl:=strsl_len r.2
      clear hvm hmz hot hsv
      (repeat'(first|refine Ctl ?_|((with_reducible refine Kof.use hK ?_);clear hK hE K E)|((with_reducible refine W_cond (fun h=>?_) (fun h=>?_))<;>(try(exfalso;assumption)))|((first|(with_reducible first|refine G_region fun K E hK hE=>?_|refine call_ret can61 (wB _ _ _ _ _ _ _ (z_nfr hUfr) (by assumption) (by assumption) (by assumption) (by assumption) (by assumption) (by assumption) z_sl z_sl) ?_|refine call_ret can61 (wC _ _ _ _ _ (z_nfr hUfr) (by assumption) (by assumption) (by assumption) z_sl z_sl) ?_|refine call_ret can62 (wE _ _ _ _ _ _ _ _ (by assumption) (by assumption) (by assumption) (by assumption) (by assumption) (by assumption) (by assumption) (by assumption) (by assumption) (by assumption) (by assumption) (by assumption) (by assumption) (by assumption) (by assumption) (by assumption) (by assumption) (by assumption) (by assumption) (by assumption) (by assumption) (by assumption) (by assumption) (by assumption) (by assumption) (by assumption) (by assumption) (by assumption) (by assumption) (by assumption) (by assumption) (by assumption) (by assumption) (by assumption) (by assumption) (by assumption)) ?_|refine W_and ?_)|((with_reducible refine W_fresh (fun b hb=>?_));(repeat(obtain⟨_,hb⟩:=hb));(try((try(rw[own_fr]at hb;obtain⟨_,hb⟩:=hb));obtain⟨_,_⟩:=nef hb hU2;obtain⟨_,_⟩:=nef hb f7;obtain⟨_,_⟩:=nef hb f8;obtain⟨_,_⟩:=nef hb fc)))|((with_reducible refine W_app (fun o2 ho=>?_));(try simp(disch:=assumption) only[disown_set,disown_own,ownok_o,ownok_m,List.length_map,List.length_cons,List.length_nil,Nat.zero_add,hml,hsm,hms,hpl,Nm2_dis,Nm2_ok,or_true,true_or,if_true]at ho);(repeat(obtain⟨_,ho⟩:=ho))))<;>(try simp(disch:=first|assumption|omega) only[go_sem,seval,hml,hsm,hms,hpl,Nm2_dis,Nm2_ok,or_true,true_or,if_true, *]))))
      refine G_loopS (fun m3 env s'=>∃(k:Nat) (V:St) (xv bv b13 b14:Nat),k≤r.2.length∧m3+k=r.2.length∧NLp V U B xv bv b13 b14 txt qm.length∧s'=NmX V (.pk 26 (fctC { r.1 with vars:=r.1.vars++(r.2.take k).map (fun v=>txt++[46]++v),owner:=r.1.owner++(r.2.take k).map (fun _=>qm.length) }) rsF) ⟨B,xv,bv⟩ r.1.names r.1.fields r.2∧env 2=.ptr b2 0∧env 6=.ptr B.bf 0∧env 7=.ptr b7 0∧env 8=.ptr b8 0∧env 10=.ptr bc 0∧env 13=.ptr b13 0∧env 14=.ptr b14 0∧env 34=.lst (x.map clsC) .no∧env 35=.int .i64 x.length∧env 36=.int .i64 i∧env 41=.lst (cm.map mthC) .no∧env 42=.int .i64 cm.length∧env 43=.int .i64 j∧env 89=.lst (strs r.2) .no∧env 90=.int .i64 r.2.length∧env 91=.int .i64 k) r.2.length ?_ ?_
      ·refine⟨_,GS.refl _,0,_,_,_,_,_,by omega,by omega,?_,(by simp only[List.take_zero,List.map_nil,List.append_nil];rfl),z_sl,z_sl,z_sl,z_sl,z_sl,z_sl,z_sl,z_sl,z_sl,z_sl,z_sl,z_sl,z_sl,z_sl,z_sl,z_sl⟩
       exact⟨NFr7 (z_nfr hUfr) (by assumption) (by assumption) (by assumption) z_sl z_sl,by simp[St.set, *],by simp[St.set, *],z_fg⟩
      repeat(rename_i hh;clear hh)
      rintro m3 env s' ⟨k,V,xv,bv,b13,b14,hk,hm3,hV,rfl,e2,e6,e7,e8,e10,e13,e14,e34,e35,e36,e41,e42,e43,e89,e90,e91⟩
      by_cases hkt:k<r.2.length
      ·obtain⟨v,hv⟩:=uget hkt
       have hvx:(strs r.2)[k]?=some [.str v]:=by simp[strs,hv]
       have hvl:=HVM.out v (List.mem_of_getElem? hv)
       have hut:=utake hv
       have HV:=Lib.hid hV
       obtain⟨hfr,k13,k14,hfg⟩:=hV
       have hnd7:=hfr.nd
       have f13:V b13≠.free:=by rw[k13];simp
       have f14:V b14≠.free:=by rw[k14];simp
       have n13:=hfr.na f13
       have n14:=hfr.na f14
       have HE1:Hid (∃VS,VS=r.1.vars++(r.2.take k).map (fun v=>txt++[46]++v)∧VS.length≤900000000000∧VS++[txt++[46]++v]=r.1.vars++(r.2.take (k+1)).map (fun v=>txt++[46]++v)):=Lib.hid ⟨_,rfl,by
        have h1:=HSV.out;have h2:=HOT.out;simp only at h1 h2;simp only[h2.2.1,List.length_append,List.length_map,List.length_take];omega,by rw[hut];simp⟩
       have HE2:Hid (∃OW,OW=r.1.owner++(r.2.take k).map (fun _=>qm.length)∧OW.length≤900000000000∧OW++[qm.length]=r.1.owner++(r.2.take (k+1)).map (fun _=>qm.length)):=Lib.hid ⟨_,rfl,by
        have h1:=HSV.out;have h2:=HOT.out;simp only at h1 h2;simp only[h2.2.2.1,List.length_append,List.length_map,List.length_take];omega,by rw[hut];simp⟩
       obtain⟨VS,hVS,hVl,hVe⟩:=HE1.out
       obtain⟨OW,hOW,hOl,hOe⟩:=HE2.out
       rw[← hVS,← hOW]
       have HVe:=Lib.hid hVe
       have HOe:=Lib.hid hOe
       have htl1:(txt++[46]).length≤281474976710800:=by simp only[List.length_append,List.length_cons,List.length_nil];omega
       have hsl1:=strsl_len VS
       have hrb:r.2.length≤300000000:=by have h1:=HSV.out;simp only at h1;omega
       have hsl2:=natsL_len OW
       clear HE1 HE2 hVS hOW hVe hOe hut hv hfg
       refine Kp_unpk B.bf 1 (T':=9) (sz:=1) [(0,9,1),(2,9,1),(3,9,1),(6,3,1),(7,3,1)] (NmX_bf (C:=⟨B,xv,bv⟩) hnd7) rfl (by simp) (by simp) ?_
       intro o1 hO1 _
       rw[NmX_ok]at hO1
       obtain⟨hno1,hO1⟩:=hO1
       rw[NmX_own hno1,show B.bf=(B7.mk B xv bv).bf from rfl,NmX_setf hnd7]
       simp only[List.set,hsl1]at hO1 ⊢
       refine Kp_unpk B.bf 6 (T':=3) (sz:=1) [(0,9,1),(2,9,1),(3,9,1),(7,3,1)] (NmX_bf (C:=⟨B,xv,bv⟩) hnd7) rfl (by simp) (by simp) ?_
       intro o3 hO2 _
       rw[NmX_ok]at hO2
       obtain⟨hno2,hO2⟩:=hO2
       rw[NmX_own hno2,show B.bf=(B7.mk B xv bv).bf from rfl,NmX_setf hnd7]
       simp only[List.set,hsl2]at hO2 ⊢
       have hO2b:=own_bs hO2
       have r13:=hO1.not f13
       have r14:=hO1.not f14
       have q13:=hO2b.not f13
       have q14:=hO2b.not f14
       have hq14:(V.own o3 3 1 OW.length) b14≠.free:=by rw[own_rd_ok hO2b f14];exact f14
       (repeat'(first|refine Ctl ?_|((with_reducible refine Kof.use hK ?_);clear hK hE K E)|((with_reducible refine W_cond (fun h=>?_) (fun h=>?_))<;>(try(exfalso;assumption)))|((first|(with_reducible first|refine G_region fun K E hK hE=>?_|refine W_and ?_)|((with_reducible refine W_app (fun o2 ho=>?_));(try simp(disch:=assumption) only[disown_set,disown_own,ownok_o,ownok_m,List.length_map,List.length_cons,List.length_nil,Nat.zero_add,hrl,hvx,hsl1,hsl2,NmX_dis,NmX_ok,or_true,true_or,if_true,disown_other]at ho);(repeat(obtain⟨_,ho⟩:=ho));(try(have _:=own_bs ho))))<;>(try simp(disch:=first|assumption|omega) only[go_sem,seval,hrl,hvx,hsl1,hsl2,NmX_dis,NmX_ok,or_true,true_or,if_true,disown_other, *]))))
       refine⟨_,(NmX_pack (C:=⟨B,xv,bv⟩) (i:=6) (l:=natsL OW++[[.int .i64 (qm.length:Int)]]) (rs':=[(0,9,1),(2,9,1),(3,9,1),(6,3,1),(7,3,1)]) hnd7 (by assumption) (by assumption) (by simp[natsL_len]) rfl (by simp)).trans
        (NmX_pack (C:=⟨B,xv,bv⟩) (i:=1) (l:=strs VS++[[.str (txt++[46]++v)]]) (rs':=rsF) hnd7 (by assumption) (by assumption) (by simp[strsl_len]) rfl (by simp)),m3 - 1,by omega,k+1,V,xv,bv,b13,b14,by omega,by omega,HV.out,?_,z_sl,z_sl,z_sl,z_sl,z_sl,z_sl,z_sl,z_sl,z_sl,z_sl,z_sl,z_sl,z_sl,z_sl,z_sl,z_sl⟩
       rw[← HVe.out,← HOe.out]
       simp only[fctC,fctV,strs_snoc,natsL_snoc,List.set_cons_succ,List.set_cons_zero]
      ·have hke:r.2.take k=r.2:=List.take_of_length_le (by omega)
       have HV:=Lib.hid hV
       clear hV
       rw[hke]
       clear hke
       (repeat'(first|refine Ctl ?_|((with_reducible refine Kof.use hK ?_);clear hK hE K E)|((with_reducible refine W_cond (fun h=>?_) (fun h=>?_))<;>(try(exfalso;assumption)))|(((with_reducible refine G_region fun K E hK hE=>?_))<;>(try simp(disch:=omega) only[go_sem,seval,hml,hrl, *]))))
       exact⟨_,GS.of_fg (NmX_fg2 HV.out.fr HV.out.fg),m2 - 1,by omega,j+1,_,by omega,by omega,by have h1:=HMZ.out;simp only[szA]at h1 ⊢;omega,HR3,rfl,z_sl,z_sl,z_sl,z_sl,z_sl,z_sl,z_sl,z_sl,z_sl,z_sl,z_sl⟩
    ·have hM:(txt=[77,97,105,110,58,58,109,97,105,110])=False:=eq_false hM0
     clear hM0
     cases ms
     ·have wA:∀(V:St) (c:Cell) (xv bv b:Nat) (z:Cell) (o:Own),NFr V B.l→NA xv B.l→NA bv B.l→NA b B.l→¬ bv=xv→¬ b=xv→¬ b=bv→V xv=.free→V bv=.free→SRet Tryz.prog 61 [.ptr xv 0,.lst [[.str selfT]] o] (Nm2 (((V.set bv (.map [])).set xv (.obj 145 [.lst [] .full,.mp bv])).set b z) c B qx qf) (.tup []) (NmX (V.set b z) c ⟨B,xv,bv⟩ qx qf (addsS [] [selfT])):=fun V c xv bv b z o a1 a2 a3 a4 a5 a6 a7 a8 a9=>Nadd_0 (ts:=[selfT]) (by simp) a1 a2 a3 a4 a5 a6 a7 a8 a9
      have wB:∀(V:St) (c:Cell) (xv bv:Nat) (o:Own),NFr V B.l→NA xv B.l→NA bv B.l→¬ bv=xv→V xv=.free→V bv=.free→SRet Tryz.prog 61 [.ptr xv 0,.lst (mp.map strC) o] (NmX V c ⟨B,xv,bv⟩ qx qf (addsS [] [selfT])) (.tup []) (NmX V c ⟨B,xv,bv⟩ qx qf (addsS (addsS [] [selfT]) mp)):=fun V c xv bv o a1 a2 a3 a4 a5 a6=>Nadd_1 (ts:=mp) (by omega) (by decide) a1 a2 a3 a4 a5 a6
      have hvl:(addsS (addsS [] [selfT]) mp).length≤10:=by have h:=addsS_len (addsS [] [selfT]) mp;exact Nat.le_trans h (by have h2:(addsS [] [selfT]).length≤1:=(by decide);omega)
      have hv0:vars0 ⟨false,mn,mp,mb⟩=addsS (addsS (addsS [] [selfT]) mp) [retT]:=rfl
      have wC:∀(V:St) (c:Cell) (xv bv:Nat) (o:Own),NFr V B.l→NA xv B.l→NA bv B.l→¬ bv=xv→V xv=.free→V bv=.free→SRet Tryz.prog 61 [.ptr xv 0,.lst [[.str retT]] o] (NmX V c ⟨B,xv,bv⟩ qx qf (addsS (addsS [] [selfT]) mp)) (.tup []) (NmX V c ⟨B,xv,bv⟩ qx qf (vars0 ⟨false,mn,mp,mb⟩)):=fun V c xv bv o a1 a2 a3 a4 a5 a6=>Nadd_1 (ts:=[retT]) (by simp) (by omega) a1 a2 a3 a4 a5 a6
      have hv10:=vars0_len ⟨false,mn,mp,mb⟩ hp8
      have wE:=fun(o:Own) (xv bv b12 b13 b14 b15:Nat) (d12:Cell) hO g1 g2 g3 g4 g5 g6 g7 k1 k2 k3 k4 k5 k6 h3 f1 f2 i1 i2 i3 i4 i5 i6 i7 i8 i9 i10 i11 m1 m2 m3 m4 m5 m6 m7 m8=>
       Cneach1 (U:=U) (o:=o) (N:=qm.length+1) (B:=B) (xv:=xv) (bv:=bv) (b12:=b12) (b13:=b13) (b14:=b14) (b15:=b15) (b8:=b8) (b7:=b7) (d12:=d12) (txt:=txt) (n:=qm.length)
        ⟨qm++[txt],qv,qs,qc,qo,qh,qmain,qf,qx⟩ (vars0 ⟨false,mn,mp,mb⟩) mb hbo (by simp only[szN];omega) (by simp) hO g1 g2 g3 g4 g5 g6 g7 hUfr k1 k2 k3 k4 k5 k6 h3 f1 f2 i1 i2 i3 i4 i5 i6 i7 i8 i9 i10 i11 hU8 hU7 m1 m2 m3 m4 m5 m6 m7 m8
      have hvm:=vs_le (txt:=txt) (n:=qm.length) (q:=⟨qm++[txt],qv,qs,qc,qo,qh,qmain,qf,qx⟩) hmo
      have hmz:=mthN_sz ⟨cn,cp,cm⟩ ⟨qm,qv,qs,qc,qo,qh,qmain,qf,qx⟩ ⟨false,mn,mp,mb⟩ hp8 hbo hbl
      have hot:=stms_other txt qm.length (preL mb) (⟨qm++[txt],qv,qs,qc,qo,qh,qmain,qf,qx⟩,vars0 ⟨false,mn,mp,mb⟩)
      have hsv:=stms_v txt qm.length (preL mb) (⟨qm++[txt],qv,qs,qc,qo,qh,qmain,qf,qx⟩,vars0 ⟨false,mn,mp,mb⟩) (fun x hx=>(hbo.all x hx).1)
      unfold mthN at HR3 hmz
      simp only[htt,hM,if_true,if_false,reduceIte]at HR3 hmz
      generalize (preL mb).foldl (stmN txt qm.length) (⟨qm++[txt],qv,qs,qc,qo,qh,qmain,qf,qx⟩,vars0 ⟨false,mn,mp,mb⟩)=r at wE hvm hmz hot hsv HR3
      generalize vars0 ⟨false,mn,mp,mb⟩=v3 at wC wE hv10 hsv hv0
      clear hv0
      generalize addsS (addsS [] [selfT]) mp=v2 at wB wC hvl
      generalize addsS [] [selfT]=v1 at wA wB
      unfold selfT at wA
      unfold retT at wC
      simp only[strs_snoc]at wE
      have HVM:=Lib.hid hvm
      have HMZ:=Lib.hid hmz
      have HOT:=Lib.hid hot
      have HSV:=Lib.hid hsv
      have hrl:=strsl_len r.2
      clear hvm hmz hot hsv
      (repeat'(first|refine Ctl ?_|((with_reducible refine Kof.use hK ?_);clear hK hE K E)|((with_reducible refine W_cond (fun h=>?_) (fun h=>?_))<;>(try(exfalso;assumption)))|((first|(with_reducible first|refine G_region fun K E hK hE=>?_|refine call_ret can61 (wA _ _ _ _ _ _ _ (z_nfr hUfr) (by assumption) (by assumption) (by assumption) (by assumption) (by assumption) (by assumption) z_sl z_sl) ?_|refine call_ret can61 (wB _ _ _ _ _ (z_nfr hUfr) (by assumption) (by assumption) (by assumption) z_sl z_sl) ?_|refine call_ret can61 (wC _ _ _ _ _ (z_nfr hUfr) (by assumption) (by assumption) (by assumption) z_sl z_sl) ?_|refine call_ret can62 (wE _ _ _ _ _ _ _ _ (by assumption) (by assumption) (by assumption) (by assumption) (by assumption) (by assumption) (by assumption) (by assumption) (by assumption) (by assumption) (by assumption) (by assumption) (by assumption) (by assumption) (by assumption) (by assumption) (by assumption) (by assumption) (by assumption) (by assumption) (by assumption) (by assumption) (by assumption) (by assumption) (by assumption) (by assumption) (by assumption) (by assumption) (by assumption) (by assumption) (by assumption) (by assumption) (by assumption) (by assumption) (by assumption) (by assumption)) ?_|refine W_and ?_)|((with_reducible refine W_fresh (fun b hb=>?_));(repeat(obtain⟨_,hb⟩:=hb));(try((try(rw[own_fr]at hb;obtain⟨_,hb⟩:=hb));obtain⟨_,_⟩:=nef hb hU2;obtain⟨_,_⟩:=nef hb f7;obtain⟨_,_⟩:=nef hb f8;obtain⟨_,_⟩:=nef hb fc)))|((with_reducible refine W_app (fun o2 ho=>?_));(try simp(disch:=assumption) only[disown_set,disown_own,ownok_o,ownok_m,List.length_map,List.length_cons,List.length_nil,Nat.zero_add,hml,hsm,hms,hpl,Nm2_dis,Nm2_ok,or_true,true_or,if_true]at ho);(repeat(obtain⟨_,ho⟩:=ho))))<;>(try simp(disch:=first|assumption|omega) only[go_sem,seval,hml,hsm,hms,hpl,Nm2_dis,Nm2_ok,or_true,true_or,if_true, *]))))
      refine G_loopS (fun m3 env s'=>∃(k:Nat) (V:St) (xv bv b13 b14:Nat),k≤r.2.length∧m3+k=r.2.length∧NLp V U B xv bv b13 b14 txt qm.length∧s'=NmX V (.pk 26 (fctC { r.1 with vars:=r.1.vars++(r.2.take k).map (fun v=>txt++[46]++v),owner:=r.1.owner++(r.2.take k).map (fun _=>qm.length) }) rsF) ⟨B,xv,bv⟩ r.1.names r.1.fields r.2∧env 2=.ptr b2 0∧env 6=.ptr B.bf 0∧env 7=.ptr b7 0∧env 8=.ptr b8 0∧env 10=.ptr bc 0∧env 13=.ptr b13 0∧env 14=.ptr b14 0∧env 34=.lst (x.map clsC) .no∧env 35=.int .i64 x.length∧env 36=.int .i64 i∧env 41=.lst (cm.map mthC) .no∧env 42=.int .i64 cm.length∧env 43=.int .i64 j∧env 89=.lst (strs r.2) .no∧env 90=.int .i64 r.2.length∧env 91=.int .i64 k) r.2.length ?_ ?_
      ·refine⟨_,GS.refl _,0,_,_,_,_,_,by omega,by omega,?_,(by simp only[List.take_zero,List.map_nil,List.append_nil];rfl),z_sl,z_sl,z_sl,z_sl,z_sl,z_sl,z_sl,z_sl,z_sl,z_sl,z_sl,z_sl,z_sl,z_sl,z_sl,z_sl⟩
       exact⟨NFr7 (z_nfr hUfr) (by assumption) (by assumption) (by assumption) z_sl z_sl,by simp[St.set, *],by simp[St.set, *],z_fg⟩
      repeat(rename_i hh;clear hh)
      rintro m3 env s' ⟨k,V,xv,bv,b13,b14,hk,hm3,hV,rfl,e2,e6,e7,e8,e10,e13,e14,e34,e35,e36,e41,e42,e43,e89,e90,e91⟩
      by_cases hkt:k<r.2.length
      ·obtain⟨v,hv⟩:=uget hkt
       have hvx:(strs r.2)[k]?=some [.str v]:=by simp[strs,hv]
       have hvl:=HVM.out v (List.mem_of_getElem? hv)
       have hut:=utake hv
       have HV:=Lib.hid hV
       obtain⟨hfr,k13,k14,hfg⟩:=hV
       have hnd7:=hfr.nd
       have f13:V b13≠.free:=by rw[k13];simp
       have f14:V b14≠.free:=by rw[k14];simp
       have n13:=hfr.na f13
       have n14:=hfr.na f14
       have HE1:Hid (∃VS,VS=r.1.vars++(r.2.take k).map (fun v=>txt++[46]++v)∧VS.length≤900000000000∧VS++[txt++[46]++v]=r.1.vars++(r.2.take (k+1)).map (fun v=>txt++[46]++v)):=Lib.hid ⟨_,rfl,by
        have h1:=HSV.out;have h2:=HOT.out;simp only at h1 h2;simp only[h2.2.1,List.length_append,List.length_map,List.length_take];omega,by rw[hut];simp⟩
       have HE2:Hid (∃OW,OW=r.1.owner++(r.2.take k).map (fun _=>qm.length)∧OW.length≤900000000000∧OW++[qm.length]=r.1.owner++(r.2.take (k+1)).map (fun _=>qm.length)):=Lib.hid ⟨_,rfl,by
        have h1:=HSV.out;have h2:=HOT.out;simp only at h1 h2;simp only[h2.2.2.1,List.length_append,List.length_map,List.length_take];omega,by rw[hut];simp⟩
       obtain⟨VS,hVS,hVl,hVe⟩:=HE1.out
       obtain⟨OW,hOW,hOl,hOe⟩:=HE2.out
       rw[← hVS,← hOW]
       have HVe:=Lib.hid hVe
       have HOe:=Lib.hid hOe
       have htl1:(txt++[46]).length≤281474976710800:=by simp only[List.length_append,List.length_cons,List.length_nil];omega
       have hsl1:=strsl_len VS
       have hrb:r.2.length≤300000000:=by have h1:=HSV.out;simp only at h1;omega
       have hsl2:=natsL_len OW
       clear HE1 HE2 hVS hOW hVe hOe hut hv hfg
       refine Kp_unpk B.bf 1 (T':=9) (sz:=1) [(0,9,1),(2,9,1),(3,9,1),(6,3,1),(7,3,1)] (NmX_bf (C:=⟨B,xv,bv⟩) hnd7) rfl (by simp) (by simp) ?_
       intro o1 hO1 _
       rw[NmX_ok]at hO1
       obtain⟨hno1,hO1⟩:=hO1
       rw[NmX_own hno1,show B.bf=(B7.mk B xv bv).bf from rfl,NmX_setf hnd7]
       simp only[List.set,hsl1]at hO1 ⊢
       refine Kp_unpk B.bf 6 (T':=3) (sz:=1) [(0,9,1),(2,9,1),(3,9,1),(7,3,1)] (NmX_bf (C:=⟨B,xv,bv⟩) hnd7) rfl (by simp) (by simp) ?_
       intro o3 hO2 _
       rw[NmX_ok]at hO2
       obtain⟨hno2,hO2⟩:=hO2
       rw[NmX_own hno2,show B.bf=(B7.mk B xv bv).bf from rfl,NmX_setf hnd7]
       simp only[List.set,hsl2]at hO2 ⊢
       have hO2b:=own_bs hO2
       have r13:=hO1.not f13
       have r14:=hO1.not f14
       have q13:=hO2b.not f13
       have q14:=hO2b.not f14
       have hq14:(V.own o3 3 1 OW.length) b14≠.free:=by rw[own_rd_ok hO2b f14];exact f14
       (repeat'(first|refine Ctl ?_|((with_reducible refine Kof.use hK ?_);clear hK hE K E)|((with_reducible refine W_cond (fun h=>?_) (fun h=>?_))<;>(try(exfalso;assumption)))|((first|(with_reducible first|refine G_region fun K E hK hE=>?_|refine W_and ?_)|((with_reducible refine W_app (fun o2 ho=>?_));(try simp(disch:=assumption) only[disown_set,disown_own,ownok_o,ownok_m,List.length_map,List.length_cons,List.length_nil,Nat.zero_add,hrl,hvx,hsl1,hsl2,NmX_dis,NmX_ok,or_true,true_or,if_true,disown_other]at ho);(repeat(obtain⟨_,ho⟩:=ho));(try(have _:=own_bs ho))))<;>(try simp(disch:=first|assumption|omega) only[go_sem,seval,hrl,hvx,hsl1,hsl2,NmX_dis,NmX_ok,or_true,true_or,if_true,disown_other, *]))))
       refine⟨_,(NmX_pack (C:=⟨B,xv,bv⟩) (i:=6) (l:=natsL OW++[[.int .i64 (qm.length:Int)]]) (rs':=[(0,9,1),(2,9,1),(3,9,1),(6,3,1),(7,3,1)]) hnd7 (by assumption) (by assumption) (by simp[natsL_len]) rfl (by simp)).trans
        (NmX_pack (C:=⟨B,xv,bv⟩) (i:=1) (l:=strs VS++[[.str (txt++[46]++v)]]) (rs':=rsF) hnd7 (by assumption) (by assumption) (by simp[strsl_len]) rfl (by simp)),m3 - 1,by omega,k+1,V,xv,bv,b13,b14,by omega,by omega,HV.out,?_,z_sl,z_sl,z_sl,z_sl,z_sl,z_sl,z_sl,z_sl,z_sl,z_sl,z_sl,z_sl,z_sl,z_sl,z_sl,z_sl⟩
       rw[← HVe.out,← HOe.out]
       simp only[fctC,fctV,strs_snoc,natsL_snoc,List.set_cons_succ,List.set_cons_zero]
      ·have hke:r.2.take k=r.2:=List.take_of_length_le (by omega)
       have HV:=Lib.hid hV
       clear hV
       rw[hke]
       clear hke
       (repeat'(first|refine Ctl ?_|((with_reducible refine Kof.use hK ?_);clear hK hE K E)|((with_reducible refine W_cond (fun h=>?_) (fun h=>?_))<;>(try(exfalso;assumption)))|(((with_reducible refine G_region fun K E hK hE=>?_))<;>(try simp(disch:=omega) only[go_sem,seval,hml,hrl, *]))))
       exact⟨_,GS.of_fg (NmX_fg2 HV.out.fr HV.out.fg),m2 - 1,by omega,j+1,_,by omega,by omega,by have h1:=HMZ.out;simp only[szA]at h1 ⊢;omega,HR3,rfl,z_sl,z_sl,z_sl,z_sl,z_sl,z_sl,z_sl,z_sl,z_sl,z_sl,z_sl⟩
     ·have wB:∀(V:St) (c:Cell) (xv bv b:Nat) (z:Cell) (o:Own),NFr V B.l→NA xv B.l→NA bv B.l→NA b B.l→¬ bv=xv→¬ b=xv→¬ b=bv→V xv=.free→V bv=.free→SRet Tryz.prog 61 [.ptr xv 0,.lst (mp.map strC) o] (Nm2 (((V.set bv (.map [])).set xv (.obj 145 [.lst [] .full,.mp bv])).set b z) c B qx qf) (.tup []) (NmX (V.set b z) c ⟨B,xv,bv⟩ qx qf (addsS [] mp)):=fun V c xv bv b z o a1 a2 a3 a4 a5 a6 a7 a8 a9=>Nadd_0 (ts:=mp) (by omega) a1 a2 a3 a4 a5 a6 a7 a8 a9
      have hvl:(addsS [] mp).length≤10:=by have h:=addsS_len [] mp;simp only[List.length_nil]at h;omega
      have hv0:vars0 ⟨true,mn,mp,mb⟩=addsS (addsS [] mp) [retT]:=rfl
      have wC:∀(V:St) (c:Cell) (xv bv:Nat) (o:Own),NFr V B.l→NA xv B.l→NA bv B.l→¬ bv=xv→V xv=.free→V bv=.free→SRet Tryz.prog 61 [.ptr xv 0,.lst [[.str retT]] o] (NmX V c ⟨B,xv,bv⟩ qx qf (addsS [] mp)) (.tup []) (NmX V c ⟨B,xv,bv⟩ qx qf (vars0 ⟨true,mn,mp,mb⟩)):=fun V c xv bv o a1 a2 a3 a4 a5 a6=>Nadd_1 (ts:=[retT]) (by simp) (by omega) a1 a2 a3 a4 a5 a6
      have hv10:=vars0_len ⟨true,mn,mp,mb⟩ hp8
      have wE:=fun(o:Own) (xv bv b12 b13 b14 b15:Nat) (d12:Cell) hO g1 g2 g3 g4 g5 g6 g7 k1 k2 k3 k4 k5 k6 h3 f1 f2 i1 i2 i3 i4 i5 i6 i7 i8 i9 i10 i11 m1 m2 m3 m4 m5 m6 m7 m8=>
       Cneach1 (U:=U) (o:=o) (N:=qm.length+1) (B:=B) (xv:=xv) (bv:=bv) (b12:=b12) (b13:=b13) (b14:=b14) (b15:=b15) (b8:=b8) (b7:=b7) (d12:=d12) (txt:=txt) (n:=qm.length)
        ⟨qm++[txt],qv,qs,qc,qo,qh,qmain,qf,qx⟩ (vars0 ⟨true,mn,mp,mb⟩) mb hbo (by simp only[szN];omega) (by simp) hO g1 g2 g3 g4 g5 g6 g7 hUfr k1 k2 k3 k4 k5 k6 h3 f1 f2 i1 i2 i3 i4 i5 i6 i7 i8 i9 i10 i11 hU8 hU7 m1 m2 m3 m4 m5 m6 m7 m8
      have hvm:=vs_le (txt:=txt) (n:=qm.length) (q:=⟨qm++[txt],qv,qs,qc,qo,qh,qmain,qf,qx⟩) hmo
      have hmz:=mthN_sz ⟨cn,cp,cm⟩ ⟨qm,qv,qs,qc,qo,qh,qmain,qf,qx⟩ ⟨true,mn,mp,mb⟩ hp8 hbo hbl
      have hot:=stms_other txt qm.length (preL mb) (⟨qm++[txt],qv,qs,qc,qo,qh,qmain,qf,qx⟩,vars0 ⟨true,mn,mp,mb⟩)
      have hsv:=stms_v txt qm.length (preL mb) (⟨qm++[txt],qv,qs,qc,qo,qh,qmain,qf,qx⟩,vars0 ⟨true,mn,mp,mb⟩) (fun x hx=>(hbo.all x hx).1)
      unfold mthN at HR3 hmz
      simp only[htt,hM,if_true,if_false,reduceIte]at HR3 hmz
      generalize (preL mb).foldl (stmN txt qm.length) (⟨qm++[txt],qv,qs,qc,qo,qh,qmain,qf,qx⟩,vars0 ⟨true,mn,mp,mb⟩)=r at wE hvm hmz hot hsv HR3
      generalize vars0 ⟨true,mn,mp,mb⟩=v3 at wC wE hv10 hsv hv0
      clear hv0
      generalize addsS [] mp=v2 at wB wC hvl
      unfold retT at wC
      simp only[strs_snoc]at wE
      have HVM:=Lib.hid hvm
      have HMZ:=Lib.hid hmz
      have HOT:=Lib.hid hot
      have HSV:=Lib.hid hsv
      have hrl:=strsl_len r.2
      clear hvm hmz hot hsv
      (repeat'(first|refine Ctl ?_|((with_reducible refine Kof.use hK ?_);clear hK hE K E)|((with_reducible refine W_cond (fun h=>?_) (fun h=>?_))<;>(try(exfalso;assumption)))|((first|(with_reducible first|refine G_region fun K E hK hE=>?_|refine call_ret can61 (wB _ _ _ _ _ _ _ (z_nfr hUfr) (by assumption) (by assumption) (by assumption) (by assumption) (by assumption) (by assumption) z_sl z_sl) ?_|refine call_ret can61 (wC _ _ _ _ _ (z_nfr hUfr) (by assumption) (by assumption) (by assumption) z_sl z_sl) ?_|refine call_ret can62 (wE _ _ _ _ _ _ _ _ (by assumption) (by assumption) (by assumption) (by assumption) (by assumption) (by assumption) (by assumption) (by assumption) (by assumption) (by assumption) (by assumption) (by assumption) (by assumption) (by assumption) (by assumption) (by assumption) (by assumption) (by assumption) (by assumption) (by assumption) (by assumption) (by assumption) (by assumption) (by assumption) (by assumption) (by assumption) (by assumption) (by assumption) (by assumption) (by assumption) (by assumption) (by assumption) (by assumption) (by assumption) (by assumption) (by assumption)) ?_|refine W_and ?_)|((with_reducible refine W_fresh (fun b hb=>?_));(repeat(obtain⟨_,hb⟩:=hb));(try((try(rw[own_fr]at hb;obtain⟨_,hb⟩:=hb));obtain⟨_,_⟩:=nef hb hU2;obtain⟨_,_⟩:=nef hb f7;obtain⟨_,_⟩:=nef hb f8;obtain⟨_,_⟩:=nef hb fc)))|((with_reducible refine W_app (fun o2 ho=>?_));(try simp(disch:=assumption) only[disown_set,disown_own,ownok_o,ownok_m,List.length_map,List.length_cons,List.length_nil,Nat.zero_add,hml,hsm,hms,hpl,Nm2_dis,Nm2_ok,or_true,true_or,if_true]at ho);(repeat(obtain⟨_,ho⟩:=ho))))<;>(try simp(disch:=first|assumption|omega) only[go_sem,seval,hml,hsm,hms,hpl,Nm2_dis,Nm2_ok,or_true,true_or,if_true, *]))))
      refine G_loopS (fun m3 env s'=>∃(k:Nat) (V:St) (xv bv b13 b14:Nat),k≤r.2.length∧m3+k=r.2.length∧NLp V U B xv bv b13 b14 txt qm.length∧s'=NmX V (.pk 26 (fctC { r.1 with vars:=r.1.vars++(r.2.take k).map (fun v=>txt++[46]++v),owner:=r.1.owner++(r.2.take k).map (fun _=>qm.length) }) rsF) ⟨B,xv,bv⟩ r.1.names r.1.fields r.2∧env 2=.ptr b2 0∧env 6=.ptr B.bf 0∧env 7=.ptr b7 0∧env 8=.ptr b8 0∧env 10=.ptr bc 0∧env 13=.ptr b13 0∧env 14=.ptr b14 0∧env 34=.lst (x.map clsC) .no∧env 35=.int .i64 x.length∧env 36=.int .i64 i∧env 41=.lst (cm.map mthC) .no∧env 42=.int .i64 cm.length∧env 43=.int .i64 j∧env 89=.lst (strs r.2) .no∧env 90=.int .i64 r.2.length∧env 91=.int .i64 k) r.2.length ?_ ?_
      ·refine⟨_,GS.refl _,0,_,_,_,_,_,by omega,by omega,?_,(by simp only[List.take_zero,List.map_nil,List.append_nil];rfl),z_sl,z_sl,z_sl,z_sl,z_sl,z_sl,z_sl,z_sl,z_sl,z_sl,z_sl,z_sl,z_sl,z_sl,z_sl,z_sl⟩
       exact⟨NFr7 (z_nfr hUfr) (by assumption) (by assumption) (by assumption) z_sl z_sl,by simp[St.set, *],by simp[St.set, *],z_fg⟩
      repeat(rename_i hh;clear hh)
      rintro m3 env s' ⟨k,V,xv,bv,b13,b14,hk,hm3,hV,rfl,e2,e6,e7,e8,e10,e13,e14,e34,e35,e36,e41,e42,e43,e89,e90,e91⟩
      by_cases hkt:k<r.2.length
      ·obtain⟨v,hv⟩:=uget hkt
       have hvx:(strs r.2)[k]?=some [.str v]:=by simp[strs,hv]
       have hvl:=HVM.out v (List.mem_of_getElem? hv)
       have hut:=utake hv
       have HV:=Lib.hid hV
       obtain⟨hfr,k13,k14,hfg⟩:=hV
       have hnd7:=hfr.nd
       have f13:V b13≠.free:=by rw[k13];simp
       have f14:V b14≠.free:=by rw[k14];simp
       have n13:=hfr.na f13
       have n14:=hfr.na f14
       have HE1:Hid (∃VS,VS=r.1.vars++(r.2.take k).map (fun v=>txt++[46]++v)∧VS.length≤900000000000∧VS++[txt++[46]++v]=r.1.vars++(r.2.take (k+1)).map (fun v=>txt++[46]++v)):=Lib.hid ⟨_,rfl,by
        have h1:=HSV.out;have h2:=HOT.out;simp only at h1 h2;simp only[h2.2.1,List.length_append,List.length_map,List.length_take];omega,by rw[hut];simp⟩
       have HE2:Hid (∃OW,OW=r.1.owner++(r.2.take k).map (fun _=>qm.length)∧OW.length≤900000000000∧OW++[qm.length]=r.1.owner++(r.2.take (k+1)).map (fun _=>qm.length)):=Lib.hid ⟨_,rfl,by
        have h1:=HSV.out;have h2:=HOT.out;simp only at h1 h2;simp only[h2.2.2.1,List.length_append,List.length_map,List.length_take];omega,by rw[hut];simp⟩
       obtain⟨VS,hVS,hVl,hVe⟩:=HE1.out
       obtain⟨OW,hOW,hOl,hOe⟩:=HE2.out
       rw[← hVS,← hOW]
       have HVe:=Lib.hid hVe
       have HOe:=Lib.hid hOe
       have htl1:(txt++[46]).length≤281474976710800:=by simp only[List.length_append,List.length_cons,List.length_nil];omega
       have hsl1:=strsl_len VS
       have hrb:r.2.length≤300000000:=by have h1:=HSV.out;simp only at h1;omega
       have hsl2:=natsL_len OW
       clear HE1 HE2 hVS hOW hVe hOe hut hv hfg
       refine Kp_unpk B.bf 1 (T':=9) (sz:=1) [(0,9,1),(2,9,1),(3,9,1),(6,3,1),(7,3,1)] (NmX_bf (C:=⟨B,xv,bv⟩) hnd7) rfl (by simp) (by simp) ?_
       intro o1 hO1 _
       rw[NmX_ok]at hO1
       obtain⟨hno1,hO1⟩:=hO1
       rw[NmX_own hno1,show B.bf=(B7.mk B xv bv).bf from rfl,NmX_setf hnd7]
       simp only[List.set,hsl1]at hO1 ⊢
       refine Kp_unpk B.bf 6 (T':=3) (sz:=1) [(0,9,1),(2,9,1),(3,9,1),(7,3,1)] (NmX_bf (C:=⟨B,xv,bv⟩) hnd7) rfl (by simp) (by simp) ?_
       intro o3 hO2 _
       rw[NmX_ok]at hO2
       obtain⟨hno2,hO2⟩:=hO2
       rw[NmX_own hno2,show B.bf=(B7.mk B xv bv).bf from rfl,NmX_setf hnd7]
       simp only[List.set,hsl2]at hO2 ⊢
       have hO2b:=own_bs hO2
       have r13:=hO1.not f13
       have r14:=hO1.not f14
       have q13:=hO2b.not f13
       have q14:=hO2b.not f14
       have hq14:(V.own o3 3 1 OW.length) b14≠.free:=by rw[own_rd_ok hO2b f14];exact f14
       (repeat'(first|refine Ctl ?_|((with_reducible refine Kof.use hK ?_);clear hK hE K E)|((with_reducible refine W_cond (fun h=>?_) (fun h=>?_))<;>(try(exfalso;assumption)))|((first|(with_reducible first|refine G_region fun K E hK hE=>?_|refine W_and ?_)|((with_reducible refine W_app (fun o2 ho=>?_));(try simp(disch:=assumption) only[disown_set,disown_own,ownok_o,ownok_m,List.length_map,List.length_cons,List.length_nil,Nat.zero_add,hrl,hvx,hsl1,hsl2,NmX_dis,NmX_ok,or_true,true_or,if_true,disown_other]at ho);(repeat(obtain⟨_,ho⟩:=ho));(try(have _:=own_bs ho))))<;>(try simp(disch:=first|assumption|omega) only[go_sem,seval,hrl,hvx,hsl1,hsl2,NmX_dis,NmX_ok,or_true,true_or,if_true,disown_other, *]))))
       refine⟨_,(NmX_pack (C:=⟨B,xv,bv⟩) (i:=6) (l:=natsL OW++[[.int .i64 (qm.length:Int)]]) (rs':=[(0,9,1),(2,9,1),(3,9,1),(6,3,1),(7,3,1)]) hnd7 (by assumption) (by assumption) (by simp[natsL_len]) rfl (by simp)).trans
        (NmX_pack (C:=⟨B,xv,bv⟩) (i:=1) (l:=strs VS++[[.str (txt++[46]++v)]]) (rs':=rsF) hnd7 (by assumption) (by assumption) (by simp[strsl_len]) rfl (by simp)),m3 - 1,by omega,k+1,V,xv,bv,b13,b14,by omega,by omega,HV.out,?_,z_sl,z_sl,z_sl,z_sl,z_sl,z_sl,z_sl,z_sl,z_sl,z_sl,z_sl,z_sl,z_sl,z_sl,z_sl,z_sl⟩
       rw[← HVe.out,← HOe.out]
       simp only[fctC,fctV,strs_snoc,natsL_snoc,List.set_cons_succ,List.set_cons_zero]
      ·have hke:r.2.take k=r.2:=List.take_of_length_le (by omega)
       have HV:=Lib.hid hV
       clear hV
       rw[hke]
       clear hke
       (repeat'(first|refine Ctl ?_|((with_reducible refine Kof.use hK ?_);clear hK hE K E)|((with_reducible refine W_cond (fun h=>?_) (fun h=>?_))<;>(try(exfalso;assumption)))|(((with_reducible refine G_region fun K E hK hE=>?_))<;>(try simp(disch:=omega) only[go_sem,seval,hml,hrl, *]))))
       exact⟨_,GS.of_fg (NmX_fg2 HV.out.fr HV.out.fg),m2 - 1,by omega,j+1,_,by omega,by omega,by have h1:=HMZ.out;simp only[szA]at h1 ⊢;omega,HR3,rfl,z_sl,z_sl,z_sl,z_sl,z_sl,z_sl,z_sl,z_sl,z_sl,z_sl,z_sl⟩
   ·have hr:=HQ.out
    rw[List.drop_of_length_le (by omega)]at hr
    obtain rfl:q=q1:=hr
    have hre:=HRE.out
    clear HQ
    (repeat'(first|refine Ctl ?_|((with_reducible refine Kof.use hK ?_);clear hK hE K E)|((with_reducible refine W_cond (fun h=>?_) (fun h=>?_))<;>(try(exfalso;assumption)))|(((with_reducible refine G_region fun K E hK hE=>?_))<;>(try simp(disch:=omega) only[go_sem,seval,hml,hlen, *]))))
    exact⟨_,GS.of_fg (Nm2_fg HUg.out),m - 1,by omega,i+1,q,B,T,b2,b7,b8,by omega,by omega,by rw[hre];exact Nat.le_trans (Nat.add_le_add_left (Nat.mul_le_mul_right _ (Nat.le_add_left _ _)) _) hsz,HR2,HT.out,rfl,z_sl,z_sl,z_sl,z_sl,z_sl,z_sl,z_sl⟩
  ·have hr:=HR.out
   rw[List.drop_of_length_le (by omega)]at hr
   obtain rfl:q=R:=hr
   clear HR
   obtain⟨qm,qv,qs,qc,qo,qh,qmain,qf,qx⟩:=q
   (repeat'(first|refine Ctl ?_|(with_reducible first|(refine Kof.use hK ?_;clear hK hE K E)|(refine Kof.use hKh ?_;clear hKh Kh)|(refine Kof.use hKb (P_next ?_);clear hKb Kb)|refine G_plan 31 [([0,1,2,3,4,5,6,7,8],9,[[4,5,6,7]]),([10],11,[[],[]])] [] hQe fun K E hK hE=>?_)|((with_reducible refine W_cond (fun h=>?_) (fun h=>?_))<;>(try(exfalso;assumption)))|(((with_reducible first|refine G_region fun K E hK hE=>?_|refine P_heads fun Kh hKh=>?_|refine P_fin fun Kh hKh=>?_|refine P_each fun Kb hKb=>?_))<;>(try simp(disch:=first|assumption|omega) only[go_sem,seval,hlen,or_true,true_or,if_true, *]))))
   all_goals(refine W_ret res28 hQ ?_)
   all_goals exact⟨_,_,Wk.refl _,Fg.refl _,t,GS.of_fg (Nm2_fg0 (hfr.set n2) (Fg.setA hfg hz2)),rfl,rfl⟩
 ·have w0:=Cright1_S x hx h0
  rw[if_neg h0]
  generalize rightE x=e at w0 h0 ⊢
  simp only[srcV]at w0 ⊢
  have h0f:(e=0)=False:=eq_false h0
  clear h0 hx
  refine G_enter Tryz.func28 rfl Tryz.ntmps28 rfl fun Q hQ hQe=>?_
  (repeat'(first|refine Ctl ?_|((with_reducible refine Kof.use hK ?_);clear hK hE K E)|((with_reducible refine W_cond (fun h=>?_) (fun h=>?_))<;>(try(exfalso;assumption)))|((first|(with_reducible first|refine G_region fun K E hK hE=>?_|refine call_ret can60 (w0 _) ?_)|((with_reducible refine W_fresh (fun b hb=>?_));(repeat(obtain⟨_,hb⟩:=hb))))<;>(try simp(disch:=omega) only[go_sem,seval, *]))))
  all_goals(refine W_ret res28 hQ ?_)
  all_goals exact⟨_,_,Wk_fct0,z_fg,rfl,rfl⟩
end Go.Proofs.YtgdbgfjhenobdaaGreatDoor
namespace Go.Proofs.YtgdbgfjhenobdaaGreatDoor
open Go.RowKit
theorem strs_at {l:List (List UInt8)}{i:Nat}{x:List UInt8}(h:l[i]?=some x):(strs l)[i]?=some [.str x]:=by simp[strs,h]
end Go.Proofs.YtgdbgfjhenobdaaGreatDoor
