/- Walks of functions that the claim reaches, and plain facts of them. Conditions: those in the statements. -/
import Derived.Test.YtgdbgfjhenobdaaGreatDoorJmCgj
import Derived.Test.YtgdbgfjhenobdaaGreatDoorJmPkj
set_option linter.unusedSimpArgs false
set_option linter.unusedVariables false
set_option maxRecDepth 100000
namespace Go.Proofs.YtgdbgfjhenobdaaGreatDoor
open Go.RowKit
attribute [local go_sem] p_enil1 p_enil2 p_nilE one_nil
theorem Cread0_S (x:List Cls)(hx:SrcOk x)(h0:rdE x=0)(t:St):SCalls Tryz.prog 101 [srcV x] t fun w u=>∃a:Nat×Nat×St,w=.ret (.tup [.ptr a.1 0,.int .i64 0])∧u=a.2.2∧SrcAt a.2.2 a.1 a.2.1 x∧Fg a.2.2 t:=
 (Cread_S x hx t).mono fun w u h=>by
  obtain⟨p,bm,h1,h2,h3⟩:=h.2 h0
  exact⟨(p,bm,u),h1,rfl,h2,h3⟩
theorem Cread1_S (x:List Cls)(hx:SrcOk x)(h0:rdE x≠0)(t:St):SRet Tryz.prog 101 [srcV x] t (.tup [.raw (.pointer none),.int .i64 (rdE x)]) t:=
 (Cread_S x hx t).mono fun w u h=>h.1 h0
theorem rightE_rd {x:List Cls}(h:rdE x≠0):rightE x=rdE x:=by
 unfold rdE at h ⊢
 unfold rightE
 split
 ·rfl
 ·rename_i h1
  rw[if_neg h1]at h
  split
  ·rfl
  ·rename_i h2;rw[if_neg h2]at h;exact absurd rfl h
theorem rdE_0 {x:List Cls}(h:rdE x=0):checkB x=true∧(x.map (·.nm)).Nodup:=by
 unfold rdE at h
 split at h
 ·cases h
 ·rename_i h1
  split at h
  ·cases h
  ·rename_i h2;exact⟨by simpa using h1,by simpa using h2⟩
theorem upRun_r1 {x:List Cls}(n:List UInt8):(upRun x (fun(a:Unit) (_:Nat)=>(a,true)) (x.length+1) () n).2=(upN x n).2:=upRun_all _ _
theorem Cupr_S (x:List Cls)(p bm:Nat)(hx:x.length≤100000)(s:St)(h1:s p=.obj 181 [.lst (x.map clsC) .no,.mp bm,.lst (stL x x.length) .no])(h2:s bm=.map (mpV encI (atA16 x)))(n:List UInt8) :
  SRet Tryz.prog 102 [.ptr p 0,.str n,.fn 103 []] s (.bool (upN x n).2) s:=by
 have h:=Cup_S x p bm 103 [] (fun _=>s) (fun(a:Unit) (_:Nat)=>(a,true)) can103 (fun _=>⟨h1,h2⟩) (fun a i _=>Cr1_S i s) hx () n
 rw[upRun_r1]at h
 exact h
set_option maxHeartbeats 8000000 in
theorem Cright_S (x:List Cls)(hx:SrcOk x)(t:St):SCalls Tryz.prog 60 [srcV x] t fun w u=>
  (rightE x≠0→w=.ret (.tup [.raw (.pointer none),.int .i64 (rightE x)])∧u=t)∧(rightE x=0→∃p bm,w=.ret (.tup [.ptr p 0,.int .i64 0])∧SrcAt u p bm x∧Fg u t):=by
 by_cases h0:rdE x=0
 ·obtain⟨hB,hN⟩:=rdE_0 h0
  have hb:=Bnd.of hB
  have w0:=Cread0_S x hx h0
  have hxl:=hb.cls
  have hlen:(x.map clsC).length=x.length:=by simp
  have hre:rightE x=if (x.all fun c=>(upN x c.nm).2)=false then 160 else if x.all (mthsR x)=false then 160 else if mainR x=false then 160 else 0:=by
   unfold rightE;rw[if_neg (by rw[hB];simp),if_neg (by simpa using hN)]
  generalize rightE x=e at hre ⊢
  have HE:=Lib.hid hre
  have HB:=Lib.hid hb
  clear hre hb hB hN h0 hx
  simp only[srcV]at w0 ⊢
  refine G_enter Tryz.func60 rfl Tryz.ntmps60 rfl fun Q hQ hQe=>?_
  (repeat'(first|refine Ctl ?_|((with_reducible refine Kof.use hK ?_);clear hK hE K E)|((with_reducible refine W_cond (fun h=>?_) (fun h=>?_))<;>(try(exfalso;assumption)))|((first|(with_reducible refine G_region fun K E hK hE=>?_)|((with_reducible refine call_ex can101 (w0 _) (fun a h=>?_));(obtain⟨p,bm,u⟩:=a;dsimp only at h ⊢;obtain⟨⟨k1,k2⟩,hFg⟩:=h;have hub:=((hFg b).resolve_left (by rw[St.set_same];simp)).symm;rw[St.set_same]at hub))|((with_reducible refine W_fresh (fun b hb=>?_))))<;>(try simp(disch:=omega) only[go_sem,seval,hlen, *]))))
  have hFt:Fg u t:=hFg.trans (Fg.of_set _ hb)
  have hpf:u p≠.free:=by rw[k1];simp
  have hbf:u bm≠.free:=by rw[k2];simp
  have hif:u b≠.free:=by rw[hub];simp
  generalize b=bi at *
  refine G_loop (fun m env s'=>∃(i:Nat),i≤x.length∧m+i=x.length∧Hid (∀a c,a<i→x[a]?=some c→(upN x c.nm).2=true)∧u=s'∧env 1=.ptr bi 0∧env 4=.ptr p 0∧env 25=.lst (x.map clsC) .no∧env 26=.int .i64 x.length∧env 27=.int .i64 i) x.length ?_ ?_
  ·exact⟨_,Fg.refl _,0,by omega,by omega,Lib.hid (fun a c h=>absurd h (Nat.not_lt_zero _)),rfl,z_sl,z_sl,z_sl,z_sl,z_sl⟩
  rintro m env s' ⟨i,hi,hm,HI,rfl,e1,e4,e25,e26,e27⟩
  by_cases hlt:i<x.length
  ·obtain⟨c,hc⟩:=uget hlt
   have hsx:=clsC_at hc
   have hcm:=List.mem_of_getElem? hc
   have w1:=fun s h1 h2=>Cupr_S x p bm (by omega) s h1 h2 c.nm
   cases hup:(upN x c.nm).2 with
   |false=>
    rw[hup]at w1
    have hE:=HE.out
    rw[if_pos (by rw[List.all_eq_false];exact⟨c,hcm,by rw[hup];simp⟩)]at hE
    subst hE
    clear HI hup hcm hc w0
    obtain⟨cn,cp,cm⟩:=c
    simp only at w1
    (repeat'(first|refine Ctl ?_|((with_reducible refine Kof.use hK ?_);clear hK hE K E)|((with_reducible refine W_cond (fun h=>?_) (fun h=>?_))<;>(try(exfalso;assumption)))|((first|(with_reducible first|refine G_region fun K E hK hE=>?_|refine call_ret can102 (w1 _ z_sl z_sl) ?_)|((with_reducible refine W_fresh (fun b hb=>?_));(try(obtain⟨_,_⟩:=nef hb hpf;obtain⟨_,_⟩:=nef hb hbf;obtain⟨_,_⟩:=nef hb hif))))<;>(try simp(disch:=omega) only[go_sem,seval,hlen,hsx,clsC, *]))))
    all_goals(refine W_ret res60 hQ ?_)
    all_goals exact⟨_,_,Wk.refl _,Fg.setA hFt (hFt.free hb),fun _=>⟨rfl,rfl⟩,fun h=>absurd h (by decide)⟩
   |true=>
    rw[hup]at w1
    have HI2:Hid (∀a c,a<i+1→x[a]?=some c→(upN x c.nm).2=true):=Lib.hid fun a c' ha hg=>by
     by_cases e:a=i
     ·subst e;rw[hc]at hg;injection hg with hg;subst hg;exact hup
     ·exact HI.out a c' (by omega) hg
    clear HI hup hcm hc w0
    obtain⟨cn,cp,cm⟩:=c
    simp only at w1
    (repeat'(first|refine Ctl ?_|((with_reducible refine Kof.use hK ?_);clear hK hE K E)|((with_reducible refine W_cond (fun h=>?_) (fun h=>?_))<;>(try(exfalso;assumption)))|((first|(with_reducible first|refine G_region fun K E hK hE=>?_|refine call_ret can102 (w1 _ z_sl z_sl) ?_)|((with_reducible refine W_fresh (fun b hb=>?_));(try(obtain⟨_,_⟩:=nef hb hpf;obtain⟨_,_⟩:=nef hb hbf;obtain⟨_,_⟩:=nef hb hif))))<;>(try simp(disch:=omega) only[go_sem,seval,hlen,hsx,clsC, *]))))
    all_goals exact⟨u,Fg.of_set _ hb,m - 1,by omega,i+1,by omega,by omega,HI2,rfl,z_sl,z_sl,z_sl,z_sl,z_sl⟩
  ·have hE:=HE.out
   have hI:=HI.out
   rw[if_neg (by
    have:(x.all fun c=>(upN x c.nm).2)=true:=List.all_eq_true.2 fun c hc=>by
     obtain⟨a,ha,hg⟩:=List.getElem_of_mem hc
     exact hI a c (by omega) (by rw[List.getElem?_eq_getElem ha,hg])
    rw[this];simp)]at hE
   have HE:=Lib.hid hE
   clear hE hI HI w0
   (repeat'(first|refine Ctl ?_|((with_reducible refine Kof.use hK ?_);clear hK hE K E)|((with_reducible refine W_cond (fun h=>?_) (fun h=>?_))<;>(try(exfalso;assumption)))|(((with_reducible refine G_region fun K E hK hE=>?_))<;>(try simp(disch:=omega) only[go_sem,seval,hlen, *]))))
   clear hm hi hlt i m e25 e26 e27
   refine G_loop (fun m env s'=>∃(i:Nat),i≤x.length∧m+i=x.length∧Hid (∀a c,a<i→x[a]?=some c→mthsR x c=true)∧u=s'∧env 1=.ptr bi 0∧env 4=.ptr p 0∧env 38=.lst (x.map clsC) .no∧env 39=.int .i64 x.length∧env 40=.int .i64 i) x.length ?_ ?_
   ·exact⟨_,Fg.refl _,0,by omega,by omega,Lib.hid (fun a c h=>absurd h (Nat.not_lt_zero _)),rfl,z_sl,z_sl,z_sl,z_sl,z_sl⟩
   rintro m env s' ⟨i,hi,hm,HI,rfl,e1,e4,e38,e39,e40⟩
   by_cases hlt:i<x.length
   ·obtain⟨c,hc⟩:=uget hlt
    have hsx:=clsC_at hc
    have hcm:=List.mem_of_getElem? hc
    have hml:(c.mths.map mthC).length=c.mths.length:=by simp
    have hcl:=HB.out.mths c hcm
    have W1:=Lib.hid (fun s h1 h2 (j:Nat) mt hj=>Chead_S s p bm i j x c mt ⟨h1,h2⟩ hc hj (by omega) (fun c hc=>by have:=HB.out.mths c hc;omega) (by have:=HB.out.pars c hcm mt (List.mem_of_getElem? hj);omega))
    have W2:=Lib.hid (fun s h1 h2 (j:Nat) mt (hj:c.mths[j]?=some mt)=>Cbody_S s p bm x mt ⟨h1,h2⟩ (by omega) (fun c hc=>by have:=HB.out.mths c hc;omega) (startN_le HB.out) (HB.out.body c hcm mt (List.mem_of_getElem? hj)))
    obtain⟨cn,cp,cm⟩:=c
    simp only at hml hcl
    (repeat'(first|refine Ctl ?_|((with_reducible refine Kof.use hK ?_);clear hK hE K E)|((with_reducible refine W_cond (fun h=>?_) (fun h=>?_))<;>(try(exfalso;assumption)))|((first|(with_reducible refine G_region fun K E hK hE=>?_)|((with_reducible refine W_fresh (fun b hb=>?_));(try(obtain⟨_,_⟩:=nef hb hpf;obtain⟨_,_⟩:=nef hb hbf;obtain⟨_,_⟩:=nef hb hif))))<;>(try simp(disch:=omega) only[go_sem,seval,hlen,hsx,clsC,hml, *]))))
    refine G_loop (fun m2 env s'=>∃(j:Nat),j≤cm.length∧m2+j=cm.length∧Hid (∀a mt,a<j→cm[a]?=some mt→(hdOk x ⟨cn,cp,cm⟩ a mt && bodyR x mt)=true)∧u=s'∧env 1=.ptr bi 0∧env 4=.ptr p 0∧env 8=.int .i64 i∧env 38=.lst (x.map clsC) .no∧env 39=.int .i64 x.length∧env 40=.int .i64 i
      ∧ env 46=.lst (cm.map mthC) .no∧env 47=.int .i64 cm.length∧env 48=.int .i64 j) cm.length ?_ ?_
    ·exact⟨u,Fg.of_set _ (by assumption),0,by omega,by omega,Lib.hid (fun a c h=>absurd h (Nat.not_lt_zero _)),rfl,z_sl,z_sl,z_sl,z_sl,z_sl,z_sl,z_sl,z_sl,z_sl⟩
    rintro m2 env s' ⟨j,hj,hm2,HJ,rfl,e1,e4,e8,e38,e39,e40,e46,e47,e48⟩
    by_cases hjt:j<cm.length
    ·obtain⟨mt,hmt⟩:=uget hjt
     have hsm:=mthC_at16 hmt
     have w1:=fun s h1 h2=>W1.out s h1 h2 j mt hmt
     have w2:=fun s h1 h2=>W2.out s h1 h2 j mt hmt
     cases hok:(hdOk x ⟨cn,cp,cm⟩ j mt && bodyR x mt)with
     |false=>
      have hE:=HE.out
      rw[if_pos (by
       rw[List.all_eq_false]
       refine⟨_,hcm,?_⟩
       have:mthsR x ⟨cn,cp,cm⟩=false:=by
        unfold mthsR
        rw[List.all_eq_false]
        exact⟨j,List.mem_range.2 hjt,by simp only[hmt];rw[hok];simp⟩
       rw[this];simp)]at hE
      subst hE
      clear HI HJ hc hcm W1 W2 hmt HE HB
      cases hd:hdOk x ⟨cn,cp,cm⟩ j mt with
      |false=>
       rw[hd]at w1
       clear hd hok w2
       obtain⟨ms,mn,mp,mb⟩:=mt
       (repeat'(first|refine Ctl ?_|((with_reducible refine Kof.use hK ?_);clear hK hE K E)|((with_reducible refine W_cond (fun h=>?_) (fun h=>?_))<;>(try(exfalso;assumption)))|((first|(with_reducible first|refine G_region fun K E hK hE=>?_|refine call_ret can104 (w1 _ z_sl z_sl) ?_)|((with_reducible refine W_fresh (fun b hb=>?_));(try(obtain⟨_,_⟩:=nef hb hpf;obtain⟨_,_⟩:=nef hb hbf;obtain⟨_,_⟩:=nef hb hif))))<;>(try simp(disch:=omega) only[go_sem,seval,hml,hsm,mthC,strsV,stsV, *]))))
       all_goals(refine W_ret res60 hQ ?_)
       all_goals exact⟨_,_,Wk.refl _,Fg.setA hFt (hFt.free hb),fun _=>⟨rfl,rfl⟩,fun h=>absurd h (by decide)⟩
      |true=>
       rw[hd,Bool.true_and]at hok
       rw[hd]at w1
       rw[hok]at w2
       clear hd hok
       obtain⟨ms,mn,mp,mb⟩:=mt
       simp only[mthC,strsV,stsV]at w2
       (repeat'(first|refine Ctl ?_|((with_reducible refine Kof.use hK ?_);clear hK hE K E)|((with_reducible refine W_cond (fun h=>?_) (fun h=>?_))<;>(try(exfalso;assumption)))|((first|(with_reducible first|refine G_region fun K E hK hE=>?_|refine call_ret can104 (w1 _ z_sl z_sl) ?_|refine call_ret can105 (w2 _ z_sl z_sl) ?_)|((with_reducible refine W_fresh (fun b hb=>?_));(try(obtain⟨_,_⟩:=nef hb hpf;obtain⟨_,_⟩:=nef hb hbf;obtain⟨_,_⟩:=nef hb hif))))<;>(try simp(disch:=omega) only[go_sem,seval,hml,hsm,mthC,strsV,stsV, *]))))
       all_goals(refine W_ret res60 hQ ?_)
       all_goals exact⟨_,_,Wk.refl _,Fg.setA hFt (hFt.free hb),fun _=>⟨rfl,rfl⟩,fun h=>absurd h (by decide)⟩
     |true=>
      have hok2:=hok
      rw[Bool.and_eq_true]at hok2
      rw[hok2.1]at w1
      rw[hok2.2]at w2
      have HJ2:Hid (∀a mt,a<j+1→cm[a]?=some mt→(hdOk x ⟨cn,cp,cm⟩ a mt && bodyR x mt)=true):=Lib.hid fun a mt' ha hg=>by
       by_cases e:a=j
       ·subst e;rw[hmt]at hg;injection hg with hg;subst hg;exact hok
       ·exact HJ.out a mt' (by omega) hg
      have HC:=Lib.hid hc
      have HCM:=Lib.hid hcm
      clear HJ hok hok2 hmt hc hcm
      obtain⟨ms,mn,mp,mb⟩:=mt
      simp only[mthC,strsV,stsV]at w2
      (repeat'(first|refine Ctl ?_|((with_reducible refine Kof.use hK ?_);clear hK hE K E)|((with_reducible refine W_cond (fun h=>?_) (fun h=>?_))<;>(try(exfalso;assumption)))|((first|(with_reducible first|refine G_region fun K E hK hE=>?_|refine call_ret can104 (w1 _ z_sl z_sl) ?_|refine call_ret can105 (w2 _ z_sl z_sl) ?_)|((with_reducible refine W_fresh (fun b hb=>?_));(try(obtain⟨_,_⟩:=nef hb hpf;obtain⟨_,_⟩:=nef hb hbf;obtain⟨_,_⟩:=nef hb hif))))<;>(try simp(disch:=omega) only[go_sem,seval,hml,hsm,mthC,strsV,stsV, *]))))
      all_goals exact⟨u,Fg.of_set _ hb,m2 - 1,by omega,j+1,by omega,by omega,HJ2,rfl,z_sl,z_sl,z_sl,z_sl,z_sl,z_sl,z_sl,z_sl,z_sl⟩
    ·have HI2:Hid (∀a c,a<i+1→x[a]?=some c→mthsR x c=true):=Lib.hid fun a c' ha hg=>by
      by_cases e:a=i
      ·subst e;rw[hc]at hg;injection hg with hg;subst hg
       unfold mthsR
       rw[List.all_eq_true]
       intro a2 ha2
       cases hg2:cm[a2]? with
       |none=>rfl
       |some mt=>exact HJ.out a2 mt (by have:=(List.getElem?_eq_some_iff.1 hg2).1;omega) hg2
      ·exact HI.out a c' (by omega) hg
     clear HI HJ W1 W2 hc hcm
     (repeat'(first|refine Ctl ?_|((with_reducible refine Kof.use hK ?_);clear hK hE K E)|((with_reducible refine W_cond (fun h=>?_) (fun h=>?_))<;>(try(exfalso;assumption)))|(((with_reducible refine G_region fun K E hK hE=>?_))<;>(try simp(disch:=omega) only[go_sem,seval,hml, *]))))
     all_goals exact⟨u,Fg.refl _,m - 1,by omega,i+1,by omega,by omega,HI2,rfl,z_sl,z_sl,z_sl,z_sl,z_sl⟩
   ·have hE:=HE.out
    have hI:=HI.out
    rw[if_neg (by
     have:x.all (mthsR x)=true:=List.all_eq_true.2 fun c hc=>by
      obtain⟨a,ha,hg⟩:=List.getElem_of_mem hc
      exact hI a c (by omega) (by rw[List.getElem?_eq_getElem ha,hg])
     rw[this];simp)]at hE
    have HE:=Lib.hid hE
    clear hE hI HI
    have hlk:=atA16_lk (x:=x) [77,97,105,110]
    have hE:=HE.out
    clear HE
    unfold mainR at hE
    cases hat:atC x [77,97,105,110]with
    |none=>
     rw[hat]at hlk hE
     simp only[Option.map_none]at hlk
     simp only[if_true]at hE
     subst hE
     clear hat HB
     (repeat'(first|refine Ctl ?_|((with_reducible refine Kof.use hK ?_);clear hK hE K E)|((with_reducible refine W_cond (fun h=>?_) (fun h=>?_))<;>(try(exfalso;assumption)))|(((with_reducible refine G_region fun K E hK hE=>?_))<;>(try simp(disch:=omega) only[go_sem,seval,hlen,hlk,Option.getD_some,Option.getD_none,Option.isSome_some,Option.isSome_none, *]))))
     all_goals(refine W_ret res60 hQ ?_)
     all_goals exact⟨_,_,Wk.refl _,hFt,fun _=>⟨rfl,rfl⟩,fun h=>absurd h (by decide)⟩
    |some k=>
     obtain⟨c,hc,_⟩:=atC_get hat
     have w1:=fun s h1 h2=>Cown_S s p bm k x c [109,97,105,110] ⟨h1,h2⟩ hc (by have:=HB.out.mths c (List.mem_of_getElem? hc);omega)
     rw[hat]at hlk hE
     simp only[Option.map_some]at hlk
     simp only[hc]at hE
     simp only[ownV_M]at w1
     clear hat hc HB
     cases ho:ownM c [109,97,105,110]with
     |none=>
      rw[ho]at w1 hE
      simp only[if_true]at w1 hE
      subst hE
      clear ho
      (repeat'(first|refine Ctl ?_|((with_reducible refine Kof.use hK ?_);clear hK hE K E)|((with_reducible refine W_cond (fun h=>?_) (fun h=>?_))<;>(try(exfalso;assumption)))|(((with_reducible first|refine G_region fun K E hK hE=>?_|refine call_ret can106 (w1 _ z_sl z_sl) ?_))<;>(try simp(disch:=omega) only[go_sem,seval,hlen,hlk,Option.getD_some,Option.getD_none,Option.isSome_some,Option.isSome_none, *]))))
      all_goals(refine W_ret res60 hQ ?_)
      all_goals exact⟨_,_,Wk.refl _,hFt,fun _=>⟨rfl,rfl⟩,fun h=>absurd h (by decide)⟩
     |some mt=>
      rw[ho]at w1 hE
      simp only at w1 hE
      clear ho
      have hpl:(mt.pars.map strC).length=mt.pars.length:=by simp
      obtain⟨ms,mn,mp,mb⟩:=mt
      simp only[mthC,strsV,stsV]at w1 hE hpl
      cases ms
      ·simp only[Bool.false_and,if_true]at hE
       subst hE
       (repeat'(first|refine Ctl ?_|((with_reducible refine Kof.use hK ?_);clear hK hE K E)|((with_reducible refine W_cond (fun h=>?_) (fun h=>?_))<;>(try(exfalso;assumption)))|(((with_reducible first|refine G_region fun K E hK hE=>?_|refine call_ret can106 (w1 _ z_sl z_sl) ?_))<;>(try simp(disch:=omega) only[go_sem,seval,hlen,hpl,hlk,Option.getD_some,Option.getD_none,Option.isSome_some,Option.isSome_none, *]))))
       all_goals(refine W_ret res60 hQ ?_)
       all_goals exact⟨_,_,Wk.refl _,hFt,fun _=>⟨rfl,rfl⟩,fun h=>absurd h (by decide)⟩
      ·have HE:=Lib.hid hE
       clear hE
       (repeat'(first|refine Ctl ?_|((with_reducible refine Kof.use hK ?_);clear hK hE K E)|((with_reducible refine W_cond (fun h=>?_) (fun h=>?_))<;>(try(exfalso;assumption)))|(((with_reducible first|refine G_region fun K E hK hE=>?_|refine call_ret can106 (w1 _ z_sl z_sl) ?_))<;>(try simp(disch:=omega) only[go_sem,seval,hlen,hpl,hlk,Option.getD_some,Option.getD_none,Option.isSome_some,Option.isSome_none, *]))))
       ·have hE:=HE.out
        rw[if_pos (by rw[Bool.true_and,decide_eq_false_iff_not];omega)]at hE
        subst hE
        all_goals(refine W_ret res60 hQ ?_)
        all_goals exact⟨_,_,Wk.refl _,hFt,fun _=>⟨rfl,rfl⟩,fun h=>absurd h (by decide)⟩
       ·have hE:=HE.out
        rw[if_neg (by rw[Bool.true_and,decide_eq_false_iff_not];omega)]at hE
        subst hE
        all_goals(refine W_ret res60 hQ ?_)
        all_goals exact⟨_,_,Wk.refl _,Fg.refl _,fun h=>absurd rfl h,fun _=>⟨p,bm,rfl,⟨k1,k2⟩,hFt⟩⟩
 ·have w0:=Cread1_S x hx h0
  have hre:=rightE_rd h0
  have hn:rightE x≠0:=by rw[hre];exact h0
  have hni:(rdE x=0)=False:=eq_false h0
  rw[hre]at hn ⊢
  generalize rdE x=e at w0 hni hn ⊢
  clear hre h0
  simp only[srcV]at w0 ⊢
  refine G_enter Tryz.func60 rfl Tryz.ntmps60 rfl fun Q hQ hQe=>?_
  (repeat'(first|refine Ctl ?_|((with_reducible refine Kof.use hK ?_);clear hK hE K E)|((with_reducible refine W_cond (fun h=>?_) (fun h=>?_))<;>(try(exfalso;assumption)))|((first|(with_reducible first|refine G_region fun K E hK hE=>?_|refine call_ret can101 (w0 _) ?_)|((with_reducible refine W_fresh (fun b hb=>?_))))<;>(try simp(disch:=omega) only[go_sem,seval, *]))))
  all_goals(refine W_ret res60 hQ ?_)
  all_goals exact⟨_,_,Wk.refl _,(z_fg:Fg _ t),fun _=>⟨rfl,rfl⟩,fun h=>absurd h hn⟩
end Go.Proofs.YtgdbgfjhenobdaaGreatDoor
namespace Go.Proofs.YtgdbgfjhenobdaaGreatDoor
open Go.RowKit
attribute [local go_sem] p_enil1 p_enil2 p_nilE one_nil
theorem Cright1_S (x:List Cls)(hx:SrcOk x)(h0:rightE x≠0)(t:St):SRet Tryz.prog 60 [srcV x] t (.tup [.raw (.pointer none),.int .i64 (rightE x)]) t:=
 (Cright_S x hx t).mono fun w u h=>h.1 h0
end Go.Proofs.YtgdbgfjhenobdaaGreatDoor
namespace Go.Proofs.YtgdbgfjhenobdaaGreatDoor
open Go.RowKit
def isA (l:List (List UInt8)):List (List UInt8×Bool):=pairsA (fun v:List UInt8=>v) (fun _ _=>true) 0 l
theorem isA_lk {l:List (List UInt8)}(n:List UInt8):(lkA n (isA l)).getD false=decide (n∈l):=by
 unfold isA
 rw[lkA_pairs,List.map_id']
 cases h:ixT n l with
 |none=>rw[decide_eq_false (ixT_none.1 h)];rfl
 |some j=>have:=List.mem_of_getElem? (ixT_lt h);simp[ixT_lt h,this]
theorem isA_new {l:List (List UInt8)}{n:List UInt8}(hn:n∉l):ptA n true (isA l)=isA (l++[n]):=by
 unfold isA
 rw[ptA_new (by rw[pairsA_keys,List.map_id'];exact hn)]
 have:∀(i:Nat) (l:List (List UInt8)),pairsA (fun v:List UInt8=>v) (fun _ _=>true) i (l++[n])=pairsA (fun v:List UInt8=>v) (fun _ _=>true) i l++[(n,true)]:=by
  intro i l
  induction l generalizing i with
  |nil=>rfl
  |cons a l ih=>simp only[List.cons_append,pairsA,ih (i+1)]
 rw[this 0 l]
abbrev rsSt:List (Nat×TypeId×Nat):=[(0,9,1)]
def Stm1 (t:St)(xb bm:Nat)(l:List (List UInt8)):St:=(t.set bm (.map (mpV encB (isA l)))).set xb (.pk 145 [.lst (strs l) .no,.mp bm] rsSt)
section
variable {t : St} {xb bm b : Nat} {l : List (List UInt8)}
theorem Stm1_at:(Stm1 t xb bm l) xb=.pk 145 [.lst (strs l) .no,.mp bm] rsSt:=St.set_same _ _ _
theorem Stm1_bm (h:¬ bm=xb):(Stm1 t xb bm l) bm=.map (mpV encB (isA l)):=by unfold Stm1;rw[St.set_other _ _ h,St.set_same]
theorem Stm1_gt (h:¬ b=xb)(h2:¬ b=bm):(Stm1 t xb bm l) b=t b:=by unfold Stm1;rw[St.set_other _ _ h,St.set_other _ _ h2]
theorem Stm1_set {c:Cell}(h:¬ b=xb)(h2:¬ b=bm):(Stm1 t xb bm l).set b c=Stm1 (t.set b c) xb bm l:=by
 funext x
 simp only[Stm1,St.set]
 by_cases h3:x=b
 ·subst h3;simp[h,h2]
 ·simp[h3]
theorem Stm1_free:((Stm1 t xb bm l) b=.free)=(¬ b=xb∧¬ xb=b∧¬ b=bm∧¬ bm=b∧t b=.free):=by
 apply propext
 unfold Stm1
 simp only[St.set]
 by_cases h1:b=xb
 ·simp[h1]
 ·have h1':¬ xb=b:=fun e=>h1 e.symm
  by_cases h2:b=bm
  ·subst h2;simp[h1,h1']
  ·have h2':¬ bm=b:=fun e=>h2 e.symm
   simp[h1,h2,h1',h2']
end
theorem Stm1_pack {B:St}{xb bm:Nat}{l:List (List UInt8)}{o:Own}{M:Cell}(n1:NotOwn o xb)(m1:NotOwn o bm)(h1:OwnOk B o l.length)(ho:Owned (((B.own o 9 1 l.length).set bm M).set xb (.pk 145 [.lst (strs l) o,.mp bm] [])) o 9 1 (strs l).length) :
  GS (((B.own o 9 1 l.length).set bm M).set xb (.pk 145 [.lst (strs l) o,.mp bm] [])) ((B.set bm M).set xb (.pk 145 [.lst (strs l) .no,.mp bm] rsSt)):=by
 have g2:=GS.pack (i:=0) (l:=strs l) (o:=o) (T':=9) (sz:=1) (rs':=rsSt) (St.set_same ((B.own o 9 1 l.length).set bm M) xb (.pk 145 [.lst (strs l) o,.mp bm] [])) rfl ho (fun r hr=>.inl (by simpa using hr))
 rw[disown_set n1,disown_set m1,disown_own h1,St.set_set]at g2
 exact g2
attribute [local go_sem] Stm1_at Stm1_bm Stm1_gt Stm1_set Stm1_free
set_option maxHeartbeats 4000000 in
theorem Cadd_S (t:St)(xb bm:Nat)(l ts:List (List UInt8))(o0:Own)(hxb:t xb=.free)(hbm:t bm=.free)(hne:¬ bm=xb)(hl:l.length≤1000000000000)(hts:ts.length≤100000) :
  SRet Tryz.prog 61 [.ptr xb 0,.lst (ts.map strC) o0] (Stm1 t xb bm l) (.tup []) (Stm1 t xb bm (addsS l ts)):=by
 have hlen:(ts.map strC).length=ts.length:=by simp
 have hne2:¬ xb=bm:=fun e=>hne e.symm
 generalize hR:addsS l ts=R
 have HR:=Lib.hid hR
 clear hR
 refine G_enter Tryz.func61 rfl Tryz.ntmps61 rfl fun Q hQ hQe=>?_
 (repeat'(first|refine Ctl ?_|((with_reducible refine Kof.use hK ?_);clear hK hE K E)|(((with_reducible refine G_region fun K E hK hE=>?_))<;>(try simp(disch:=omega) only[go_sem,seval,hlen, *]))))
 refine G_loopS (fun m env s'=>∃(i:Nat) (Y:List (List UInt8)),i≤ts.length∧m+i=ts.length∧Y.length≤l.length+i∧Hid (addsS Y (ts.drop i)=R)∧s'=Stm1 t xb bm Y∧env 0=.ptr xb 0∧env 6=.lst (ts.map strC) o0∧env 7=.int .i64 ts.length∧env 8=.int .i64 i) ts.length ?_ ?_
 ·exact⟨_,GS.refl _,0,l,by omega,by omega,by omega,HR,rfl,z_sl,z_sl,z_sl,z_sl⟩
 clear HR
 rintro m env s' ⟨i,Y,hi,hm,hYl,HR,rfl,e0,e6,e7,e8⟩
 by_cases hlt:i<ts.length
 ·obtain⟨q,hq⟩:=uget hlt
  have hqx:(ts.map strC)[i]?=some [.str q]:=by simp[strC,hq]
  have hr:=HR.out
  rw[List.drop_eq_getElem_cons hlt,show ts[i]=q by rw[List.getElem?_eq_getElem hlt]at hq;injection hq]at hr
  have hlk:=isA_lk (l:=Y) q
  unfold addsS at hr
  rw[List.foldl_cons]at hr
  clear HR hq
  by_cases hq0:q=[]
  ·rw[show addS Y q=Y by unfold addS;rw[if_pos (.inl hq0)]]at hr
   have HR2:Hid (addsS Y (ts.drop (i+1))=R):=Lib.hid hr
   subst hq0
   clear hr hlk
   (repeat'(first|refine Ctl ?_|((with_reducible refine Kof.use hK ?_);clear hK hE K E)|((with_reducible refine W_cond (fun h=>?_) (fun h=>?_))<;>(try(exfalso;assumption)))|(((with_reducible refine G_region fun K E hK hE=>?_))<;>(try simp(disch:=omega) only[go_sem,seval,hlen,hqx, *]))))
   all_goals exact⟨_,GS.refl _,m - 1,by omega,i+1,Y,by omega,by omega,by omega,HR2,rfl,z_sl,z_sl,z_sl,z_sl⟩
  ·have hqf:(q=[])=False:=eq_false hq0
   by_cases hqY:q∈Y
   ·rw[show addS Y q=Y by unfold addS;rw[if_pos (.inr hqY)]]at hr
    have HR2:Hid (addsS Y (ts.drop (i+1))=R):=Lib.hid hr
    rw[decide_eq_true hqY]at hlk
    clear hr hqY
    (repeat'(first|refine Ctl ?_|((with_reducible refine Kof.use hK ?_);clear hK hE K E)|((with_reducible refine W_cond (fun h=>?_) (fun h=>?_))<;>(try(exfalso;assumption)))|(((with_reducible refine G_region fun K E hK hE=>?_))<;>(try simp(disch:=first|assumption|omega) only[go_sem,seval,hlen,hqx,hlk, *]))))
    all_goals exact⟨_,GS.refl _,m - 1,by omega,i+1,Y,by omega,by omega,by omega,HR2,rfl,z_sl,z_sl,z_sl,z_sl⟩
   ·rw[show addS Y q=Y++[q] by unfold addS;rw[if_neg (by intro h;rcases h with h|h;exact hq0 h;exact hqY h)]]at hr
    have HR2:Hid (addsS (Y++[q]) (ts.drop (i+1))=R):=Lib.hid hr
    have HPT:=Lib.hid (isA_new hqY)
    rw[decide_eq_false hqY]at hlk
    have hcl:(strs Y).length=Y.length:=by simp[strs]
    clear hr hqY
    refine Kp_unpk xb 0 (T':=9) (sz:=1) [] Stm1_at rfl (by simp) (by simp) ?_
    intro o1 hO1 hn1
    simp only[List.set,hcl]at hO1 ⊢
    unfold Stm1 at hO1 ⊢
    rw[own_push hn1,St.set_set]
    simp only[ownok_pk,ownok_m]at hO1
    obtain⟨_,hn1m,hO1⟩:=hO1
    rw[own_push hn1m]
    (repeat'(first|refine Ctl ?_|((with_reducible refine Kof.use hK ?_);clear hK hE K E)|((with_reducible refine W_cond (fun h=>?_) (fun h=>?_))<;>(try(exfalso;assumption)))|((first|(with_reducible refine G_region fun K E hK hE=>?_)|((with_reducible refine W_app (fun o2 ho=>?_));(try simp(disch:=assumption) only[disown_set,disown_own,ownok_o,ownok_m,List.length_map,List.length_cons,List.length_nil,Nat.zero_add,hlen,hqx,hlk,hcl,ownok_pk,ownok_m,or_true,if_true]at ho);(repeat(obtain⟨_,ho⟩:=ho))))<;>(try simp(disch:=first|assumption|omega) only[go_sem,seval,hlen,hqx,hlk,hcl,ownok_pk,ownok_m,or_true,if_true, *]))))
    have hst:strs (Y++[q])=strs Y++[[.str q]]:=by simp[strs,strC]
    have hln:(Y++[q]).length=Y.length+1:=by simp
    have hg:=Stm1_pack (B:=t) (xb:=xb) (bm:=bm) (l:=Y++[q]) (o:=o2) (M:=.map (mpV encB (ptA q true (isA Y)))) (by assumption) (by assumption) (by rw[hln];assumption) (by
     rw[show (strs (Y++[q])).length=Y.length+1 by simp[strs],hln]
     simp(disch:=first|assumption|omega) only[go_sem,seval, *])
    rw[hst,hln]at hg
    rw[HPT.out]at hg ⊢
    exact⟨Stm1 t xb bm (Y++[q]),by unfold Stm1;rw[hst];exact hg,m - 1,by omega,i+1,Y++[q],by omega,by omega,by rw[hln];omega,HR2,rfl,z_sl,z_sl,z_sl,z_sl⟩
 ·have hr:=HR.out
  rw[List.drop_of_length_le (by omega)]at hr
  obtain rfl:Y=R:=hr
  clear HR
  (repeat'(first|refine Ctl ?_|((with_reducible refine Kof.use hK ?_);clear hK hE K E)|((with_reducible refine W_cond (fun h=>?_) (fun h=>?_))<;>(try(exfalso;assumption)))|(((with_reducible refine G_region fun K E hK hE=>?_))<;>(try simp(disch:=omega) only[go_sem,seval,hlen, *]))))
  all_goals(refine W_norm res61 hQ ?_)
  all_goals(refine⟨_,_,Wk.of_eq ?_,?_,rfl,rfl⟩)
  all_goals first|rfl|(exact z_fg)
end Go.Proofs.YtgdbgfjhenobdaaGreatDoor
