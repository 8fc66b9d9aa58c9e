/- Walks of functions that the claim reaches, and plain facts of them. Conditions: those in the statements. -/
import Derived.Test.YtndlnadbnganeaaGreatDoorJnVgj
import Derived.Test.YtndlnadbnganeaaGreatDoorJnPkj
set_option linter.unusedSimpArgs false
set_option linter.unusedVariables false
set_option maxRecDepth 100000
namespace Go.Proofs.YtndlnadbnganeaaGreatDoor
open Go.RowKit
attribute [-go_sem] p_and p_or p_shl p_shr
theorem gsF_ok {ds:List Dm}:∀{ps:List (List UInt8)} {O:List (List Nat)} {sn:List Nat} {r:List (List Nat)×List Nat},gsF ds ps O sn=some r→(∀p,p∈ps→p.length≤10000)→SnOk ds.length sn→(∀g,g∈O→g.length≤10001∧∀k,k∈g→k<ds.length)→r.1.length=O.length+ps.length∧∀g,g∈r.1→g.length≤10001∧∀k,k∈g→k<ds.length
 |[],O,sn,r,h,_,_,h2=>by
  simp only[gsF,Option.some.injEq]at h
  subst h
  exact⟨rfl,h2⟩
 |p::ps,O,sn,r,h,hp,h1,h2=>by
  simp only[gsF]at h
  cases hg:grpF ds (splitC 42 p) [] sn with
  |none=>rw[hg]at h;cases h
  |some q=>
   rw[hg]at h
   obtain⟨l,sn'⟩:=q
   dsimp only at h
   obtain⟨a1,a2,a3⟩:=grpF_ok hg h1 (fun k hk=>by cases hk)
   dsimp only at a1 a2 a3
   have hl:=splitC_len 42 p
   have hpl:=hp p (List.mem_cons_self ..)
   have:=gsF_ok h (fun q hq=>hp q (List.mem_cons_of_mem _ hq)) a1 (fun g hg=>by
    rcases List.mem_append.1 hg with hg|hg
    ·exact h2 g hg
    ·rw[List.mem_singleton]at hg
     subst hg
     refine⟨by rw[a3];simp only[List.length_nil];omega,a2⟩)
   refine⟨by rw[this.1];simp;omega,this.2⟩
theorem gsOut_ok {ds:List Dm}{od:List UInt8}(hod:od.length≤10000):(gsOut ds od).length≤10001∧∀g,g∈gsOut ds od→g.length≤10001∧∀k,k∈g→k<ds.length:=by
 unfold gsOut
 split
 ·exact⟨by simp,fun g hg=>by cases hg⟩
 ·cases h:gsF ds (splitC 95 od) [] []with
  |none=>exact⟨by simp,fun g hg=>by cases hg⟩
  |some r=>
   have:=gsF_ok h (fun p hp=>by have:=splitC_memD hp;omega) ⟨by simp,by simp⟩ (fun g hg=>by cases hg)
   have hl:=splitC_len 95 od
   exact⟨by dsimp only;rw[this.1];simp only[List.length_nil];omega,this.2⟩
def hiC (H:List (List Nat)):List VV:=H.map fun r=>.lst (natsL r) .no
theorem hiC_len {H:List (List Nat)}:(hiC H).length=H.length:=by simp[hiC]
theorem hiC_at {H:List (List Nat)}{k:Nat}{r:List Nat}(h:H[k]?=some r):(hiC H)[k]?=some (.lst (natsL r) .no):=by simp[hiC,h]
theorem hi_start {s:St}{b:Nat}{n:Nat}:GS (s.set b (.obj 34 (List.replicate n (.lst [] .full)))) (s.set b (.obj 34 (hiC (List.replicate n [])))):=by
 have h:=GS.wkc (s:=s.set b (.obj 34 (List.replicate n (.lst [] .full)))) (b:=b) (cs':=hiC (List.replicate n [])) (St.set_same _ _ _) (by simp[hiC]) (fun i y hy=>by
  simp only[hiC,List.map_replicate,List.getElem?_replicate]at hy ⊢
  split at hy
  ·injection hy with hy
   subst hy
   exact⟨.lst [] .full,by rw[if_pos (by assumption)],show Wk (.lst [] .full) (.lst [] .no) from Wk.lst _ _,rfl⟩
  ·cases hy)
 rwa [St.set_set]at h
theorem hi_put {s:St}{b k:Nat}{H:List (List Nat)}{r:List Nat}{ow:Own}(hb:s b=.obj 34 (splice (hiC H) k [.lst (natsL r) ow]))(hk:k<H.length):GS s (s.set b (.obj 34 (hiC (H.set k r)))):=by
 have hsp:splice (hiC H) k [VV.lst (natsL r) ow]=(hiC H).set k (.lst (natsL r) ow):=by
  rw[splice,List.set_eq_take_append_cons_drop,if_pos (by rw[hiC_len];exact hk)]
  simp
 rw[hsp]at hb
 refine GS.wkc hb (by simp[hiC]) fun i y hy=>?_
 simp only[hiC,List.getElem?_map,List.getElem?_set]at hy ⊢
 by_cases e:k=i
 ·subst e
  rw[if_pos rfl,if_pos hk]at hy
  simp only[Option.map_some,Option.some.injEq]at hy
  subst hy
  refine⟨.lst (natsL r) ow,?_,Wk.lst _ _,rfl⟩
  rw[if_pos rfl,if_pos (by simpa using hk)]
 ·rw[if_neg e]at hy
  rw[if_neg e]
  exact⟨y,hy,Wk.refl _,by
   obtain⟨q,hq,rfl⟩:=Option.map_eq_some_iff.1 hy
   rfl⟩
@[irreducible] def plB (i lv j:Nat):Nat:=i * 620062+lv * 10001+j
theorem plB_le {i lv j:Nat}(h1:i≤10001)(h2:lv≤62)(h3:j≤10001):plB i lv j≤7000000000:=by unfold plB;omega
theorem plB_j {i lv j:Nat}:plB i lv (j+1)=plB i lv j+1:=by unfold plB;omega
theorem plB_lv {i lv j:Nat}(h:j≤10001):plB i lv j≤plB i (lv+1) 0:=by unfold plB;omega
theorem plB_i {i:Nat}:plB i 62 0≤plB (i+1) 0 0:=by unfold plB;omega
def plE (ds:List Dm)(od:List UInt8):Int:=if mayDs ds=true then if okG ds od=true then 0 else 70 else 1
attribute [local go_sem] disown_fl owned_fl own_fl
set_option maxHeartbeats 16000000 in
theorem DPlace_S (s:St)(ds:List Dm)(ow:Own)(od:List UInt8)(hl:ds.length≤1000000)(hnl:∀d,d∈ds→d.1.length≤1000000000)(hod:od.length≤10000) :
  SCalls Tryz.prog 26 [.lst (domsI ds) ow,.str od] s fun w u=>∃a:List (List VV),w=.ret (.tup [.lst a .no,.int .i64 (plE ds od)])∧u=s∧True:=by
 have wm:=fun s=>DMay_S s ds ow hl hnl
 unfold plE
 cases hm:mayDs ds with
 |false=>
  rw[hm]at wm
  clear hm hnl
  generalize domsI ds=D at *
  refine G_enter Tryz.func26 rfl Tryz.ntmps26 rfl fun Q hQ hQe=>?_
  (repeat'(first|refine Ctl ?_|((with_reducible refine Kof.use hK ?_);clear hK hE K E)|((with_reducible refine W_cond (fun h=>?_) (fun h=>?_))<;>(try(exfalso;assumption)))|(((with_reducible first|refine G_region fun K E hK hE=>?_|refine call_ret can50 (wm _) ?_))<;>(try simp(disch:=omega) only[go_sem,seval, *]))))
  all_goals(refine W_ret res26 hQ ?_)
  all_goals exact⟨_,_,Wk.tupQ,Fg.refl _,[],rfl,rfl,trivial⟩
 |true=>
  rw[hm]at wm
  have hok:okDs [] ds=true:=by unfold mayDs at hm;rw[Bool.and_eq_true]at hm;exact hm.1
  have hlen:ds.length≤32:=by
   unfold mayDs at hm
   simp only[Bool.and_eq_true,decide_eq_true_eq]at hm
   exact hm.2.2
  have wg:=fun s=>DGroups_S s ds ow od hlen hod
  obtain⟨hG1,hG2⟩:=gsOut_ok (ds:=ds) hod
  have hlD:=domsI_len (ds:=ds)
  have hrow:∀i,i<ds.length→∃nm:List UInt8,∃z:Nat,(domsI ds)[i]?=some [.str nm,.int .i64 (z:Int)]∧1≤z∧z≤1073741824:=fun i hi=>by
   have h1:=List.getElem?_eq_getElem hi
   have h2:=okDs_size hok _ (List.mem_of_getElem? h1)
   have h4:=domsI_at h1
   generalize ds[i]=d at *
   obtain⟨nm,sz⟩:=d
   dsimp only at h2 h4
   obtain⟨z,rfl⟩:∃z:Nat,sz=(z:Int):=⟨sz.toNat,by omega⟩
   exact⟨nm,z,h4,by omega,by omega⟩
  have HROW:=Lib.hid hrow
  have HG2:=Lib.hid hG2
  clear hm hnl hok hrow hG2
  rw[if_pos rfl]
  cases hgo:okG ds od with
  |false=>
   rw[hgo]at wg
   clear hgo
   generalize domsI ds=D at *
   generalize atC (gsOut ds od)=AG at *
   refine G_enter Tryz.func26 rfl Tryz.ntmps26 rfl fun Q hQ hQe=>?_
   (repeat'(first|refine Ctl ?_|((with_reducible refine Kof.use hK ?_);clear hK hE K E)|((with_reducible refine W_cond (fun h=>?_) (fun h=>?_))<;>(try(exfalso;assumption)))|(((with_reducible first|refine G_region fun K E hK hE=>?_|refine call_ret can50 (wm _) ?_|refine call_ret can51 (wg _) ?_))<;>(try simp(disch:=omega) only[go_sem,seval, *]))))
   all_goals(refine W_ret res26 hQ ?_)
   all_goals exact⟨_,_,Wk.tupQ,Fg.refl _,[],rfl,rfl,trivial⟩
  |true=>
   rw[hgo,]at wg
   rw[if_pos rfl]
   clear hgo
   have hGa:∀(i:Nat) (g:List Nat),(gsOut ds od)[i]?=some g→(atC (gsOut ds od))[i]?=some [.lst (natsL g) .no]:=fun i g h=>atC_at h
   have hGl:(atC (gsOut ds od)).length=(gsOut ds od).length:=atC_len
   have HGA:=Lib.hid hGa
   clear hGa
   generalize domsI ds=D at *
   generalize gsOut ds od=G at *
   generalize atC G=AG at *
   generalize ds.length=n at *
   refine G_enter Tryz.func26 rfl Tryz.ntmps26 rfl fun Q hQ hQe=>?_
   (repeat'(first|(with_reducible refine Kp_atQ 7 ?_)|refine Ctl ?_|((with_reducible refine Kof.use hK ?_);clear hK hE K E)|((with_reducible refine W_cond (fun h=>?_) (fun h=>?_))<;>(try(exfalso;assumption)))|((first|(with_reducible first|refine G_region fun K E hK hE=>?_|refine call_ret can50 (wm _) ?_|refine call_ret can51 (wg _) ?_|refine W_and ?_)|((with_reducible refine W_fresh (fun b hb=>?_))))<;>(try simp(disch:=omega) only[go_sem,seval,hlD, *]))))
   unfold StopQ
   obtain⟨bh,hbh⟩:∃z,z=b:=⟨_,rfl⟩
   subst hbh
   refine Kp_gs hi_start ?_
   have HB:=Lib.hid hb
   clear wm wg hb
   have hH0:Hid ((List.replicate n ([]:List Nat)).length=n∧∀r,r∈List.replicate n ([]:List Nat)→r.length≤0):=Lib.hid ⟨by simp,fun r hr=>by rw[(List.mem_replicate.1 hr).2];simp⟩
   (repeat'(first|refine Ctl ?_|((with_reducible refine Kof.use hK ?_);clear hK hE K E)|(((with_reducible refine G_region fun K E hK hE=>?_))<;>(try simp(disch:=omega) only[go_sem,seval, *]))))
   refine G_loop (fun m env s'=>∃(i nx:Nat) (H:List (List Nat)),i≤G.length∧m+i=G.length∧nx≤plB i 0 0∧Hid (H.length=n∧∀r,r∈H→r.length≤nx)∧s'=s.set bh (.obj 34 (hiC H))∧env 0=.lst D ow∧env 6=.lst AG .no∧env 8=.msl bh n∧env 9=.int .i64 nx∧env 10=.int .i64 i) G.length ?_ ?_
   ·exact⟨_,Fg.refl _,0,0,List.replicate n [],by omega,by omega,Nat.zero_le _,hH0,rfl,z_sl,z_sl,z_sl,z_sl,z_sl⟩
   clear hH0
   rintro m env s' ⟨i,nx,H,hi,hmi,hnx,HH,rfl,e0,e6,e8,e9,e10⟩
   by_cases h1:i<G.length
   ·obtain⟨g,hg⟩:∃g,G[i]?=some g:=⟨_,List.getElem?_eq_getElem h1⟩
    have hx:=HGA.out i g hg
    obtain⟨g1,g2⟩:=HG2.out g (List.mem_of_getElem? hg)
    have HGG:=Lib.hid g2
    have hgl:(natsL g).length=g.length:=natsL_len
    clear hg g2
    (repeat'(first|refine Ctl ?_|((with_reducible refine Kof.use hK ?_);clear hK hE K E)|((with_reducible refine W_cond (fun h=>?_) (fun h=>?_))<;>(try(exfalso;assumption)))|(((with_reducible refine G_region fun K E hK hE=>?_))<;>(try simp(disch:=omega) only[go_sem,seval,hGl, *]))))
    refine G_loop (fun m2 env s2=>∃(lv nx2:Nat) (H2:List (List Nat)),lv≤62∧m2+lv=62∧nx2≤plB i lv 0∧Hid (H2.length=n∧∀r,r∈H2→r.length≤nx2)∧s2=s.set bh (.obj 34 (hiC H2))∧env 0=.lst D ow∧env 6=.lst AG .no∧env 8=.msl bh n∧env 9=.int .i64 nx2∧env 10=.int .i64 i∧env 11=.int .i64 lv) 62 ?_ ?_
    ·exact⟨_,Fg.refl _,0,nx,H,by omega,by omega,hnx,HH,rfl,z_sl,z_sl,z_sl,z_sl,z_sl,z_sl⟩
    clear e0 e6 e8 e9 e10 HH hnx
    rintro m2 env s2 ⟨lv,nx2,H2,hlv,hm2,hnx,HH,rfl,e0,e6,e8,e9,e10,e11⟩
    by_cases h2:lv<62
    ·(repeat'(first|refine Ctl ?_|((with_reducible refine Kof.use hK ?_);clear hK hE K E)|((with_reducible refine W_cond (fun h=>?_) (fun h=>?_))<;>(try(exfalso;omega)))|(((with_reducible refine G_region fun K E hK hE=>?_))<;>(try simp(disch:=omega) only[go_sem,seval, *]))))
     refine G_loop (fun m3 env s3=>∃(j nx3:Nat) (H3:List (List Nat)),j≤g.length∧m3+j=g.length∧nx3≤plB i lv j∧Hid (H3.length=n∧∀r,r∈H3→r.length≤nx3)∧s3=s.set bh (.obj 34 (hiC H3))∧env 0=.lst D ow∧env 6=.lst AG .no∧env 8=.msl bh n∧env 9=.int .i64 nx3∧env 10=.int .i64 i∧env 11=.int .i64 lv∧env 12=.int .i64 j) g.length ?_ ?_
     ·exact⟨_,Fg.refl _,0,nx2,H2,by omega,by omega,hnx,HH,rfl,z_sl,z_sl,z_sl,z_sl,z_sl,z_sl,z_sl⟩
     clear e0 e6 e8 e9 e10 e11 HH hnx
     rintro m3 env s3 ⟨j,nx3,H3,hj,hm3,hnx,HH,rfl,e0,e6,e8,e9,e10,e11,e12⟩
     by_cases h3:j<g.length
     ·obtain⟨k,hk⟩:∃k,g[j]?=some k:=⟨_,List.getElem?_eq_getElem h3⟩
      have hxk:=natsL_at hk
      have hkn:=HGG.out k (List.mem_of_getElem? hk)
      obtain⟨nm,z,hxd,hz1,hz2⟩:=HROW.out k hkn
      have ww:=fun s=>Dwidth_S s nm z hz1 hz2
      by_cases h4:lv<widthN z
      ·obtain⟨r,hr⟩:∃r,H3[k]?=some r:=⟨_,List.getElem?_eq_getElem (by rw[HH.out.1];exact hkn)⟩
       have hxr:=hiC_at hr
       have hrl:=HH.out.2 r (List.mem_of_getElem? hr)
       have hHl:(hiC H3).length=n:=by rw[hiC_len,HH.out.1]
       have hrn:(natsL r).length=r.length:=natsL_len
       have hry:∀y,y∈natsL r→y.length=1:=fun y hy=>by obtain⟨q,_,rfl⟩:=List.mem_map.1 hy;rfl
       have hb3:=plB_le (i:=i) (lv:=lv) (j:=j) (by omega) (by omega) (by omega)
       obtain⟨U,hU⟩:∃U,U=s.set bh (.obj 34 (hiC H3)):=⟨_,rfl⟩
       rw[← hU]
       have hUb:U bh=.obj 34 (hiC H3):=by rw[hU,St.set_same]
       have hUl:U bh≠.free:=by rw[hUb];simp
       have HU:=Lib.hid hU
       generalize widthN z=wz at *
       generalize hHC:hiC H3=HC at *
       have HHC:=Lib.hid hHC
       clear hk hU hHC
       (repeat'(first|(with_reducible refine Kp_atQ 22 ?_)|refine Ctl ?_|((with_reducible refine Kof.use hK ?_);clear hK hE K E)|((with_reducible refine W_cond (fun h=>?_) (fun h=>?_))<;>(try(exfalso;assumption)))|((first|(with_reducible first|refine G_region fun K E hK hE=>?_|refine call_ret can52 (ww _) ?_|refine W_if ?_|refine W_ifS ?_)|((with_reducible refine W_app (fun o2 ho=>?_));(try simp(disch:=assumption) only[disown_set,disown_own,ownok_o,ownok_m,List.length_map,List.length_cons,List.length_nil,Nat.zero_add,hGl,hx,hgl,hxk,hxd,hxr,hHl,hrn,List.nil_append]at ho);(try((try simp only[disown_fl]at ho);have hno:=ho.not hUl))))<;>(try simp(disch:=first|assumption|omega) only[go_sem,seval,hGl,hx,hgl,hxk,hxd,hxr,hHl,hrn,List.nil_append, *]))))
       unfold StopQ
       have hnn:natsL (r++[nx3])=natsL r++[[.int .i64 (nx3:Int)]]:=natsL_add
       have hput:=hi_put (s:=(U.own o2 3 1 (r.length+1)).set bh (.obj 34 (List.take k HC++[.lst (natsL r++[[.int .i64 (nx3:Int)]]) o2]++List.drop (k+1) HC))) (b:=bh) (k:=k) (H:=H3) (r:=r++[nx3]) (ow:=o2) (by rw[St.set_same,← HHC.out,hnn];rfl) (by rw[HH.out.1];exact hkn)
       refine Kp_gs hput ?_
       rw[St.set_set]
       have hfg:=(Fg.own (T:=3) (sz:=1) (n:=r.length+1) ho).set bh (.obj 34 (hiC (H3.set k (r++[nx3]))))
       conv at hfg=>rhs;rw[HU.out,St.set_set]
       refine Kp_forget hfg ?_
       have HN:Hid ((H3.set k (r++[nx3])).length=n∧∀q,q∈H3.set k (r++[nx3])→q.length≤nx3+1):=Lib.hid ⟨by rw[List.length_set];exact HH.out.1,fun q hq=>by
        rcases List.mem_or_eq_of_mem_set hq with h|h
        ·have:=HH.out.2 q h;omega
        ·subst h;rw[List.length_append];simp;omega⟩
       have hj1:nx3+1≤plB i lv (j+1):=by rw[plB_j];omega
       have HJ1:=Lib.hid hj1
       have hb4:nx3≤7000000000:=by omega
       clear hput hfg hnn hj1 hrl hry hrn hxr hHl hb3 ho hno HH hUb hUl
       generalize H3.set k (r++[nx3])=H4 at *
       (repeat'(first|refine Ctl ?_|((with_reducible refine Kof.use hK ?_);clear hK hE K E)|(((with_reducible refine G_region fun K E hK hE=>?_))<;>(try simp(disch:=omega) only[go_sem,seval, *]))))
       all_goals exact⟨_,Fg.refl _,m3 - 1,by omega,j+1,nx3+1,H4,by omega,by omega,HJ1.out,HN,rfl,z_sl,z_sl,z_sl,z_sl,z_sl,z_sl,z_sl⟩
      ·have hj1:nx3≤plB i lv (j+1):=by rw[plB_j];omega
       have HJ1:=Lib.hid hj1
       generalize widthN z=wz at *
       clear hk hj1
       (repeat'(first|refine Ctl ?_|((with_reducible refine Kof.use hK ?_);clear hK hE K E)|((with_reducible refine W_cond (fun h=>?_) (fun h=>?_))<;>(try(exfalso;assumption)))|(((with_reducible first|refine G_region fun K E hK hE=>?_|refine call_ret can52 (ww _) ?_))<;>(try simp(disch:=omega) only[go_sem,seval,hGl,hx,hgl,hxk,hxd, *]))))
       all_goals exact⟨_,Fg.refl _,m3 - 1,by omega,j+1,nx3,H3,by omega,by omega,HJ1.out,HH,rfl,z_sl,z_sl,z_sl,z_sl,z_sl,z_sl,z_sl⟩
     ·have hj1:nx3≤plB i (lv+1) 0:=Nat.le_trans hnx (plB_lv (by omega))
      have HJ1:=Lib.hid hj1
      clear hj1
      (repeat'(first|refine Ctl ?_|((with_reducible refine Kof.use hK ?_);clear hK hE K E)|((with_reducible refine W_cond (fun h=>?_) (fun h=>?_))<;>(try(exfalso;assumption)))|(((with_reducible refine G_region fun K E hK hE=>?_))<;>(try simp(disch:=omega) only[go_sem,seval,hGl,hx,hgl, *]))))
      all_goals exact⟨_,Fg.refl _,m2 - 1,by omega,lv+1,nx3,H3,by omega,by omega,HJ1.out,HH,rfl,z_sl,z_sl,z_sl,z_sl,z_sl,z_sl⟩
    ·have hlv2:lv=62:=by omega
     have hj1:nx2≤plB (i+1) 0 0:=Nat.le_trans (by rw[hlv2]at hnx;exact hnx) plB_i
     have HJ1:=Lib.hid hj1
     clear hj1 hlv2
     (repeat'(first|refine Ctl ?_|((with_reducible refine Kof.use hK ?_);clear hK hE K E)|((with_reducible refine W_cond (fun h=>?_) (fun h=>?_))<;>(try(exfalso;omega)))|(((with_reducible refine G_region fun K E hK hE=>?_))<;>(try simp(disch:=omega) only[go_sem,seval, *]))))
     all_goals exact⟨_,Fg.refl _,m - 1,by omega,i+1,nx2,H2,by omega,by omega,HJ1.out,HH,rfl,z_sl,z_sl,z_sl,z_sl,z_sl⟩
   ·have hb3:=plB_le (i:=i) (lv:=0) (j:=0) (by omega) (by omega) (by omega)
    obtain⟨S,hS⟩:∃S,S=s.set bh (.obj 34 (hiC H)):=⟨_,rfl⟩
    rw[← hS]
    have hSb:S bh=.obj 34 (hiC H):=by rw[hS,St.set_same]
    have hSl:S bh≠.free:=by rw[hSb];simp
    have hFS:Hid (Fg S s):=Lib.hid (by rw[hS];exact Fg.of_set _ HB.out)
    have hHa:∀(i:Nat) (r:List Nat),H[i]?=some r→(hiC H)[i]?=some (.lst (natsL r) .no):=fun i r h=>hiC_at h
    have HHA:=Lib.hid hHa
    have hHl:(hiC H).length=n:=by rw[hiC_len,HH.out.1]
    have hat0:atC []=[]:=rfl
    clear hS hHa
    generalize hiC H=HC at *
    (repeat'(first|refine Ctl ?_|((with_reducible refine Kof.use hK ?_);clear hK hE K E)|((with_reducible refine W_cond (fun h=>?_) (fun h=>?_))<;>(try(exfalso;assumption)))|(((with_reducible refine G_region fun K E hK hE=>?_))<;>(try simp(disch:=omega) only[go_sem,seval,hGl, *]))))
    refine G_loop (fun m env s'=>∃(i:Nat) (Q:List (List Nat)) (o:Own),i≤n∧m+i=n∧Q.length=i∧OwnOk S o i∧s'=S.own o 34 1 i∧env 8=.msl bh n∧env 15=.lst (atC Q) o∧env 16=.int .i64 i) n ?_ ?_
    ·exact⟨_,Fg.refl _,0,[],.full,by omega,by omega,rfl,rfl,rfl,z_sl,by(rw[hat0];((try simp(disch:=assumption) only[go_sem,seval, *])<;>rfl)),z_sl⟩
    clear e0 e6 e8 e9 e10 hat0
    rintro m env s' ⟨i,Q,o,hi,hmi,hQl,hO,rfl,e8,e15,e16⟩
    by_cases h5:i<n
    ·obtain⟨r,hr⟩:∃r,H[i]?=some r:=⟨_,List.getElem?_eq_getElem (by rw[HH.out.1];exact h5)⟩
     have hxr:=HHA.out i r hr
     have hrl:=HH.out.2 r (List.mem_of_getElem? hr)
     have hrn:(natsL r).length=r.length:=natsL_len
     have hra:∀(p q:Nat),r[p]?=some q→(natsL r)[p]?=some [VV.int .i64 (q:Int)]:=fun p q h=>natsL_at h
     have HRA:=Lib.hid hra
     obtain⟨B,hB⟩:∃B,B=S.own o 34 1 i:=⟨_,rfl⟩
     rw[← hB]
     have hBb:B bh=.obj 34 HC:=by
      rw[hB]
      rcases Fg.own (T:=34) (sz:=1) (n:=i) hO bh with e|e
      ·exact absurd e hSl
      ·rw[← e,hSb]
     have hBl:B bh≠.free:=by rw[hBb];simp
     have HBB:=Lib.hid hB
     have HO:=Lib.hid (And.intro hO hQl)
     have hwr:IntKind.i64.wrap ((r.length:Int) - 1)=(r.length:Int) - 1:=wrap_i64 (by omega) (by omega)
     have hn0:natsL []=[]:=rfl
     clear hr hra hB hO hQl
     generalize hNR:natsL r=NR at *
     clear hNR
     generalize hAQ:atC Q=AQ at *
     have HAQ:=Lib.hid hAQ
     clear hAQ
     (repeat'(first|refine Ctl ?_|((with_reducible refine Kof.use hK ?_);clear hK hE K E)|((with_reducible refine W_cond (fun h=>?_) (fun h=>?_))<;>(try(exfalso;assumption)))|(((with_reducible first|refine G_region fun K E hK hE=>?_|refine W_if ?_))<;>(try simp(disch:=omega) only[go_sem,seval,hHl,hxr,hrn,hwr, *]))))
     refine G_loop (fun m2 env s2=>∃(L:List Nat) (o1:Own),L.length+m2=r.length∧OwnOk B o1 L.length∧s2=B.own o1 3 1 L.length∧env 8=.msl bh n∧env 15=.lst AQ o∧env 16=.int .i64 i∧env 17=.lst (natsL L) o1∧env 18=.int .i64 ((m2:Int) - 1)) r.length ?_ ?_
     ·exact⟨_,Fg.refl _,[],.full,by simp,rfl,rfl,z_sl,z_sl,z_sl,by(rw[hn0];((try simp(disch:=assumption) only[go_sem,seval, *])<;>rfl)),z_sl⟩
     clear e8 e15 e16 hn0
     rintro m2 env s2 ⟨L,o1,hLm,hO1,rfl,e8,e15,e16,e17,e18⟩
     have p2:=hO1.not hBl
     cases m2 with
     |succ p=>
      obtain⟨q,hq⟩:∃q,r[p]?=some q:=⟨_,List.getElem?_eq_getElem (by omega)⟩
      have hxq:=HRA.out p q hq
      have e:(((p+1:Nat):Int) - 1)=(p:Int):=by omega
      rw[e]at e18
      have hLn:(natsL L).length=L.length:=natsL_len
      have hLa:natsL (L++[q])=natsL L++[[.int .i64 (q:Int)]]:=natsL_add
      have HLA:=Lib.hid (And.intro hLa (show (L++[q]).length=L.length+1 by simp))
      have hc0:(0:Int)≤(p:Int):=by omega
      clear hq e hLa
      generalize natsL L=NL at *
      generalize hll:L.length=ll at *
      have HLL:=Lib.hid hll
      clear hll
      (repeat'(first|refine Ctl ?_|((with_reducible refine Kof.use hK ?_);clear hK hE K E)|((with_reducible refine W_cond (fun h=>?_) (fun h=>?_))<;>(try(exfalso;assumption)))|((first|(with_reducible first|refine G_region fun K E hK hE=>?_|refine W_if ?_)|((with_reducible refine W_app (fun o2 ho=>?_));(try simp(disch:=assumption) only[disown_set,disown_own,ownok_o,ownok_m,List.length_map,List.length_cons,List.length_nil,Nat.zero_add,hHl,hxr,hxq,hLn]at ho)))<;>(try simp(disch:=first|assumption|omega) only[go_sem,seval,hHl,hxr,hxq,hLn, *]))))
      all_goals exact⟨_,Fg.refl _,p,by omega,L++[q],o2,by rw[HLA.out.2];omega,by rw[HLA.out.2];exact ho,by rw[HLA.out.2],z_sl,z_sl,z_sl,by(rw[HLA.out.1];((try simp(disch:=assumption) only[go_sem,seval, *])<;>rfl)),z_sl⟩
     |zero=>
      have e:(((0:Nat):Int) - 1)=-1:=rfl
      rw[e]at e18
      (repeat'(first|(with_reducible refine Kp_atQ 32 ?_)|refine Ctl ?_|((with_reducible refine Kof.use hK ?_);clear hK hE K E)|((with_reducible refine W_cond (fun h=>?_) (fun h=>?_))<;>(try(exfalso;assumption)))|(((with_reducible refine G_region fun K E hK hE=>?_))<;>(try simp(disch:=omega) only[go_sem,seval,hHl, *]))))
      unfold StopQ
      refine Kp_wkt 17 (x:=.lst (natsL L) o1) (y:=.lst (natsL L) .no) (z_sl) (Wk.lst _ _) ?_
      refine Kp_forget (s':=B) (Fg.own hO1) ?_
      rw[HBB.out]
      obtain⟨hO,hQl⟩:=HO.out
      have hat:atC (Q++[L])=AQ++[[.lst (natsL L) .no]]:=by rw[← HAQ.out];simp[atC]
      have hAl:AQ.length=i:=by rw[← HAQ.out,atC_len,hQl]
      have HAT:=Lib.hid (And.intro hat (show (Q++[L]).length=i+1 by simp;omega))
      clear hat hQl hO1 p2 hBb hBl
      generalize natsL L=NL at *
      (repeat'(first|refine Ctl ?_|((with_reducible refine Kof.use hK ?_);clear hK hE K E)|((first|(with_reducible refine G_region fun K E hK hE=>?_)|((with_reducible refine W_app (fun o2 ho=>?_));(try simp(disch:=assumption) only[disown_set,disown_own,ownok_o,ownok_m,List.length_map,List.length_cons,List.length_nil,Nat.zero_add,hAl]at ho)))<;>(try simp(disch:=first|assumption|omega) only[go_sem,seval,hAl, *]))))
      all_goals exact⟨_,Fg.refl _,m - 1,by omega,i+1,Q++[L],o2,by omega,by omega,HAT.out.2,ho,rfl,z_sl,by(rw[HAT.out.1];((try simp(disch:=assumption) only[go_sem,seval, *])<;>rfl)),z_sl⟩
    ·have HF:Hid (Fg (S.own o 34 1 i) s):=Lib.hid fun z=>by
      by_cases hz:s z=.free
      ·exact .inl hz
      ·have h6:=hFS.out z
       have h7:=Fg.own (T:=34) (sz:=1) (n:=i) hO z
       rcases h6 with h6|h6
       ·exact absurd h6 hz
       ·rcases h7 with h7|h7
        ·rw[h7]at h6;exact absurd h6 hz
        ·exact .inr (h6.trans h7)
     generalize atC Q=AQ at *
     (repeat'(first|refine Ctl ?_|((with_reducible refine Kof.use hK ?_);clear hK hE K E)|((with_reducible refine W_cond (fun h=>?_) (fun h=>?_))<;>(try(exfalso;assumption)))|(((with_reducible refine G_region fun K E hK hE=>?_))<;>(try simp(disch:=omega) only[go_sem,seval,hHl, *]))))
     all_goals(refine W_ret res26 hQ ?_)
     all_goals exact⟨_,_,Wk.tupQ,HF.out,AQ,rfl,rfl,trivial⟩
end Go.Proofs.YtndlnadbnganeaaGreatDoor
namespace Go.Proofs.YtndlnadbnganeaaGreatDoor
open Go.RowKit
theorem OpFC.congr {f:FuncId}{xs:List VV}{s:St}{K:OB}{n B N:Nat}{ns:List Tr}{g g':(Nat→Bool)→Bool}(h:OpFC f xs s K n B ns N g)(hg:∀x,g x=g' x):OpFC f xs s K n B ns N g':=by
 rw[← funext hg];exact h
def szD (x y:Nat):Nat→Nat
 |2=>1+y
 |_=>1+x
theorem dsT_at {x y d:Nat}(h:d<3):(dsT x y)[d]?=some ([65+UInt8.ofNat d],szD x y d):=by
 match d,h with
 |0,_=>rfl
 |1,_=>rfl
 |2,_=>rfl
structure Law (s u:St) (K:OB) (q c:Nat) (ns:List Tr) (x y:Nat) (o:List (List Nat)) (N:Nat):Prop where
 C:CMem u K q c 12 16384 ns (dsT x y) o
 D:DOk 12 (dsT x y) o
 L:o.map (·.length)=[widthN (1+x),widthN (1+x),widthN (1+y)]
 xy:x<16∧y<16
 n:CntN ns N
 fr:∀z,s z≠.free→u z=s z∧¬ K.has z
theorem Law.of {s:St}{x y:Nat}{z:BegA}(h:ThreeR s x y z)(hx:x<16)(hy:y<16):∃o,Law s z.1 z.2.1 z.2.2.1 z.2.2.2 [.lf false,.lf true] x y o 2:=by
 obtain⟨o,hD,hL,hC,hF⟩:=h
 exact⟨o,hC,hD,hL,⟨hx,hy⟩,⟨_,Nat.le_refl _,fun t h=>h⟩,hF⟩
section
variable {s u : St} {K : OB} {q c : Nat} {ns : List Tr} {x y : Nat} {o : List (List Nat)} {N : Nat}
theorem Law.step (h:Law s u K q c ns x y o N){N':Nat}{g:(Nat→Bool)→Bool}{a:IteA}(k:OpF u K 12 16384 ns N' g a):Law s a.1 a.2.1 q c a.2.2 x y o N':=
 ⟨h.C.keep k.m k.k,h.D,h.L,h.xy,k.cnt,fun z hz=>by
  obtain⟨e1,e2⟩:=h.fr z hz
  refine⟨by rw[← e1];exact k.k.out z (by rw[e1];exact hz) e2,fun e3=>?_⟩
  rcases k.k.nw z e3 with e|e
  ·exact e2 e
  ·rw[e1]at e;exact hz e⟩
theorem Law.more (h:Law s u K q c ns x y o N){u':St}(hk:∀z,u z≠.free→u' z=u z):Law s u' K q c ns x y o N:=by
 obtain⟨n1,n2,n3,n4⟩:=h.C.nq
 refine⟨⟨h.C.om.keep fun z hz=>hk z (h.C.om.live hz),(hk _ n3).trans h.C.qo,(hk _ n4).trans h.C.co⟩,h.D,h.L,h.xy,h.n,fun z hz=>?_⟩
 obtain⟨e1,e2⟩:=h.fr z hz
 exact⟨(hk z (by rw[e1];exact hz)).trans e1,e2⟩
theorem Law.from (h:Law s u K q c ns x y o N){s':St}(hk:∀z,s' z≠.free→s z=s' z):Law s' u K q c ns x y o N:=
 ⟨h.C,h.D,h.L,h.xy,h.n,fun z hz=>by
  have e:=hk z hz
  obtain⟨e1,e2⟩:=h.fr z (by rw[e];exact hz)
  exact⟨e1.trans e,e2⟩⟩
theorem Law.mono (h:Law s u K q c ns x y o N){N':Nat}(hN:N≤N'):Law s u K q c ns x y o N':=⟨h.C,h.D,h.L,h.xy,h.n.mono hN,h.fr⟩
theorem Law.fg (h:Law s u K q c ns x y o N):Fg u s:=fun z=>by
 by_cases hz:s z=.free
 ·exact .inl hz
 ·exact .inr (h.fr z hz).1.symm
theorem Law.oat (h:Law s u K q c ns x y o N){d:Nat}(hd:d<3):o[d]?=some (o.getD d []):=by
 have hol:o.length=3:=by have:=congrArg List.length h.L;simpa using this
 rw[List.getD_eq_getElem?_getD,List.getElem?_eq_getElem (by omega)];rfl
theorem Law.wid (h:Law s u K q c ns x y o N){d:Nat}(hd:d<3):(o.getD d []).length=widthN (szD x y d)∧(o.getD d []).length≤4∧1≤szD x y d∧szD x y d≤16∧szD x y d≤2 ^ (o.getD d []).length:=by
 have h1:(o.map (·.length))[d]?=some (o.getD d []).length:=by rw[List.getElem?_map,h.oat hd];rfl
 rw[h.L]at h1
 obtain⟨hx,hy⟩:=h.xy
 have a1:=wid_lt hx
 have a2:=wid_pow hx
 have a3:=wid_lt hy
 have a4:=wid_pow hy
 match d,hd with
 |0,_=>
  simp at h1
  have h2:(o.getD 0 []).length=widthN (1+x):=h1.symm
  rw[h2]
  simp only[szD]
  exact⟨trivial,by omega,by omega,by omega,a2⟩
 |1,_=>
  simp at h1
  have h2:(o.getD 1 []).length=widthN (1+x):=h1.symm
  rw[h2]
  simp only[szD]
  exact⟨trivial,by omega,by omega,by omega,a2⟩
 |2,_=>
  simp at h1
  have h2:(o.getD 2 []).length=widthN (1+y):=h1.symm
  rw[h2]
  simp only[szD]
  exact⟨trivial,by omega,by omega,by omega,a4⟩
theorem Law.tup (h:Law s u K q c ns x y o N){g:(Nat→Bool)→Bool}(hm:treeT 12 g∈ns)(ks:List Nat)(ow:Own)(hks:∀k,k∈ks→k<3)(hl:ks.length≤3)(hnd:ks.Nodup)(hg:DepF (varsOf o ks) g){most:Nat}(hmo:most≤16384){rows:List (List Int)}(hr:sortR (tupR (treeT 12 g) o ks)=rows)(hc:rows.length≤most) :
  SRet Tryz.prog 13 [.ptr c 0,.int .i64 (ixF 12 ns g:Nat),.lst (natsL ks) ow,.int .i64 most] u (.tup [.lst (rwsC rows) .no,.int .i64 0]) u:=by
 have hks2:∀k,k∈ks→k<(dsT x y).length:=hks
 have hv:∀(l:List Nat),(∀k,k∈l→k<3)→(varsOf o l).length≤4 * l.length:=by
  intro l
  induction l with
  |nil=>intro _;simp[varsOf]
  |cons k l ih=>
   intro hl
   have:=ih fun k hk=>hl k (List.mem_cons_of_mem _ hk)
   have h2:=(h.wid (hl k (List.mem_cons_self ..))).2.1
   have e:varsOf o (k::l)=o.getD k []++varsOf o l:=by simp[varsOf]
   rw[e,List.length_append,List.length_cons]
   omega
 have hv4:=hv ks hks
 have hlen:(tupR (treeT 12 g) o ks).length≤most:=by
  have e1:=((List.perm_ext_iff_of_nodup (sortR_rising (tupR (treeT 12 g) o ks)).nodup (tupR_nodup _ _ _)).2 fun r=>sortR_mem).length_eq
  rw[← e1,hr]
  exact hc
 rw[← hr]
 exact Ctuples_S h.C h.D (by omega) ks ow hks2 (by omega) hnd hm (occ_tree (varsOf_lt h.D hks2) hg) (by omega) hmo hlen
end
def SubR (ns:List Tr)(R:Tr)(m:Nat):Prop:=∃U:List Tr,U.length≤m∧∀t,t∈subsT R→t∈ns∨t∈U
theorem FitN.ofR {ns:List Tr}{R:Tr}{N m B:Nat}(h:CntN ns N)(hR:SubR ns R m)(hB:N+m≤B):FitN ns R B:=fun X hX hs=>by
 obtain⟨U,h1,h2⟩:=h
 obtain⟨S,h3,h4⟩:=hR
 have:=nodup_le (Y:=U++S) hX fun x hx=>by
  rw[List.mem_append]
  rcases hs x hx with h|h
  ·exact .inl (h2 x h)
  ·rcases h4 x h with h|h
   ·exact .inl (h2 x h)
   ·exact .inr h
 rw[List.length_append]at this
 omega
theorem CntN.extR {ns ns':List Tr}{R:Tr}{N m:Nat}(h:CntN ns N)(hR:SubR ns R m)(he:ExtN ns ns' R):CntN ns' (N+m):=by
 obtain⟨U,h1,h2⟩:=h
 obtain⟨S,h3,h4⟩:=hR
 refine⟨U++S,by rw[List.length_append];omega,fun t ht=>?_⟩
 rw[List.mem_append]
 rcases he.new t ht with h|h
 ·exact .inl (h2 t h)
 ·rcases h4 t h with h|h
  ·exact .inl (h2 t h)
  ·exact .inr h
theorem SubR.one {n:Nat}{ns:List Tr}(hN:NsOk n ns){v:Nat}{l h:Tr}(hl:l∈ns)(hh:h∈ns):SubR ns (mkT v l h) 1:=by
 refine⟨[mkT v l h],by simp,fun t ht=>?_⟩
 unfold mkT at ht ⊢
 split at ht
 ·exact .inl (hN.subs hl ht)
 ·rename_i e
  rw[if_neg e]
  simp only[subsT,List.mem_cons,List.mem_append]at ht
  rcases ht with rfl|ht|ht
  ·exact .inr (by simp)
  ·exact .inl (hN.subs hl ht)
  ·exact .inl (hN.subs hh ht)
def cubF (l:List (Nat×Bool))(x:Nat→Bool):Bool:=l.all fun p=>x p.1 == p.2
theorem cubF_cons {v:Nat}{b:Bool}{l:List (Nat×Bool)}{x:Nat→Bool}:cubF ((v,b)::l) x=((x v == b) && cubF l x):=by simp[cubF]
theorem cubF_dep {S:List Nat}{l:List (Nat×Bool)}(h:∀p,p∈l→p.1∈S):DepF S (cubF l):=fun x y e=>by
 unfold cubF
 induction l with
 |nil=>rfl
 |cons p l ih=>
  rw[List.all_cons,List.all_cons,ih fun q hq=>h q (List.mem_cons_of_mem _ hq),e _ (h p (List.mem_cons_self ..))]
theorem cubF_ext {l l':List (Nat×Bool)}(h:∀p,p∈l↔p∈l')(x:Nat→Bool):cubF l x=cubF l' x:=by
 rw[Bool.eq_iff_iff]
 simp only[cubF,List.all_eq_true]
 exact⟨fun a p hp=>a p ((h p).2 hp),fun a p hp=>a p ((h p).1 hp)⟩
theorem cubF_app {l l':List (Nat×Bool)}{x:Nat→Bool}:cubF (l++l') x=(cubF l x && cubF l' x):=by simp[cubF]
theorem cubF_step {v:Nat}{b:Bool}{l:List (Nat×Bool)}:(fun x:Nat→Bool=>if x v=true then(if b=true then cubF l else fun _=>false) x else(if b=true then fun _=>false else cubF l) x)=cubF ((v,b)::l):=by
 funext x
 rw[cubF_cons]
 cases b<;>cases x v<;>simp
theorem cubF_zip {n:Nat}{x:Nat→Bool}:∀(vs:List Nat) (i:Nat),n / 2 ^ i<2 ^ vs.length→cubF (zipB n i vs) x=decide (numA vs x=n / 2 ^ i)
 |[],i,h=>by
  simp only[List.length_nil,Nat.pow_zero]at h
  have e:n / 2 ^ i=0:=Nat.lt_one_iff.1 h
  rw[e]
  rfl
 |v::vs,i,h=>by
  have e1:n / 2 ^ i=(n.testBit i).toNat+2 * (n / 2 ^ (i+1)):=by
   rw[Nat.testBit_eq_decide_div_mod_eq,Nat.pow_succ,← Nat.div_div_eq_div_mul]
   rcases Nat.mod_two_eq_zero_or_one (n / 2 ^ i)with e|e<;>simp[e]<;>omega
  have ih:=cubF_zip (n:=n) (x:=x) vs (i+1) (by
   rw[List.length_cons,Nat.pow_succ]at h
   omega)
  rw[Bool.eq_iff_iff,decide_eq_true_iff]
  simp only[zipB,cubF_cons,ih,Bool.and_eq_true,beq_iff_eq,decide_eq_true_eq,numA]
  rw[e1]
  generalize n / 2 ^ (i+1)=m
  generalize numA vs x=A
  cases x v<;>cases n.testBit i<;>simp<;>omega
section
variable {s : St} {K : OB} {n B N m : Nat} {ns : List Tr} {f g : (Nat → Bool) → Bool}
end
theorem Nmk_F1 {s:St}{K:OB}{n B N v:Nat}{ns:List Tr}{f g:(Nat→Bool)→Bool}{S:List Nat}(hO:OMem s K n B ns)(hf:DepF S f)(hg:DepF S g)(hS:∀w,w∈S→v<w∧w<n)(hv:v<n)(mf:treeT n f∈ns)(mg:treeT n g∈ns)(hc:CntN ns N)(hB:N+1≤B) :
  OpFC 43 [.ptr K.s.p 0,.int .i64 v,.int .i64 (ixF n ns f:Nat),.int .i64 (ixF n ns g:Nat)] s K n B ns (N+1) (fun x=>if x v=true then g x else f x):=by
 have ok:∀{h:(Nat→Bool)→Bool},DepF S h→OkT n (v+1) (treeT n h):=fun {h} hd=>by
  have hk:n - (n - (v+1))=v+1:=by omega
  have h1:OkT n (v+1) (treeF n (n - (v+1)) h):=by
   have:=treeF_ok (n:=n) (k:=n - (v+1)) (g:=h) (by omega)
   rwa [hk]at this
  have h2:treeT n h=treeF n (n - (v+1)) h:=treeT_eq h1 fun x=>treeF_ev x (by omega) fun x y e=>hd x y fun w hw=>e w (by have:=hS w hw;omega) (hS w hw).2
  rw[h2];exact h1
 have hT:mkT v (treeT n f) (treeT n g)=treeT n fun x=>if x v=true then g x else f x:=by
  refine(treeT_eq (mkT_ok (Nat.zero_le v) hv (ok hf) (ok hg)) fun x=>?_).symm
  rw[mkT_ev,treeT_ev (hf.hang fun w hw=>(hS w hw).2),treeT_ev (hg.hang fun w hw=>(hS w hw).2)]
 have hone:=SubR.one hO.st.ok (v:=v) mf mg
 have w:=Nmk_S hO.st mf mg (ok hf) (ok hg) hv (.ofR hc hone hB)
 rw[hT]at w hone
 refine SCalls.mono (h:=w) ?_
 rintro w u ⟨⟨u,K',ns'⟩,rfl,rfl,h1,h2,h3⟩
 exact⟨(u,⟨K',K.o,K.c⟩,ns'),rfl,rfl,hO.mk h1 h2 h3,h2.pre,h2.mem,hc.extR hone h2,h3.toO⟩
def wantZ (W:List (Nat×Bool)):List (Int×Bool):=W.map fun p=>((p.1:Int),p.2)
theorem wantZ_none {v:Nat}{W:List (Nat×Bool)}(h:v∉W.map (·.1)):lkZ (v:Int) (wantZ W)=none:=by
 rw[lkZ_none]
 intro h2
 simp only[wantZ,List.map_map,List.mem_map,Function.comp]at h2
 obtain⟨p,hp,e⟩:=h2
 have e2:p.1=v:=by omega
 exact h (e2 ▸ List.mem_map_of_mem hp)
theorem wantZ_add {v:Nat}{b:Bool}{W:List (Nat×Bool)}(h:v∉W.map (·.1)):ptZ (v:Int) b (wantZ W)=wantZ (W++[(v,b)]):=by
 rw[ptZ_new (wantZ_none h)]
 simp[wantZ]
theorem wantZ_some {v:Nat}{b:Bool}:∀{W:List (Nat×Bool)},(W.map (·.1)).Nodup→(v,b)∈W→lkZ (v:Int) (wantZ W)=some b
 |[],_,h=>by cases h
 |p::W,hn,h=>by
  rw[List.map_cons,List.nodup_cons]at hn
  have ih:=wantZ_some (v:=v) (b:=b) hn.2
  simp only[wantZ,List.map_cons,lkZ]at ih ⊢
  rcases List.mem_cons.1 h with rfl|h
  ·rw[if_pos rfl]
  ·have hne:v≠p.1:=fun e=>hn.1 (e ▸ List.mem_map_of_mem h)
   rw[if_neg (by omega),ih h]
theorem zipB_keys {n:Nat}:∀{i:Nat} {vs:List Nat},(zipB n i vs).map (·.1)=vs
 |_,[]=>rfl
 |i,v::vs=>by simp only[zipB,List.map_cons,zipB_keys]
theorem zipB_len {n i:Nat}{vs:List Nat}:(zipB n i vs).length=vs.length:=by
 have:=congrArg List.length (zipB_keys (n:=n) (i:=i) (vs:=vs))
 simpa using this
theorem zipB_at {n v:Nat}:∀{i j:Nat} {vs:List Nat},vs[j]?=some v→(zipB n i vs)[j]?=some (v,n.testBit (i+j))
 |i,j,[],h=>by simp at h
 |i,0,w::vs,h=>by simp at h;subst h;rfl
 |i,j+1,w::vs,h=>by
  simp only[zipB,List.getElem?_cons_succ]at h ⊢
  rw[zipB_at h,show i+1+j=i+(j+1) by omega]
def tupQ (at_:List (List Nat))(Q:List (Nat×Nat)):List (Nat×Bool):=Q.flatMap fun p=>zipB p.2 0 (at_.getD p.1 [])
def offQ (at_:List (List Nat))(Q:List (Nat×Nat))(i:Nat):Nat:=(tupQ at_ (Q.take i)).length
theorem tupQ_split {at_:List (List Nat)}{Q:List (Nat×Nat)}{i k n:Nat}(h:Q[i]?=some (k,n)):tupQ at_ Q=tupQ at_ (Q.take i)++(zipB n 0 (at_.getD k [])++tupQ at_ (Q.drop (i+1))):=by
 have h1:=(List.getElem?_eq_some_iff.1 h)
 obtain⟨hi,e⟩:=h1
 conv=>lhs;rw[← List.take_append_drop i Q,List.drop_eq_getElem_cons hi,e]
 simp only[tupQ,List.flatMap_append,List.flatMap_cons]
theorem offQ_next {at_:List (List Nat)}{Q:List (Nat×Nat)}{i k n:Nat}(h:Q[i]?=some (k,n)):offQ at_ Q (i+1)=offQ at_ Q i+(at_.getD k []).length:=by
 unfold offQ
 rw[List.take_add_one,h]
 simp only[tupQ,Option.toList_some,List.flatMap_append,List.flatMap_cons,List.flatMap_nil,List.append_nil,List.length_append,zipB_len]
theorem offQ_at {at_:List (List Nat)}{Q:List (Nat×Nat)}{i j k n v:Nat}(h:Q[i]?=some (k,n))(hj:(at_.getD k [])[j]?=some v):(tupQ at_ Q)[offQ at_ Q i+j]?=some (v,n.testBit j):=by
 have hl:=(List.getElem?_eq_some_iff.1 hj).1
 rw[tupQ_split h,offQ,List.getElem?_append_right (by omega),Nat.add_sub_cancel_left,List.getElem?_append_left (by rw[zipB_len];exact hl),zipB_at hj,Nat.zero_add]
theorem offQ_end {at_:List (List Nat)}{Q:List (Nat×Nat)}:offQ at_ Q Q.length=(tupQ at_ Q).length:=by rw[offQ,List.take_length]
theorem tupQ_keys {at_:List (List Nat)}:∀{ks vals:List Nat},vals.length=ks.length→(tupQ at_ (ks.zip vals)).map (·.1)=varsOf at_ ks
 |[],_,_=>rfl
 |k::ks,[],h=>by simp at h
 |k::ks,v::vals,h=>by
  have ih:=tupQ_keys (at_:=at_) (ks:=ks) (vals:=vals) (by simpa using h)
  simp only[tupQ,List.zip_cons_cons,List.flatMap_cons,List.map_append,zipB_keys,varsOf]at ih ⊢
  rw[ih]
def tupF (at_:List (List Nat))(ks vals:List Nat)(x:Nat→Bool):Bool:=(ks.zip vals).all fun p=>decide (numA (at_.getD p.1 []) x=p.2)
theorem tupQ_ev {at_:List (List Nat)}{x:Nat→Bool}:∀{Q:List (Nat×Nat)},(∀p,p∈Q→p.2<2 ^ (at_.getD p.1 []).length)→cubF (tupQ at_ Q) x=Q.all fun p=>decide (numA (at_.getD p.1 []) x=p.2)
 |[],_=>rfl
 |p::Q,h=>by
  have ih:=tupQ_ev (at_:=at_) (x:=x) (Q:=Q) fun q hq=>h q (List.mem_cons_of_mem _ hq)
  have h1:=cubF_zip (n:=p.2) (x:=x) (at_.getD p.1 []) 0 (by rw[Nat.pow_zero,Nat.div_one];exact h p (List.mem_cons_self ..))
  rw[Nat.pow_zero,Nat.div_one]at h1
  rw[List.all_cons,← ih,← h1,← cubF_app]
  rfl
theorem riseN (V:List Nat)(hn:V.Nodup):∃SL:List Nat,riseZ (V.map fun(k:Nat)=>(k:Int))=SL.map (fun(k:Nat)=>(k:Int))∧SL.Perm V∧SL.Pairwise (·<·):=by
 have hp:=riseZ_perm (V.map fun(k:Nat)=>(k:Int))
 have hw:=riseZ_pw (V.map fun(k:Nat)=>(k:Int))
 generalize riseZ (V.map fun(k:Nat)=>(k:Int))=Z at *
 have hz:(Z.map Int.toNat).map (fun(k:Nat)=>(k:Int))=Z:=by
  rw[List.map_map]
  conv=>rhs;rw[← List.map_id Z]
  apply List.map_congr_left
  intro z hz
  obtain⟨k,_,rfl⟩:=List.mem_map.1 (hp.mem_iff.1 hz)
  rfl
 have hq:(Z.map Int.toNat).Perm V:=by
  have h1:=hp.map Int.toNat
  rw[List.map_map]at h1
  have e:V.map (Int.toNat ∘ fun(k:Nat)=>(k:Int))=V:=by
   conv=>rhs;rw[← List.map_id V]
   apply List.map_congr_left
   intro k _
   rfl
  rwa [e]at h1
 refine⟨Z.map Int.toNat,hz.symm,hq,?_⟩
 have hnd:(Z.map Int.toNat).Nodup:=hq.nodup_iff.2 hn
 rw[← hz,List.pairwise_map]at hw
 refine(hw.and hnd).imp fun {a b} h=>?_
 have:=h.1
 have:=h.2
 omega
def cubL (SL:List Nat)(P:List (Nat×Bool)):List (Nat×Bool):=SL.map fun v=>(v,(lkZ (v:Int) (wantZ P)).getD false)
theorem cubL_ev {SL:List Nat}{P:List (Nat×Bool)}(hP:(P.map (·.1)).Nodup)(hS:SL.Perm (P.map (·.1)))(x:Nat→Bool):cubF (cubL SL P) x=cubF P x:=by
 refine cubF_ext (fun p=>?_) x
 simp only[cubL,List.mem_map]
 constructor
 ·rintro⟨v,hv,rfl⟩
  obtain⟨p,hp,rfl⟩:=List.mem_map.1 (hS.mem_iff.1 hv)
  rw[wantZ_some (b:=p.2) hP hp]
  exact hp
 ·intro hp
  exact⟨p.1,hS.mem_iff.2 (List.mem_map_of_mem hp),by rw[wantZ_some (b:=p.2) hP hp];rfl⟩
structure VarT (s:St) (bm:Nat) (u:St) (x:VV) (W:List (Nat×Bool)):Prop where
 m:u bm=.map (mpZ encB (wantZ W))
 bf:s bm=.free
 r:(W=[]∧x=.raw (.slice none 0 0))∨(W≠[]∧∃g,g≠bm∧s g=.free∧u g=.row 3 1 (ints (W.map fun p=>(p.1:Int)))∧x=.mrw g W.length)
 fr:∀z,s z≠.free→u z=s z
theorem VarT.put0 {s:St}{bm:Nat}{u:St}{x:VV}{v:Nat}{b:Bool}{bM:Nat}{M:Cell}(h:VarT s bm u x [])(hM:(u.set bm M) bM=.free)(he:M=.map (mpZ encB (wantZ [(v,b)]))):VarT s bm ((u.set bm M).set bM (.row 3 1 [.int .i64 (v:Int)])) (.mrw bM 1) [(v,b)]:=by
 have hne:bM≠bm:=fun e=>by rw[e,St.set_same,he]at hM;cases hM
 rw[St.set_other _ _ hne]at hM
 have hs:s bM=.free:=Classical.byContradiction fun h2=>h2 ((h.fr bM h2).symm.trans hM)
 refine⟨by rw[St.set_other _ _ (Ne.symm hne),St.set_same,he],h.bf,.inr ⟨by simp,bM,hne,hs,by rw[St.set_same];rfl,rfl⟩,fun z hz=>?_⟩
 have n1:=(nef hs hz).1
 have n2:=(nef h.bf hz).1
 rw[St.set_other _ _ n1,St.set_other _ _ n2,h.fr z hz]
theorem VarT.put {s:St}{bm g n:Nat}{u:St}{x:VV}{W:List (Nat×Bool)}{v:Nat}{b:Bool}{bM:Nat}{M:Cell}{xs:List VV}(h:VarT s bm u x W)(hg:g≠bm)(hgs:s g=.free)(hM:((u.set bm M).set g .free) bM=.free)(he:M=.map (mpZ encB (wantZ (W++[(v,b)]))))(hx:xs=ints ((W++[(v,b)]).map fun p=>(p.1:Int)))(hn:n=(W++[(v,b)]).length) :
  VarT s bm (((u.set bm M).set g .free).set bM (.row 3 1 xs)) (.mrw bM n) (W++[(v,b)]):=by
 have hne:bM≠bm:=fun e=>by rw[e,St.set_other _ _ (Ne.symm hg),St.set_same,he]at hM;cases hM
 have hs:s bM=.free:=by
  by_cases e:bM=g
  ·rw[e];exact hgs
  ·rw[St.set_other _ _ e,St.set_other _ _ hne]at hM
   exact Classical.byContradiction fun h2=>h2 ((h.fr bM h2).symm.trans hM)
 refine⟨by rw[St.set_other _ _ (Ne.symm hne),St.set_other _ _ (Ne.symm hg),St.set_same,he],h.bf,.inr ⟨by simp,bM,hne,hs,by rw[St.set_same,hx],by rw[hn]⟩,fun z hz=>?_⟩
 rw[St.set_other _ _ (nef hs hz).1,St.set_other _ _ (nef hgs hz).1,St.set_other _ _ (nef h.bf hz).1,h.fr z hz]
structure VarS (s:St) (bm:Nat) (u:St) (x:VV) (W:List (Nat×Bool)) (Z:List Int):Prop where
 m:u bm=.map (mpZ encB (wantZ W))
 r:(x=.raw (.slice none 0 0)∧ints Z=[])∨∃g,g≠bm∧s g=.free∧u g=.row 3 1 (ints Z)∧x=.mrw g (ints Z).length
 fr:∀z,s z≠.free→u z=s z
theorem VarT.sort {s:St}{bm:Nat}{u:St}{x:VV}{W:List (Nat×Bool)}(h:VarT s bm u x W)(hl:W.length≤100000) :
  SCalls Tryz.prog 42 [x] u fun w u'=>∃a:St,w=.ret (.tup [])∧u'=a∧VarS s bm a x W (riseZ ((W.map (·.1)).map fun(k:Nat)=>(k:Int))):=by
 rcases h.r with ⟨hW,hx⟩|⟨hW,g,g1,g2,g3,hx⟩
 ·subst hW hx
  refine SCalls.mono (h:=Isort0_S u) ?_
  rintro w u' ⟨rfl,rfl⟩
  exact⟨_,rfl,rfl,h.m,.inl ⟨rfl,by simp[riseZ,ints]⟩,h.fr⟩
 ·subst hx
  have e:(W.map fun p=>(p.1:Int))=(W.map (·.1)).map fun(k:Nat)=>(k:Int):=by simp
  rw[e]at g3
  have hlen:((W.map (·.1)).map fun(k:Nat)=>(k:Int)).length=W.length:=by simp
  have w:=Isort_S u g 3 ((W.map (·.1)).map fun(k:Nat)=>(k:Int)) (by rw[hlen];omega) g3
  rw[hlen]at w
  refine SCalls.mono (h:=w) ?_
  rintro w u' ⟨rfl,rfl⟩
  refine⟨_,rfl,rfl,?_,.inr ⟨g,g1,g2,St.set_same _ _ _,?_⟩,fun z hz=>?_⟩
  ·rw[St.set_other _ _ (Ne.symm g1)];exact h.m
  ·rw[show (ints (riseZ ((W.map (·.1)).map fun(k:Nat)=>(k:Int)))).length=W.length by simp only[ints,List.length_map,riseZ_len]]
  ·rw[St.set_other _ _ (nef g2 hz).1];exact h.fr z hz
theorem Kp_frzV {P:Program}{N:Nat}{D:List Deferred}{c:Code}{k:List Itm}{Q:Pst}{env:Env}{s u:St}{bm:Nat}{x:VV}{W:List (Nat×Bool)}{Z:List Int}(t:Nat)(h:VarS s bm u x W Z)(ht:env t=x)
  (hk:∀u',u' bm=.map (mpZ encB (wantZ W))→(∀z,s z≠.free→u' z=s z)→Kp P N D (.code c::k) Q .norm (upd env t (.lst (intsL Z) .no)) u'):Kp P N D (.code c::k) Q .norm env u:=by
 rcases h.r with ⟨hx,hZ⟩|⟨g,g1,g2,g3,hx⟩
 ·have e:intsL Z=[]:=by
   have:Z=[]:=by cases Z with|nil=>rfl|cons a l=>simp[ints]at hZ
   rw[this];rfl
  have hk2:=hk u h.m h.fr
  rw[e]at hk2
  exact Kp_wkt t (ht.trans hx) Wk.rawnil hk2
 ·refine Kp_frzR t g _ g3 (ht.trans hx) rfl ?_
  rw[ints_frz]
  refine hk _ ?_ fun z hz=>?_
  ·rw[St.set_other _ _ (Ne.symm g1)];exact h.m
  ·rw[St.set_other _ _ (nef g2 hz).1];exact h.fr z hz
attribute [-go_sem] p_and p_or p_shl p_shr
end Go.Proofs.YtndlnadbnganeaaGreatDoor
