/- Walks of functions that the claim reaches, and plain facts of them. Conditions: those in the statements. -/
import Derived.Test.YtndlnadbnganeaaGreatDoorJnVij
import Derived.Test.YtndlnadbnganeaaGreatDoorJnSrj
set_option linter.unusedSimpArgs false
set_option linter.unusedVariables false
set_option maxRecDepth 100000
namespace Go.Proofs.YtndlnadbnganeaaGreatDoor
open Go.RowKit
attribute [-go_sem] p_and p_or p_shl p_shr
theorem and_ffN (a:Int):vint .and .i64 a 255=some (.int .i64 ((addP 8 a:Nat):Int)):=by
 have h:=and_low (w:=8) (by omega) a
 have e:IntKind.i64.wrap (((2 ^ 8:Nat):Int) - 1)=255:=by decide
 rwa [e]at h
def wantF (n:Nat)(ds:List Dm)(od:List UInt8):Int:=if (n:Int)<(((if mayDs ds=true then(wdL ds).sum else 0:Nat)):Int)then 1 else plE ds od
theorem plF_gsF {ds:List Dm}{wd:List Nat}:∀{ps:List (List UInt8)} {o O:List (List Nat)} {nx:Nat} {sn:List Nat},(plF ds wd ps o nx sn).map (·.2)=(gsF ds ps O sn).map (·.2)
 |[],o,O,nx,sn=>rfl
 |g::r,o,O,nx,sn=>by
  simp only[plF,gsF]
  cases grpF ds (splitC 42 g) [] sn with
  |none=>rfl
  |some q=>exact plF_gsF
theorem place_ok {ds:List Dm}{od:List UInt8}(hm:mayDs ds=true):(∃o,placeF ds od=.ok o)∧okG ds od=true∨placeF ds od=.error 70∧okG ds od=false:=by
 unfold placeF
 rw[if_pos hm]
 by_cases h0:od=[]
 ·subst h0
  have e:okG ds []=decide (ds.length=0):=rfl
  rw[if_pos rfl,e]
  simp only[plF,finF,List.length_nil]
  by_cases hd:ds.length=0
  ·rw[if_neg (by omega)];exact .inl ⟨⟨_,rfl⟩,by rw[decide_eq_true hd]⟩
  ·rw[if_pos (by omega)];exact .inr ⟨rfl,by rw[decide_eq_false hd]⟩
 ·rw[if_neg h0]
  unfold okG
  rw[if_neg h0]
  have h:=plF_gsF (ds:=ds) (wd:=wdL ds) (ps:=splitC 95 od) (o:=List.replicate ds.length []) (O:=[]) (nx:=0) (sn:=[])
  cases hg:gsF ds (splitC 95 od) [] []with
  |none=>
   rw[hg]at h
   cases hp:plF ds (wdL ds) (splitC 95 od) (List.replicate ds.length []) 0 []with
   |none=>exact .inr ⟨rfl,rfl⟩
   |some q=>rw[hp]at h;cases h
  |some r=>
   obtain⟨O,sn⟩:=r
   have hsn:SnOk ds.length sn:=by
    have key:∀(ps:List (List UInt8)) (O:List (List Nat)) (sn:List Nat) (r:List (List Nat)×List Nat),gsF ds ps O sn=some r→SnOk ds.length sn→SnOk ds.length r.2:=by
     intro ps
     induction ps with
     |nil=>intro O sn r h h1;simp only[gsF,Option.some.injEq]at h;subst h;exact h1
     |cons g ps ih=>
      intro O sn r h h1
      simp only[gsF]at h
      cases hg:grpF ds (splitC 42 g) [] sn with
      |none=>rw[hg]at h;cases h
      |some q=>rw[hg]at h;exact ih _ _ _ h (grpF_ok hg h1 (fun k hk=>by cases hk)).1
    exact key _ _ _ _ hg ⟨by simp,by simp⟩
   have hle:=hsn.len
   rw[hg]at h
   cases hp:plF ds (wdL ds) (splitC 95 od) (List.replicate ds.length []) 0 []with
   |none=>rw[hp]at h;cases h
   |some q=>
    obtain⟨o',sn'⟩:=q
    rw[hp]at h
    simp only[Option.map_some,Option.some.injEq]at h
    subst h
    simp only[finF]
    by_cases hd:sn'.length<ds.length
    ·rw[if_pos hd];exact .inr ⟨rfl,by rw[decide_eq_false (by omega)]⟩
    ·rw[if_neg hd];exact .inl ⟨⟨_,rfl⟩,by rw[decide_eq_true (by omega)]⟩
theorem want_err {n:Nat}{ds:List Dm}{od:List UInt8}{e:Int}(h:newF n ds od=.error e):wantF n ds od=e∧e≠0:=by
 unfold newF at h
 unfold wantF plE
 by_cases hm:mayDs ds=true
 ·rw[if_pos hm,if_pos hm]
  by_cases hs:(wdL ds).sum≤n
  ·rw[if_pos ⟨hm,hs⟩]at h
   rw[if_neg (by omega)]
   rcases place_ok (od:=od) hm with ⟨⟨o,ho⟩,hk⟩|⟨he,hk⟩
   ·rw[ho]at h;cases h
   ·rw[he]at h
    injection h with h
    rw[hk,if_neg (by decide)]
    omega
  ·rw[if_neg (fun h=>hs h.2)]at h
   injection h with h
   rw[if_pos (by omega)]
   omega
 ·rw[if_neg (fun h=>hm h.1)]at h
  injection h with h
  rw[if_neg hm,if_neg hm,if_neg (by omega)]
  omega
theorem want_okay {n:Nat}{ds:List Dm}{od:List UInt8}{o:List (List Nat)}(h:newF n ds od=.ok o):wantF n ds od=0∧mayDs ds=true:=by
 unfold newF at h
 unfold wantF plE
 by_cases hm:mayDs ds=true
 ·rw[if_pos hm,if_pos hm]
  by_cases hs:(wdL ds).sum≤n
  ·rw[if_pos ⟨hm,hs⟩]at h
   rw[if_neg (by omega)]
   rcases place_ok (od:=od) hm with ⟨⟨o,ho⟩,hk⟩|⟨he,hk⟩
   ·rw[hk,if_pos rfl];exact⟨rfl,hm⟩
   ·rw[he]at h;cases h
  ·rw[if_neg (fun h=>hs h.2)]at h
   cases h
 ·rw[if_neg (fun h=>hm h.1)]at h
  cases h
theorem doms_nat {ds:List Dm}(h:mayDs ds=true):∃dsN:List (List UInt8×Nat),domsI ds=domsC dsN:=by
 have hok:okDs [] ds=true:=by unfold mayDs at h;rw[Bool.and_eq_true]at h;exact h.1
 refine⟨ds.map fun d=>(d.1,d.2.toNat),?_⟩
 simp only[domsI,domsC,List.map_map]
 apply List.map_congr_left
 intro d hd
 have:=okDs_size hok d hd
 simp only[Function.comp]
 rw[Int.toNat_of_nonneg (by omega)]
set_option maxHeartbeats 4000000 in
theorem CDoms_S (s:St)(c:Nat)(D:List (List VV))(Q A:VV)(h:s c=.obj 63 [Q,.lst D .no,A])(hx:∀x,x∈D→x.length=2)(hl:D.length≤1000000):SRet Tryz.prog 28 [.ptr c 0] s (.lst D .no) s:=by
 have wl:=CloneA_S s D .no hx hl
 refine G_enter Tryz.func28 rfl Tryz.ntmps28 rfl fun Q hQ hQe=>?_
 (repeat'(first|refine Ctl ?_|((with_reducible refine Kof.use hK ?_);clear hK hE K E)|((with_reducible refine W_cond (fun h=>?_) (fun h=>?_))<;>(try(exfalso;assumption)))|(((with_reducible first|refine G_region fun K E hK hE=>?_|refine call_ret can53 (wl) ?_))<;>(try simp(disch:=omega) only[go_sem,seval, *]))))
 all_goals(refine W_ret res28 hQ ?_)
 all_goals exact⟨_,_,Wk.refl _,Fg.refl _,rfl,rfl⟩
theorem p_nilRj:nilB .ptr (.raw (.pointer none)) (.raw (.pointer none))=some true:=rfl
theorem one_nilRj:(VV.raw (.pointer none)).one=true:=rfl
attribute [local go_sem] p_nilRj one_nilRj
set_option maxHeartbeats 4000000 in
theorem QNil_S (s:St):SRet Tryz.prog 18 [.raw (.pointer none)] s (.raw (.pointer none)) s:=by
 refine G_enter Tryz.func18 rfl Tryz.ntmps18 rfl fun Q hQ hQe=>?_
 (repeat'(first|refine Ctl ?_|((with_reducible refine Kof.use hK ?_);clear hK hE K E)|((with_reducible refine W_cond (fun h=>?_) (fun h=>?_))<;>(try(exfalso;assumption)))|(((with_reducible refine G_region fun K E hK hE=>?_))<;>(try simp(disch:=omega) only[go_sem,seval, *]))))
 all_goals(refine W_ret res18 hQ ?_)
 all_goals exact⟨_,_,Wk.refl _,Fg.refl _,rfl,rfl⟩
set_option maxHeartbeats 4000000 in
theorem CNilNew_S (s:St)(D:List (List VV))(ow:Own)(od:List UInt8):SRet Tryz.prog 29 [.raw (.pointer none),.lst D ow,.str od] s (.tup [.raw (.pointer none),.int .i64 1]) s:=by
 have wq:=QNil_S s
 refine G_enter Tryz.func29 rfl Tryz.ntmps29 rfl fun Q hQ hQe=>?_
 (repeat'(first|refine Ctl ?_|((with_reducible refine Kof.use hK ?_);clear hK hE K E)|((with_reducible refine W_cond (fun h=>?_) (fun h=>?_))<;>(try(exfalso;assumption)))|(((with_reducible first|refine G_region fun K E hK hE=>?_|refine call_ret can18 (wq) ?_))<;>(try simp(disch:=omega) only[go_sem,seval, *]))))
 all_goals(refine W_ret res29 hQ ?_)
 all_goals exact⟨_,_,Wk.refl _,Fg.refl _,rfl,rfl⟩
set_option maxHeartbeats 16000000 in
theorem CodeNobodyC_S (s:St)(ds:List Dm)(od:List UInt8)(vars:Int)(hl:ds.length≤140737488355328)(hnl0:∀d,d∈ds→d.1.length≤140737488355328)(hol:od.length≤140737488355328):SRet Tryz.prog 9 [.lst (domsI ds) .no,.str od,.int .i64 vars] s (.bool true) s:=by
 have WA:=Lib.hid Cawake_S
 have hlD:=domsI_len (ds:=ds)
 have hat:=fun(i:Nat) (d:Dm) h=>domsI_at (ds:=ds) (i:=i) (d:=d) h
 have hx2:∀x,x∈domsI ds→x.length=2:=fun x hx=>by obtain⟨y,_,rfl⟩:=List.mem_map.1 hx;rfl
 have HX2:=Lib.hid hx2
 have HAT:=Lib.hid hat
 have HNL0:=Lib.hid hnl0
 obtain⟨D,hD⟩:∃D,D=domsI ds:=⟨_,rfl⟩
 have HD:=Lib.hid hD
 rw[← hD]at hlD HX2 HAT ⊢
 clear hat hx2 hnl0 hD
 refine G_enter Tryz.func9 rfl Tryz.ntmps9 rfl fun Q hQ hQe=>?_
 (repeat'(first|refine Ctl ?_|((with_reducible refine Kof.use hK ?_);clear hK hE K E)|(((with_reducible refine G_region fun K E hK hE=>?_))<;>(try simp(disch:=omega) only[go_sem,seval,hlD, *]))))
 refine G_loop (fun m env s'=>∃(i:Nat),i≤min ds.length 40∧m+i=min ds.length 40∧Hid (∀(j:Nat) (d:Dm),j<i→ds[j]?=some d→d.1.length≤100)∧s'=s∧env 0=.lst D .no∧env 1=.str od∧env 2=.int .i64 vars∧env 7=.int .i64 i) (min ds.length 40) ?_ ?_
 ·exact⟨_,Fg.refl _,0,by omega,by omega,Lib.hid (fun j d h=>by omega),rfl,z_sl,z_sl,z_sl,z_sl⟩
 rintro m env s' ⟨i,hi,hm,HH,rfl,e0,e1,e2,e7⟩
 by_cases h1:i<min ds.length 40
 ·obtain⟨d,hd⟩:∃d,ds[i]?=some d:=⟨_,List.getElem?_eq_getElem (by omega)⟩
  obtain⟨nm,sz⟩:=d
  have hx:=HAT.out i _ hd
  have hnm:=HNL0.out _ (List.mem_of_getElem? hd)
  dsimp only at hx hnm
  have h1a:i<ds.length:=by omega
  have h1b:i<40:=by omega
  by_cases h2:nm.length≤100
  ·have HH2:Hid (∀(j:Nat) (d:Dm),j<i+1→ds[j]?=some d→d.1.length≤100):=Lib.hid fun j d hj hd2=>by
    by_cases e:j=i
    ·subst e
     rw[hd]at hd2
     injection hd2 with hd2
     rw[← hd2]
     exact h2
    ·exact HH.out j d (by omega) hd2
   have c1:¬ (nm.length:Int) > 100:=by omega
   clear hd h1
   (repeat'(first|refine Ctl ?_|((with_reducible refine Kof.use hK ?_);clear hK hE K E)|((with_reducible refine W_cond (fun h=>?_) (fun h=>?_))<;>(try(exfalso;first|assumption|omega)))|(((with_reducible refine G_region fun K E hK hE=>?_))<;>(try simp(disch:=omega) only[go_sem,seval,hlD,hx,c1, *]))))
   all_goals exact⟨_,Fg.refl _,m - 1,by omega,i+1,by omega,by omega,HH2,rfl,z_sl,z_sl,z_sl,z_sl⟩
  ·have c1:(nm.length:Int) > 100:=by omega
   have wa:=WA.out s'
   clear hd h1
   (repeat'(first|refine Ctl ?_|((with_reducible refine Kof.use hK ?_);clear hK hE K E)|((with_reducible refine W_cond (fun h=>?_) (fun h=>?_))<;>(try(exfalso;first|assumption|omega)))|(((with_reducible first|refine G_region fun K E hK hE=>?_|refine call_ret can12 (wa) ?_))<;>(try simp(disch:=omega) only[go_sem,seval,hlD,hx,c1, *]))))
   all_goals(refine W_ret res9 hQ ?_)
   all_goals exact⟨_,_,Wk.refl _,Fg.refl _,rfl,rfl⟩
 ·have wa:=WA.out s'
  have hcond:¬ (i<ds.length∧i<40):=by omega
  by_cases h40:ds.length > 40
  ·have h40':(ds.length:Int) > 40:=by omega
   have hi40:¬ i<40:=by omega
   clear h1
   (repeat'(first|refine Ctl ?_|((with_reducible refine Kof.use hK ?_);clear hK hE K E)|((with_reducible refine W_cond (fun h=>?_) (fun h=>?_))<;>(try(exfalso;first|assumption|omega)))|((first|(with_reducible first|refine G_region fun K E hK hE=>?_|refine call_ret can12 (wa) ?_)|((with_reducible refine W_gd (fun h=>?_) (fun h=>?_))<;>(try(exfalso;omega))))<;>(try simp(disch:=omega) only[go_sem,seval,hlD,h40', *]))))
   all_goals(refine W_ret res9 hQ ?_)
   all_goals exact⟨_,_,Wk.refl _,Fg.refl _,rfl,rfl⟩
  have h40':¬ (ds.length:Int) > 40:=by omega
  have hid:i=ds.length:=by omega
  by_cases ho:od.length > 1024
  ·have ho':(od.length:Int) > 1024:=by omega
   clear h1
   (repeat'(first|refine Ctl ?_|((with_reducible refine Kof.use hK ?_);clear hK hE K E)|((with_reducible refine W_cond (fun h=>?_) (fun h=>?_))<;>(try(exfalso;assumption)))|((first|(with_reducible first|refine G_region fun K E hK hE=>?_|refine call_ret can12 (wa) ?_)|((with_reducible refine W_gd (fun h=>?_) (fun h=>?_))<;>(try(exfalso;omega))))<;>(try simp(disch:=omega) only[go_sem,seval,hlD,h40',ho', *]))))
   all_goals(refine W_ret res9 hQ ?_)
   all_goals exact⟨_,_,Wk.refl _,Fg.refl _,rfl,rfl⟩
  have ho':¬ (od.length:Int) > 1024:=by omega
  have hnl:∀d,d∈ds→d.1.length≤1000000000:=fun d hd=>by
   obtain⟨j,hj,e⟩:=List.mem_iff_getElem.1 hd
   have:=HH.out j d (by omega) (by rw[List.getElem?_eq_getElem hj,e])
   omega
  have hn:addP 8 vars<256:=addP_lt 8 vars
  have ev:=and_ffN vars
  have wb:=CbegunA_S s' (addP 8 vars) (by omega) ds .no od (by omega) hnl (by omega)
  have wp:=fun u=>DPlace_S u ds .no od (by omega) hnl (by omega)
  have wbi:=fun u=>DBits_S u ds .no (by omega) hnl
  rw[← HD.out]at wb wp wbi
  have hwd:wantF (addP 8 vars) ds od=if (addP 8 vars:Int)<(((if mayDs ds=true then(wdL ds).sum else 0:Nat)):Int)then 1 else plE ds od:=rfl
  have HWD:=Lib.hid hwd
  have hwe:=fun e h=>want_err (n:=addP 8 vars) (ds:=ds) (od:=od) (e:=e) h
  have hwo:=fun o h=>want_okay (n:=addP 8 vars) (ds:=ds) (od:=od) (o:=o) h
  have HWE:=Lib.hid hwe
  have HWO:=Lib.hid hwo
  have hlen40:ds.length≤40:=by omega
  have hlt:¬ i<ds.length:=by omega
  clear hwe hwo h1 HH hnl hn hwd wa hcond hid
  generalize addP 8 vars=n at *
  generalize hbt:(if mayDs ds=true then(wdL ds).sum else 0)=bt at *
  generalize hRV:newF n ds od=RV at *
  generalize hpe:plE ds od=pe at *
  generalize hwf:wantF n ds od=wt at *
  have HRV:=Lib.hid hRV
  clear hbt hRV hpe hwf
  (repeat'(first|refine Ctl ?_|((with_reducible refine Kof.use hK ?_);clear hK hE K E)|((with_reducible refine W_cond (fun h=>?_) (fun h=>?_))<;>(try(exfalso;assumption)))|(((with_reducible refine G_region fun K E hK hE=>?_))<;>(try simp(disch:=omega) only[go_sem,seval,hlD,h40',ho',ev, *]))))
  refine call_ex can25 wb (fun a h=>?_)
  obtain⟨u,KK,q,c⟩:=a
  obtain⟨hCM,hFr⟩:=h
  dsimp only at hCM hFr ⊢
  have wp:=wp u
  have wbi:=wbi u
  have hfu:∀z,s' z≠.free→u z=s' z:=fun z hz=>(hFr z hz).1
  have HFU:=Lib.hid hfu
  clear wb hFr hfu
  have hbb1:(false == false)=true:=rfl
  have hbb2:(true == true)=true:=rfl
  cases RV with
  |error e=>
   obtain⟨hwt,hne⟩:=HWE.out e rfl
   have hwd:=HWD.out
   rw[hwt]at hwd
   have HW2:=Lib.hid hwd
   clear hCM HWE HWO HWD HRV hwt hwd
   simp only[newV,nilP]
   simp only[go_sem,seval]
   (repeat'(first|refine Ctl ?_|((with_reducible refine Kof.use hK ?_);clear hK hE K E)|(((with_reducible refine G_region fun K E hK hE=>?_))<;>(try simp(disch:=omega) only[go_sem,seval, *]))))
   refine call_ex can26 wp (fun a h=>?_)
   clear h wp
   simp only[go_sem,seval]
   by_cases hb:(n:Int)<(bt:Int)
   ·have hwd:=HW2.out
    rw[if_pos hb]at hwd
    clear HW2
    subst hwd
    (repeat'(first|(with_reducible refine Kp_atQ 15 ?_)|refine Ctl ?_|((with_reducible refine Kof.use hK ?_);clear hK hE K E)|((with_reducible refine W_cond (fun h=>?_) (fun h=>?_))<;>(try(exfalso;assumption)))|(((with_reducible first|refine G_region fun K E hK hE=>?_|refine call_ret can27 (wbi) ?_))<;>(try simp(disch:=omega) only[go_sem,seval,hb,hbb1,hbb2, *]))))
    unfold StopQ
    have wn:=CNilNew_S u D .no od
    (repeat'(first|refine Ctl ?_|((with_reducible refine Kof.use hK ?_);clear hK hE K E)|((with_reducible refine W_cond (fun h=>?_) (fun h=>?_))<;>(try(exfalso;assumption)))|((first|(with_reducible first|refine G_region fun K E hK hE=>?_|refine call_ret can29 (wn) ?_)|((with_reducible refine W_fresh (fun b hb=>?_))))<;>(try simp(disch:=omega) only[go_sem,seval, *]))))
    obtain⟨bz,hbz⟩:∃z,z=b:=⟨_,rfl⟩
    subst hbz
    obtain⟨U,hU⟩:∃U,U=u.set bz (.obj 63 [.raw (.pointer none),.lst [] .full,.lst [] .full]):=⟨_,rfl⟩
    rw[← hU]
    have hUz:U bz=.obj 63 [.raw (.pointer none),.lst [] .full,.lst [] .full]:=by rw[hU,St.set_same]
    have HFG:Hid (Fg U s'):=Lib.hid fun z=>by
     by_cases hz:s' z=.free
     ·exact .inl hz
     ·refine .inr ?_
      have h1:=HFU.out z hz
      rw[hU,St.set_other _ _ (nef ‹u bz=.free› (by rw[h1];exact hz)).1,h1]
    have wa:=WA.out U
    have nVars:=NVars_S U [[.int .i64 0]] .full
    have zVars:=ZVars_S U bz hUz [[.int .i64 0]] .full
    have nTuple:=NTuple_S U
    have zTuple:=ZTuple_S U bz hUz
    have nRange:=NRange_S U
    have zRange:=ZRange_S U bz hUz
    have nEqual:=NEqual_S U
    have zEqual:=ZEqual_S U bz hUz
    have nAdd:=NAdd_S U
    have zAdd:=ZAdd_S U bz hUz
    have nTuples:=NTuples_S U
    have zTuples:=ZTuples_S U bz hUz
    have nQuan:=NQuan_S U
    have zQuan:=ZQuan_S U bz hUz
    have nDoms:=NDoms_S U
    have zDoms:=ZDoms_S U bz hUz
    clear hU wn
    refine G_loop (fun m env s2=>∃(i:Nat),i≤2∧m+i=2∧s2=U∧env 15=.lst [[.raw (.pointer none)],[.ptr bz 0]] .full∧env 16=.int .i64 (i:Int)) 2 ?_ ?_
    ·exact⟨_,Fg.refl _,0,by omega,by omega,rfl,z_sl,z_sl⟩
    rintro m2 env s2 ⟨i2,hi2,hm2,rfl,e15,e16⟩
    by_cases h9:i2<2
    ·rcases(show i2=0∨i2=1 by omega)with rfl|rfl
     ·have e16':env 16=.int .i64 0:=e16
      clear e16
      (repeat'(first|refine Ctl ?_|((with_reducible refine Kof.use hK ?_);clear hK hE K E)|((with_reducible refine W_cond (fun h=>?_) (fun h=>?_))<;>(try(exfalso;assumption)))|(((with_reducible first|refine G_region fun K E hK hE=>?_|refine call_ret can21 (nVars) ?_|refine call_ret can16 (nTuple) ?_|refine call_ret can11 (nRange) ?_|refine call_ret can15 (nEqual) ?_|refine call_ret can24 (nAdd) ?_|refine call_ret can13 (nTuples) ?_|refine call_ret can17 (nQuan) ?_|refine call_ret can28 (nDoms) ?_))<;>(try simp(disch:=omega) only[go_sem,seval, *]))))
      all_goals exact⟨_,Fg.refl _,m2 - 1,by omega,1,by omega,by omega,rfl,z_sl,z_sl⟩
     ·have e16':env 16=.int .i64 1:=e16
      clear e16
      (repeat'(first|refine Ctl ?_|((with_reducible refine Kof.use hK ?_);clear hK hE K E)|((with_reducible refine W_cond (fun h=>?_) (fun h=>?_))<;>(try(exfalso;assumption)))|(((with_reducible first|refine G_region fun K E hK hE=>?_|refine call_ret can21 (zVars) ?_|refine call_ret can16 (zTuple) ?_|refine call_ret can11 (zRange) ?_|refine call_ret can15 (zEqual) ?_|refine call_ret can24 (zAdd) ?_|refine call_ret can13 (zTuples) ?_|refine call_ret can17 (zQuan) ?_|refine call_ret can28 (zDoms) ?_))<;>(try simp(disch:=omega) only[go_sem,seval, *]))))
      all_goals exact⟨_,Fg.refl _,m2 - 1,by omega,2,by omega,by omega,rfl,z_sl,z_sl⟩
    ·(repeat'(first|refine Ctl ?_|((with_reducible refine Kof.use hK ?_);clear hK hE K E)|((with_reducible refine W_cond (fun h=>?_) (fun h=>?_))<;>(try(exfalso;omega)))|(((with_reducible first|refine G_region fun K E hK hE=>?_|refine call_ret can12 (wa) ?_))<;>(try simp(disch:=omega) only[go_sem,seval, *]))))
     all_goals(refine W_ret res9 hQ ?_)
     all_goals exact⟨_,_,Wk.refl _,HFG.out,rfl,rfl⟩
   ·have hwd:=HW2.out
    rw[if_neg hb]at hwd
    clear HW2
    subst hwd
    have hne':=eq_false hne
    (repeat'(first|(with_reducible refine Kp_atQ 15 ?_)|refine Ctl ?_|((with_reducible refine Kof.use hK ?_);clear hK hE K E)|((with_reducible refine W_cond (fun h=>?_) (fun h=>?_))<;>(try(exfalso;assumption)))|(((with_reducible first|refine G_region fun K E hK hE=>?_|refine call_ret can27 (wbi) ?_))<;>(try simp(disch:=omega) only[go_sem,seval,hb,hne',hbb1,hbb2, *]))))
    unfold StopQ
    have wn:=CNilNew_S u D .no od
    (repeat'(first|refine Ctl ?_|((with_reducible refine Kof.use hK ?_);clear hK hE K E)|((with_reducible refine W_cond (fun h=>?_) (fun h=>?_))<;>(try(exfalso;assumption)))|((first|(with_reducible first|refine G_region fun K E hK hE=>?_|refine call_ret can29 (wn) ?_)|((with_reducible refine W_fresh (fun b hb=>?_))))<;>(try simp(disch:=omega) only[go_sem,seval, *]))))
    obtain⟨bz,hbz⟩:∃z,z=b:=⟨_,rfl⟩
    subst hbz
    obtain⟨U,hU⟩:∃U,U=u.set bz (.obj 63 [.raw (.pointer none),.lst [] .full,.lst [] .full]):=⟨_,rfl⟩
    rw[← hU]
    have hUz:U bz=.obj 63 [.raw (.pointer none),.lst [] .full,.lst [] .full]:=by rw[hU,St.set_same]
    have HFG:Hid (Fg U s'):=Lib.hid fun z=>by
     by_cases hz:s' z=.free
     ·exact .inl hz
     ·refine .inr ?_
      have h1:=HFU.out z hz
      rw[hU,St.set_other _ _ (nef ‹u bz=.free› (by rw[h1];exact hz)).1,h1]
    have wa:=WA.out U
    have nVars:=NVars_S U [[.int .i64 0]] .full
    have zVars:=ZVars_S U bz hUz [[.int .i64 0]] .full
    have nTuple:=NTuple_S U
    have zTuple:=ZTuple_S U bz hUz
    have nRange:=NRange_S U
    have zRange:=ZRange_S U bz hUz
    have nEqual:=NEqual_S U
    have zEqual:=ZEqual_S U bz hUz
    have nAdd:=NAdd_S U
    have zAdd:=ZAdd_S U bz hUz
    have nTuples:=NTuples_S U
    have zTuples:=ZTuples_S U bz hUz
    have nQuan:=NQuan_S U
    have zQuan:=ZQuan_S U bz hUz
    have nDoms:=NDoms_S U
    have zDoms:=ZDoms_S U bz hUz
    clear hU wn
    refine G_loop (fun m env s2=>∃(i:Nat),i≤2∧m+i=2∧s2=U∧env 15=.lst [[.raw (.pointer none)],[.ptr bz 0]] .full∧env 16=.int .i64 (i:Int)) 2 ?_ ?_
    ·exact⟨_,Fg.refl _,0,by omega,by omega,rfl,z_sl,z_sl⟩
    rintro m2 env s2 ⟨i2,hi2,hm2,rfl,e15,e16⟩
    by_cases h9:i2<2
    ·rcases(show i2=0∨i2=1 by omega)with rfl|rfl
     ·have e16':env 16=.int .i64 0:=e16
      clear e16
      (repeat'(first|refine Ctl ?_|((with_reducible refine Kof.use hK ?_);clear hK hE K E)|((with_reducible refine W_cond (fun h=>?_) (fun h=>?_))<;>(try(exfalso;assumption)))|(((with_reducible first|refine G_region fun K E hK hE=>?_|refine call_ret can21 (nVars) ?_|refine call_ret can16 (nTuple) ?_|refine call_ret can11 (nRange) ?_|refine call_ret can15 (nEqual) ?_|refine call_ret can24 (nAdd) ?_|refine call_ret can13 (nTuples) ?_|refine call_ret can17 (nQuan) ?_|refine call_ret can28 (nDoms) ?_))<;>(try simp(disch:=omega) only[go_sem,seval, *]))))
      all_goals exact⟨_,Fg.refl _,m2 - 1,by omega,1,by omega,by omega,rfl,z_sl,z_sl⟩
     ·have e16':env 16=.int .i64 1:=e16
      clear e16
      (repeat'(first|refine Ctl ?_|((with_reducible refine Kof.use hK ?_);clear hK hE K E)|((with_reducible refine W_cond (fun h=>?_) (fun h=>?_))<;>(try(exfalso;assumption)))|(((with_reducible first|refine G_region fun K E hK hE=>?_|refine call_ret can21 (zVars) ?_|refine call_ret can16 (zTuple) ?_|refine call_ret can11 (zRange) ?_|refine call_ret can15 (zEqual) ?_|refine call_ret can24 (zAdd) ?_|refine call_ret can13 (zTuples) ?_|refine call_ret can17 (zQuan) ?_|refine call_ret can28 (zDoms) ?_))<;>(try simp(disch:=omega) only[go_sem,seval, *]))))
      all_goals exact⟨_,Fg.refl _,m2 - 1,by omega,2,by omega,by omega,rfl,z_sl,z_sl⟩
    ·(repeat'(first|refine Ctl ?_|((with_reducible refine Kof.use hK ?_);clear hK hE K E)|((with_reducible refine W_cond (fun h=>?_) (fun h=>?_))<;>(try(exfalso;omega)))|(((with_reducible first|refine G_region fun K E hK hE=>?_|refine call_ret can12 (wa) ?_))<;>(try simp(disch:=omega) only[go_sem,seval, *]))))
     all_goals(refine W_ret res9 hQ ?_)
     all_goals exact⟨_,_,Wk.refl _,HFG.out,rfl,rfl⟩
  |ok o=>
   obtain⟨hwt,hmay⟩:=HWO.out o rfl
   have hwd:=HWD.out
   rw[hwt]at hwd
   have HW2:=Lib.hid hwd
   clear hwd
   obtain⟨dsN,hdN⟩:=doms_nat hmay
   have hC:=hCM o dsN rfl (HD.out.trans hdN)
   have wq:=Cquan_S u c q _ _ hC.co
   have hdc:domsC dsN=D:=by rw[HD.out,hdN]
   have wd:=CDoms_S u c D (.ptr q 0) (.lst (atC o) .no) (by rw[hC.co,hdc]) HX2.out (by rw[hlD];omega)
   clear hCM HWE HWO HWD HRV hwt hmay hdN hC hdc
   simp only[newV]
   simp only[go_sem,seval]
   (repeat'(first|refine Ctl ?_|((with_reducible refine Kof.use hK ?_);clear hK hE K E)|(((with_reducible refine G_region fun K E hK hE=>?_))<;>(try simp(disch:=omega) only[go_sem,seval, *]))))
   refine call_ex can26 wp (fun a h=>?_)
   clear h wp
   simp only[go_sem,seval]
   have hwd:=HW2.out
   have hb:¬ (n:Int)<(bt:Int):=fun hb=>by rw[if_pos hb]at hwd;omega
   rw[if_neg hb]at hwd
   clear HW2
   subst hwd
   (repeat'(first|(with_reducible refine Kp_atQ 15 ?_)|refine Ctl ?_|((with_reducible refine Kof.use hK ?_);clear hK hE K E)|((with_reducible refine W_cond (fun h=>?_) (fun h=>?_))<;>(try(exfalso;assumption)))|(((with_reducible first|refine G_region fun K E hK hE=>?_|refine call_ret can27 (wbi) ?_|refine call_ret can28 (wd) ?_|refine call_ret can17 (wq) ?_))<;>(try simp(disch:=omega) only[go_sem,seval,hb,hlD,hbb1,hbb2, *]))))
   unfold StopQ
   have wn:=CNilNew_S u D .no od
   (repeat'(first|refine Ctl ?_|((with_reducible refine Kof.use hK ?_);clear hK hE K E)|((with_reducible refine W_cond (fun h=>?_) (fun h=>?_))<;>(try(exfalso;assumption)))|((first|(with_reducible first|refine G_region fun K E hK hE=>?_|refine call_ret can29 (wn) ?_)|((with_reducible refine W_fresh (fun b hb=>?_))))<;>(try simp(disch:=omega) only[go_sem,seval, *]))))
   obtain⟨bz,hbz⟩:∃z,z=b:=⟨_,rfl⟩
   subst hbz
   obtain⟨U,hU⟩:∃U,U=u.set bz (.obj 63 [.raw (.pointer none),.lst [] .full,.lst [] .full]):=⟨_,rfl⟩
   rw[← hU]
   have hUz:U bz=.obj 63 [.raw (.pointer none),.lst [] .full,.lst [] .full]:=by rw[hU,St.set_same]
   have HFG:Hid (Fg U s'):=Lib.hid fun z=>by
    by_cases hz:s' z=.free
    ·exact .inl hz
    ·refine .inr ?_
     have h1:=HFU.out z hz
     rw[hU,St.set_other _ _ (nef ‹u bz=.free› (by rw[h1];exact hz)).1,h1]
   have wa:=WA.out U
   have nVars:=NVars_S U [[.int .i64 0]] .full
   have zVars:=ZVars_S U bz hUz [[.int .i64 0]] .full
   have nTuple:=NTuple_S U
   have zTuple:=ZTuple_S U bz hUz
   have nRange:=NRange_S U
   have zRange:=ZRange_S U bz hUz
   have nEqual:=NEqual_S U
   have zEqual:=ZEqual_S U bz hUz
   have nAdd:=NAdd_S U
   have zAdd:=ZAdd_S U bz hUz
   have nTuples:=NTuples_S U
   have zTuples:=ZTuples_S U bz hUz
   have nQuan:=NQuan_S U
   have zQuan:=ZQuan_S U bz hUz
   have nDoms:=NDoms_S U
   have zDoms:=ZDoms_S U bz hUz
   clear hU wn
   refine G_loop (fun m env s2=>∃(i:Nat),i≤2∧m+i=2∧s2=U∧env 15=.lst [[.raw (.pointer none)],[.ptr bz 0]] .full∧env 16=.int .i64 (i:Int)) 2 ?_ ?_
   ·exact⟨_,Fg.refl _,0,by omega,by omega,rfl,z_sl,z_sl⟩
   rintro m2 env s2 ⟨i2,hi2,hm2,rfl,e15,e16⟩
   by_cases h9:i2<2
   ·rcases(show i2=0∨i2=1 by omega)with rfl|rfl
    ·have e16':env 16=.int .i64 0:=e16
     clear e16
     (repeat'(first|refine Ctl ?_|((with_reducible refine Kof.use hK ?_);clear hK hE K E)|((with_reducible refine W_cond (fun h=>?_) (fun h=>?_))<;>(try(exfalso;assumption)))|(((with_reducible first|refine G_region fun K E hK hE=>?_|refine call_ret can21 (nVars) ?_|refine call_ret can16 (nTuple) ?_|refine call_ret can11 (nRange) ?_|refine call_ret can15 (nEqual) ?_|refine call_ret can24 (nAdd) ?_|refine call_ret can13 (nTuples) ?_|refine call_ret can17 (nQuan) ?_|refine call_ret can28 (nDoms) ?_))<;>(try simp(disch:=omega) only[go_sem,seval, *]))))
     all_goals exact⟨_,Fg.refl _,m2 - 1,by omega,1,by omega,by omega,rfl,z_sl,z_sl⟩
    ·have e16':env 16=.int .i64 1:=e16
     clear e16
     (repeat'(first|refine Ctl ?_|((with_reducible refine Kof.use hK ?_);clear hK hE K E)|((with_reducible refine W_cond (fun h=>?_) (fun h=>?_))<;>(try(exfalso;assumption)))|(((with_reducible first|refine G_region fun K E hK hE=>?_|refine call_ret can21 (zVars) ?_|refine call_ret can16 (zTuple) ?_|refine call_ret can11 (zRange) ?_|refine call_ret can15 (zEqual) ?_|refine call_ret can24 (zAdd) ?_|refine call_ret can13 (zTuples) ?_|refine call_ret can17 (zQuan) ?_|refine call_ret can28 (zDoms) ?_))<;>(try simp(disch:=omega) only[go_sem,seval, *]))))
     all_goals exact⟨_,Fg.refl _,m2 - 1,by omega,2,by omega,by omega,rfl,z_sl,z_sl⟩
   ·(repeat'(first|refine Ctl ?_|((with_reducible refine Kof.use hK ?_);clear hK hE K E)|((with_reducible refine W_cond (fun h=>?_) (fun h=>?_))<;>(try(exfalso;omega)))|(((with_reducible first|refine G_region fun K E hK hE=>?_|refine call_ret can12 (wa) ?_))<;>(try simp(disch:=omega) only[go_sem,seval, *]))))
    all_goals(refine W_ret res9 hQ ?_)
    all_goals exact⟨_,_,Wk.refl _,HFG.out,rfl,rfl⟩
end Go.Proofs.YtndlnadbnganeaaGreatDoor
