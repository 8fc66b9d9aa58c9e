/- Walks of functions that the claim reaches, and plain facts of them. Conditions: those in the statements. -/
import Derived.Test.YtndlnadbnganeaaGreatDoorJnRx
import Derived.Test.YtndlnadbnganeaaGreatDoorJnVc
set_option linter.unusedSimpArgs false
set_option linter.unusedVariables false
set_option maxRecDepth 100000
namespace Go.Proofs.YtndlnadbnganeaaGreatDoor
open Go.RowKit
abbrev BegA:=St×OB×Nat×Nat
set_option maxHeartbeats 8000000 in
theorem Cbegun_S (s:St)(n:Nat)(hn:n≤256)(ds:List Dm)(ow:Own)(od:List UInt8)(hne:ds≠[])(hl:ds.length≤1000000)(hnl:∀d,d∈ds→d.1.length≤1000000000)(hod:od.length≤10000) :
  SCalls Tryz.prog 25 [.int .i64 n,.lst (domsI ds) ow,.str od] s fun w u=>∃a:BegA,w=.ret (newV a.2.2.2 (newF n ds od))∧u=a.1 ∧
   (∀o dsN,newF n ds od=.ok o→domsI ds=domsC dsN→CMem a.1 a.2.1 a.2.2.1 a.2.2.2 n 16384 [.lf false,.lf true] dsN o)∧∀z,s z≠.free→a.1 z=s z∧¬ a.2.1.has z:=by
 have w1:=Nnew_S s n 16384 hn (by omega) (by omega)
 have hnew:=fun(u:St) (KK:OB) (q:Nat) (hO:OMem u KK n 16384 [.lf false,.lf true]) (hq:u q=.obj 83 [.ptr KK.o 0,.ptr KK.s.p 0])=>Cnew_S hO hq ds ow od hne hl hnl hod
 obtain⟨RV,hRV⟩:∃RV,newF n ds od=RV:=⟨_,rfl⟩
 simp only[hRV]at hnew
 rw[hRV]
 have HNEW:=Lib.hid hnew
 clear hRV
 have hdI:Hid (∃x,x=domsI ds):=Lib.hid ⟨_,rfl⟩
 obtain⟨D,hD⟩:∃D,D=domsI ds:=⟨_,rfl⟩
 have HD:=Lib.hid hD
 rw[← hD]
 clear hnew hne hl hnl hod hdI hD
 refine G_enter Tryz.func25 rfl Tryz.ntmps25 rfl fun Q hQ hQe=>?_
 (repeat'(first|refine Ctl ?_|((with_reducible refine Kof.use hK ?_);clear hK hE K E)|(((with_reducible refine G_region fun K E hK hE=>?_))<;>(try simp(disch:=omega) only[go_sem,seval, *]))))
 refine call_ex can47 w1 (fun a h=>?_)
 obtain⟨u1,KS⟩:=a
 obtain⟨hS1,hf1⟩:=h
 dsimp only at hS1 hf1 ⊢
 have w2:=Onew_S hS1
 have HF1:=Lib.hid hf1
 clear w1 hS1 hf1
 simp only[go_sem,seval]
 (repeat'(first|refine Ctl ?_|((with_reducible refine Kof.use hK ?_);clear hK hE K E)|(((with_reducible refine G_region fun K E hK hE=>?_))<;>(try simp(disch:=omega) only[go_sem,seval, *]))))
 refine call_ex can48 w2 (fun a h=>?_)
 obtain⟨u2,o2⟩:=a
 obtain⟨hO2,hof,hf2⟩:=h
 dsimp only at hO2 hof hf2 ⊢
 obtain⟨d,cc,hoo⟩:=hO2.op
 dsimp only at hoo
 have w3:=Qnew_S u2 o2 KS.p d cc hoo
 have HF2:=Lib.hid hf2
 have HOF:=Lib.hid hof
 have HO2:=Lib.hid hO2
 clear w2 hof hf2 hO2 hoo
 simp only[go_sem,seval]
 (repeat'(first|refine Ctl ?_|((with_reducible refine Kof.use hK ?_);clear hK hE K E)|(((with_reducible refine G_region fun K E hK hE=>?_))<;>(try simp(disch:=omega) only[go_sem,seval, *]))))
 have w3':SCalls Tryz.prog 49 [.ptr o2 0] u2 fun w u=>∃a:BoxA,w=.ret (.tup [.ptr a.2 0,.int .i64 0])∧u=a.1∧u2 a.2=.free∧a.1=u2.set a.2 (.obj 83 [.ptr o2 0,.ptr KS.p 0]):=by
  refine SCalls.mono (h:=w3) ?_
  rintro w u ⟨q,rfl,rfl,hq⟩
  exact⟨(_,q),rfl,rfl,hq,rfl⟩
 refine call_ex can49 w3' (fun a h=>?_)
 obtain⟨u3,q⟩:=a
 obtain⟨hqf,hu3⟩:=h
 dsimp only at hqf hu3 ⊢
 have hf3:∀z,u2 z≠.free→u3 z=u2 z:=fun z hz=>by rw[hu3,St.set_other _ _ (nef hqf hz).1]
 have hO3:OMem u3 ⟨KS,o2,o2⟩ n 16384 [.lf false,.lf true]:=HO2.out.keep fun z hz=>hf3 z (HO2.out.live hz)
 have hq3:u3 q=.obj 83 [.ptr o2 0,.ptr KS.p 0]:=by rw[hu3,St.set_same]
 have w4:=HNEW.out u3 ⟨KS,o2,o2⟩ q hO3 hq3
 rw[← HD.out]at w4
 have HF3:=Lib.hid hf3
 have HO3:=Lib.hid hO3
 have HQ3:=Lib.hid hq3
 clear w3 w3' hqf hu3 hf3 hO3 hq3
 simp only[go_sem,seval]
 (repeat'(first|refine Ctl ?_|((with_reducible refine Kof.use hK ?_);clear hK hE K E)|((with_reducible refine W_cond (fun h=>?_) (fun h=>?_))<;>(try(exfalso;assumption)))|(((with_reducible refine G_region fun K E hK hE=>?_))<;>(try simp(disch:=omega) only[go_sem,seval, *]))))
 refine call_ex can29 w4 (fun a h=>?_)
 obtain⟨u4,c⟩:=a
 dsimp only at h ⊢
 have hfr:∀z,s z≠.free→u3 z=s z:=fun z hz=>by
  have e1:=(HF1.out z hz).1
  have e2:=HF2.out z (by rw[e1];exact hz)
  rw[HF3.out z (by rw[e2,e1];exact hz),e2,e1]
 have hnh:∀z,s z≠.free→¬ OB.has ⟨KS,o2,o2⟩ z:=fun z hz hh=>by
  obtain⟨e1,e2⟩:=HF1.out z hz
  rcases hh with hh|hh|hh
  ·exact e2 hh
  ·dsimp only at hh;subst hh;exact hz (by rw[← e1];exact HOF.out)
  ·dsimp only at hh;subst hh;exact hz (by rw[← e1];exact HOF.out)
 have hfin:(∀o dsN,RV=.ok o→D=domsC dsN→CMem u4 ⟨KS,o2,o2⟩ q c n 16384 [.lf false,.lf true] dsN o)∧∀z,s z≠.free→u4 z=s z∧¬ OB.has ⟨KS,o2,o2⟩ z:=by
  have HO:=HO3.out
  have HQ:=HQ3.out
  cases RV with
  |error e=>
   have hu:u4=u3:=h
   subst hu
   exact⟨fun o dsN e=>(by cases e),fun z hz=>⟨hfr z hz,hnh z hz⟩⟩
  |ok o=>
   have h':u3 c=.free∧u4=u3.set c (.obj 63 [.ptr q 0,.lst (domsI ds) .no,.lst (atC o) .no]):=h
   obtain⟨hc,hu⟩:=h'
   have ho4:∀z,u3 z≠.free→u4 z=u3 z:=fun z hz=>by rw[hu,St.set_other _ _ (nef hc hz).1]
   refine⟨fun o' dsN e e2=>?_,fun z hz=>⟨by rw[ho4 z (by rw[hfr z hz];exact hz),hfr z hz],hnh z hz⟩⟩
   injection e with e
   subst e
   refine⟨HO.keep fun z hz=>ho4 z (HO.live hz),by rw[ho4 q (by rw[HQ];simp)];exact HQ,?_⟩
   rw[hu,St.set_same,← HD.out,e2]
 have HFIN:=Lib.hid hfin
 clear h hfr hfin hnh w4 HF1 HF2 HF3 HO2 HO3 HQ3 HOF
 cases RV with
 |error e=>
  simp only[newV]
  simp only[go_sem,seval]
  (repeat'(first|refine Ctl ?_|((with_reducible refine Kof.use hK ?_);clear hK hE K E)))
  all_goals(refine W_ret res25 hQ ?_)
  exact⟨_,_,Wk.refl _,Fg.refl _,mkA (⟨KS,o2,o2⟩,q,c) rfl HFIN.out⟩
 |ok o=>
  simp only[newV]
  simp only[go_sem,seval]
  (repeat'(first|refine Ctl ?_|((with_reducible refine Kof.use hK ?_);clear hK hE K E)))
  all_goals(refine W_ret res25 hQ ?_)
  exact⟨_,_,Wk.refl _,Fg.refl _,mkA (⟨KS,o2,o2⟩,q,c) rfl HFIN.out⟩
theorem CloneA_S (s:St)(xs:List (List VV))(ow:Own)(hx:∀x,x∈xs→x.length=2)(hl:xs.length≤1000000):SRet Tryz.prog 53 [.lst xs ow] s (.lst xs .no) s:=by
 by_cases h:xs=[]
 ·subst h;exact CloneZ_S s ow
 ·exact CloneD_S s xs ow h hx hl
set_option maxHeartbeats 4000000 in
theorem CnewA_S {s:St}{KK:OB}{n B q:Nat}{ns:List Tr}(hO:OMem s KK n B ns)(hq:s q=.obj 83 [.ptr KK.o 0,.ptr KK.s.p 0])(ds:List Dm)(ow:Own)(od:List UInt8)(hl:ds.length≤1000000)(hnl:∀d,d∈ds→d.1.length≤1000000000)(hod:od.length≤10000) :
  SCalls Tryz.prog 29 [.ptr q 0,.lst (domsI ds) ow,.str od] s fun w u=>∃a:BoxA,w=.ret (newV a.2 (newF n ds od))∧u=a.1∧NewR s a.1 q a.2 ds (newF n ds od):=by
 obtain⟨d,cc,ho⟩:=hO.op
 obtain⟨mk,hM⟩:=hO.st.mem
 have wq:=Qops_S s q KK.o KK.s.p hq
 have ws:=Ostore_S s KK.o KK.s.p d cc ho
 have wv:=Nvars_S s KK.s.p KK.s.g KK.s.q n B ns mk 0 hM
 have wc:=Lcheck_S s ds ow hl hnl
 have wb:=Lbits_S s ds ow hl hnl
 have wp:=Lplace_S s ds ow od hl hnl hod
 have wl:=CloneA_S s (domsI ds) ow (fun x hx=>by obtain⟨y,_,rfl⟩:=List.mem_map.1 hx;rfl) (by rw[domsI_len];exact hl)
 clear hO hM hq ho hl hnl hod
 have hErr:∀e:Int,newF n ds od=.error e→(SRet Tryz.prog 29 [.ptr q 0,.lst (domsI ds) ow,.str od] s (.tup [nilP,.int .i64 e]) s)→SCalls Tryz.prog 29 [.ptr q 0,.lst (domsI ds) ow,.str od] s fun w u=>∃a:BoxA,w=.ret (newV a.2 (newF n ds od))∧u=a.1∧NewR s a.1 q a.2 ds (newF n ds od):=fun e h hs=>by
  rw[h]
  refine SCalls.mono (h:=hs) ?_
  rintro w u ⟨rfl,rfl⟩
  exact⟨(u,0),rfl,rfl,rfl⟩
 by_cases h1:mayDs ds=true
 ·rw[if_pos h1]at wc wb
  by_cases h2:(wdL ds).sum≤n
  ·have e1:newF n ds od=placeF ds od:=by unfold newF;rw[if_pos ⟨h1,h2⟩]
   have h2':¬ (((wdL ds).sum:Nat):Int) > (n:Int):=by omega
   have h2'':¬ (n:Int)<(((wdL ds).sum:Nat):Int):=by omega
   cases hp:placeF ds od with
   |error e=>
    refine hErr e (e1.trans hp) ?_
    rw[hp]at wp
    have he:¬ e=0:=by rcases placeF_err hp with h|h<;>omega
    simp only[plV]at wp
    clear e1 hErr hp
    generalize domsI ds=D at *
    generalize (wdL ds).sum=SM at *
    refine G_enter Tryz.func29 rfl Tryz.ntmps29 rfl fun Q hQ hQe=>?_
    (repeat'(first|refine Ctl ?_|((with_reducible refine Kof.use hK ?_);clear hK hE K E)|((with_reducible refine W_cond (fun h=>?_) (fun h=>?_))<;>(try(exfalso;assumption)))|(((with_reducible first|refine G_region fun K E hK hE=>?_|refine call_ret can18 (wq) ?_|refine call_ret can54 (wc) ?_|refine call_ret can55 (wb) ?_|refine call_ret can33 (ws) ?_|refine call_ret can56 (wv) ?_|refine call_ret can57 (wp) ?_))<;>(try simp(disch:=omega) only[go_sem,seval,h2',h2'',he, *]))))
    all_goals(refine W_ret res29 hQ ?_)
    all_goals exact⟨_,_,Wk.refl _,Fg.refl _,rfl,rfl⟩
   |ok o=>
    rw[e1,hp]
    rw[hp]at wp
    simp only[plV]at wp
    have hNR:=fun(b:Nat) (hb:s b=.free)=>show NewR s (s.set b (.obj 63 [.ptr q 0,.lst (domsI ds) .no,.lst (atC o) .no])) q b ds (.ok o) from ⟨hb,rfl⟩
    have HNR:=Lib.hid hNR
    clear e1 hErr hp hNR
    generalize domsI ds=D at *
    generalize (wdL ds).sum=SM at *
    generalize atC o=A at *
    refine G_enter Tryz.func29 rfl Tryz.ntmps29 rfl fun Q hQ hQe=>?_
    (repeat'(first|refine Ctl ?_|((with_reducible refine Kof.use hK ?_);clear hK hE K E)|((with_reducible refine W_cond (fun h=>?_) (fun h=>?_))<;>(try(exfalso;assumption)))|((first|(with_reducible first|refine G_region fun K E hK hE=>?_|refine call_ret can18 (wq) ?_|refine call_ret can54 (wc) ?_|refine call_ret can55 (wb) ?_|refine call_ret can33 (ws) ?_|refine call_ret can56 (wv) ?_|refine call_ret can57 (wp) ?_|refine call_ret can53 (wl) ?_)|((with_reducible refine W_fresh (fun b hb=>?_))))<;>(try simp(disch:=omega) only[go_sem,seval,h2',h2'', *]))))
    all_goals(refine W_ret res29 hQ ?_)
    exact⟨_,_,Wk.refl _,Fg.refl _,mkA b rfl (HNR.out b hb)⟩
  ·have e1:newF n ds od=.error 1:=by unfold newF;rw[if_neg fun h=>h2 h.2]
   have h2':(((wdL ds).sum:Nat):Int) > (n:Int):=by omega
   have h2'':(n:Int)<(((wdL ds).sum:Nat):Int):=by omega
   refine hErr 1 e1 ?_
   clear e1 hErr wp wl
   generalize domsI ds=D at *
   generalize (wdL ds).sum=SM at *
   refine G_enter Tryz.func29 rfl Tryz.ntmps29 rfl fun Q hQ hQe=>?_
   (repeat'(first|refine Ctl ?_|((with_reducible refine Kof.use hK ?_);clear hK hE K E)|((with_reducible refine W_cond (fun h=>?_) (fun h=>?_))<;>(try(exfalso;assumption)))|(((with_reducible first|refine G_region fun K E hK hE=>?_|refine call_ret can18 (wq) ?_|refine call_ret can54 (wc) ?_|refine call_ret can55 (wb) ?_|refine call_ret can33 (ws) ?_|refine call_ret can56 (wv) ?_))<;>(try simp(disch:=omega) only[go_sem,seval,h2',h2'', *]))))
   all_goals(refine W_ret res29 hQ ?_)
   all_goals exact⟨_,_,Wk.refl _,Fg.refl _,rfl,rfl⟩
 ·have e1:newF n ds od=.error 1:=by unfold newF;rw[if_neg fun h=>h1 h.1]
  rw[if_neg h1]at wc
  refine hErr 1 e1 ?_
  clear e1 hErr wp wl wb
  generalize domsI ds=D at *
  refine G_enter Tryz.func29 rfl Tryz.ntmps29 rfl fun Q hQ hQe=>?_
  (repeat'(first|refine Ctl ?_|((with_reducible refine Kof.use hK ?_);clear hK hE K E)|((with_reducible refine W_cond (fun h=>?_) (fun h=>?_))<;>(try(exfalso;assumption)))|(((with_reducible first|refine G_region fun K E hK hE=>?_|refine call_ret can18 (wq) ?_|refine call_ret can54 (wc) ?_))<;>(try simp(disch:=omega) only[go_sem,seval, *]))))
  all_goals(refine W_ret res29 hQ ?_)
  all_goals exact⟨_,_,Wk.refl _,Fg.refl _,rfl,rfl⟩
set_option maxHeartbeats 8000000 in
theorem CbegunA_S (s:St)(n:Nat)(hn:n≤256)(ds:List Dm)(ow:Own)(od:List UInt8)(hl:ds.length≤1000000)(hnl:∀d,d∈ds→d.1.length≤1000000000)(hod:od.length≤10000) :
  SCalls Tryz.prog 25 [.int .i64 n,.lst (domsI ds) ow,.str od] s fun w u=>∃a:BegA,w=.ret (newV a.2.2.2 (newF n ds od))∧u=a.1 ∧
   (∀o dsN,newF n ds od=.ok o→domsI ds=domsC dsN→CMem a.1 a.2.1 a.2.2.1 a.2.2.2 n 16384 [.lf false,.lf true] dsN o)∧∀z,s z≠.free→a.1 z=s z∧¬ a.2.1.has z:=by
 have w1:=Nnew_S s n 16384 hn (by omega) (by omega)
 have hnew:=fun(u:St) (KK:OB) (q:Nat) (hO:OMem u KK n 16384 [.lf false,.lf true]) (hq:u q=.obj 83 [.ptr KK.o 0,.ptr KK.s.p 0])=>CnewA_S hO hq ds ow od hl hnl hod
 obtain⟨RV,hRV⟩:∃RV,newF n ds od=RV:=⟨_,rfl⟩
 simp only[hRV]at hnew
 rw[hRV]
 have HNEW:=Lib.hid hnew
 clear hRV
 have hdI:Hid (∃x,x=domsI ds):=Lib.hid ⟨_,rfl⟩
 obtain⟨D,hD⟩:∃D,D=domsI ds:=⟨_,rfl⟩
 have HD:=Lib.hid hD
 rw[← hD]
 clear hnew hl hnl hod hdI hD
 refine G_enter Tryz.func25 rfl Tryz.ntmps25 rfl fun Q hQ hQe=>?_
 (repeat'(first|refine Ctl ?_|((with_reducible refine Kof.use hK ?_);clear hK hE K E)|(((with_reducible refine G_region fun K E hK hE=>?_))<;>(try simp(disch:=omega) only[go_sem,seval, *]))))
 refine call_ex can47 w1 (fun a h=>?_)
 obtain⟨u1,KS⟩:=a
 obtain⟨hS1,hf1⟩:=h
 dsimp only at hS1 hf1 ⊢
 have w2:=Onew_S hS1
 have HF1:=Lib.hid hf1
 clear w1 hS1 hf1
 simp only[go_sem,seval]
 (repeat'(first|refine Ctl ?_|((with_reducible refine Kof.use hK ?_);clear hK hE K E)|(((with_reducible refine G_region fun K E hK hE=>?_))<;>(try simp(disch:=omega) only[go_sem,seval, *]))))
 refine call_ex can48 w2 (fun a h=>?_)
 obtain⟨u2,o2⟩:=a
 obtain⟨hO2,hof,hf2⟩:=h
 dsimp only at hO2 hof hf2 ⊢
 obtain⟨d,cc,hoo⟩:=hO2.op
 dsimp only at hoo
 have w3:=Qnew_S u2 o2 KS.p d cc hoo
 have HF2:=Lib.hid hf2
 have HOF:=Lib.hid hof
 have HO2:=Lib.hid hO2
 clear w2 hof hf2 hO2 hoo
 simp only[go_sem,seval]
 (repeat'(first|refine Ctl ?_|((with_reducible refine Kof.use hK ?_);clear hK hE K E)|(((with_reducible refine G_region fun K E hK hE=>?_))<;>(try simp(disch:=omega) only[go_sem,seval, *]))))
 have w3':SCalls Tryz.prog 49 [.ptr o2 0] u2 fun w u=>∃a:BoxA,w=.ret (.tup [.ptr a.2 0,.int .i64 0])∧u=a.1∧u2 a.2=.free∧a.1=u2.set a.2 (.obj 83 [.ptr o2 0,.ptr KS.p 0]):=by
  refine SCalls.mono (h:=w3) ?_
  rintro w u ⟨q,rfl,rfl,hq⟩
  exact⟨(_,q),rfl,rfl,hq,rfl⟩
 refine call_ex can49 w3' (fun a h=>?_)
 obtain⟨u3,q⟩:=a
 obtain⟨hqf,hu3⟩:=h
 dsimp only at hqf hu3 ⊢
 have hf3:∀z,u2 z≠.free→u3 z=u2 z:=fun z hz=>by rw[hu3,St.set_other _ _ (nef hqf hz).1]
 have hO3:OMem u3 ⟨KS,o2,o2⟩ n 16384 [.lf false,.lf true]:=HO2.out.keep fun z hz=>hf3 z (HO2.out.live hz)
 have hq3:u3 q=.obj 83 [.ptr o2 0,.ptr KS.p 0]:=by rw[hu3,St.set_same]
 have w4:=HNEW.out u3 ⟨KS,o2,o2⟩ q hO3 hq3
 rw[← HD.out]at w4
 have HF3:=Lib.hid hf3
 have HO3:=Lib.hid hO3
 have HQ3:=Lib.hid hq3
 clear w3 w3' hqf hu3 hf3 hO3 hq3
 simp only[go_sem,seval]
 (repeat'(first|refine Ctl ?_|((with_reducible refine Kof.use hK ?_);clear hK hE K E)|((with_reducible refine W_cond (fun h=>?_) (fun h=>?_))<;>(try(exfalso;assumption)))|(((with_reducible refine G_region fun K E hK hE=>?_))<;>(try simp(disch:=omega) only[go_sem,seval, *]))))
 refine call_ex can29 w4 (fun a h=>?_)
 obtain⟨u4,c⟩:=a
 dsimp only at h ⊢
 have hfr:∀z,s z≠.free→u3 z=s z:=fun z hz=>by
  have e1:=(HF1.out z hz).1
  have e2:=HF2.out z (by rw[e1];exact hz)
  rw[HF3.out z (by rw[e2,e1];exact hz),e2,e1]
 have hnh:∀z,s z≠.free→¬ OB.has ⟨KS,o2,o2⟩ z:=fun z hz hh=>by
  obtain⟨e1,e2⟩:=HF1.out z hz
  rcases hh with hh|hh|hh
  ·exact e2 hh
  ·dsimp only at hh;subst hh;exact hz (by rw[← e1];exact HOF.out)
  ·dsimp only at hh;subst hh;exact hz (by rw[← e1];exact HOF.out)
 have hfin:(∀o dsN,RV=.ok o→D=domsC dsN→CMem u4 ⟨KS,o2,o2⟩ q c n 16384 [.lf false,.lf true] dsN o)∧∀z,s z≠.free→u4 z=s z∧¬ OB.has ⟨KS,o2,o2⟩ z:=by
  have HO:=HO3.out
  have HQ:=HQ3.out
  cases RV with
  |error e=>
   have hu:u4=u3:=h
   subst hu
   exact⟨fun o dsN e=>(by cases e),fun z hz=>⟨hfr z hz,hnh z hz⟩⟩
  |ok o=>
   have h':u3 c=.free∧u4=u3.set c (.obj 63 [.ptr q 0,.lst (domsI ds) .no,.lst (atC o) .no]):=h
   obtain⟨hc,hu⟩:=h'
   have ho4:∀z,u3 z≠.free→u4 z=u3 z:=fun z hz=>by rw[hu,St.set_other _ _ (nef hc hz).1]
   refine⟨fun o' dsN e e2=>?_,fun z hz=>⟨by rw[ho4 z (by rw[hfr z hz];exact hz),hfr z hz],hnh z hz⟩⟩
   injection e with e
   subst e
   refine⟨HO.keep fun z hz=>ho4 z (HO.live hz),by rw[ho4 q (by rw[HQ];simp)];exact HQ,?_⟩
   rw[hu,St.set_same,← HD.out,e2]
 have HFIN:=Lib.hid hfin
 clear h hfr hfin hnh w4 HF1 HF2 HF3 HO2 HO3 HQ3 HOF
 cases RV with
 |error e=>
  simp only[newV]
  simp only[go_sem,seval]
  (repeat'(first|refine Ctl ?_|((with_reducible refine Kof.use hK ?_);clear hK hE K E)))
  all_goals(refine W_ret res25 hQ ?_)
  exact⟨_,_,Wk.refl _,Fg.refl _,mkA (⟨KS,o2,o2⟩,q,c) rfl HFIN.out⟩
 |ok o=>
  simp only[newV]
  simp only[go_sem,seval]
  (repeat'(first|refine Ctl ?_|((with_reducible refine Kof.use hK ?_);clear hK hE K E)))
  all_goals(refine W_ret res25 hQ ?_)
  exact⟨_,_,Wk.refl _,Fg.refl _,mkA (⟨KS,o2,o2⟩,q,c) rfl HFIN.out⟩
theorem p_nilR:nilB .ptr (.raw (.pointer none)) (.raw (.pointer none))=some true:=rfl
theorem one_nilR:(VV.raw (.pointer none)).one=true:=rfl
attribute [local go_sem] p_nilR one_nilR
abbrev nobC:List VV:=[(.raw (.pointer none)),.lst [] .full,.lst [] .full]
set_option maxHeartbeats 4000000 in
theorem NVars_S (s:St)(V:List (List VV))(ow:Own):SRet Tryz.prog 21 [(.raw (.pointer none)),.lst V ow] s (.tup [.lst [] .no,.int .i64 1]) s:=by
 refine G_enter Tryz.func21 rfl Tryz.ntmps21 rfl fun Q hQ hQe=>?_
 (repeat'(first|refine Ctl ?_|((with_reducible refine Kof.use hK ?_);clear hK hE K E)|((with_reducible refine W_cond (fun h=>?_) (fun h=>?_))<;>(try(exfalso;assumption)))|(((with_reducible refine G_region fun K E hK hE=>?_))<;>(try simp(disch:=omega) only[go_sem,seval, *]))))
 all_goals(refine W_ret res21 hQ ?_)
 all_goals exact⟨_,_,Wk.tupQ,Fg.refl _,rfl,rfl⟩
set_option maxHeartbeats 4000000 in
theorem NTuple_S (s:St):SRet Tryz.prog 16 [(.raw (.pointer none)),.lst [[.int .i64 0]] .full,.lst [[.int .i64 0]] .full] s (.tup [.int .i64 0,.int .i64 1]) s:=by
 have wv:=NVars_S s [[.int .i64 0]] .full
 refine G_enter Tryz.func16 rfl Tryz.ntmps16 rfl fun Q hQ hQe=>?_
 (repeat'(first|refine Ctl ?_|((with_reducible refine Kof.use hK ?_);clear hK hE K E)|((with_reducible refine W_cond (fun h=>?_) (fun h=>?_))<;>(try(exfalso;assumption)))|(((with_reducible first|refine G_region fun K E hK hE=>?_|refine call_ret can21 (wv) ?_))<;>(try simp(disch:=omega) only[go_sem,seval, *]))))
 all_goals(refine W_ret res16 hQ ?_)
 all_goals exact⟨_,_,Wk.refl _,Fg.refl _,rfl,rfl⟩
set_option maxHeartbeats 4000000 in
theorem NRange_S (s:St):SRet Tryz.prog 11 [(.raw (.pointer none)),.int .i64 0,.int .i64 0,.int .i64 0] s (.tup [.int .i64 0,.int .i64 1]) s:=by
 refine G_enter Tryz.func11 rfl Tryz.ntmps11 rfl fun Q hQ hQe=>?_
 (repeat'(first|refine Ctl ?_|((with_reducible refine Kof.use hK ?_);clear hK hE K E)|((with_reducible refine W_cond (fun h=>?_) (fun h=>?_))<;>(try(exfalso;assumption)))|(((with_reducible refine G_region fun K E hK hE=>?_))<;>(try simp(disch:=omega) only[go_sem,seval, *]))))
 all_goals(refine W_ret res11 hQ ?_)
 all_goals exact⟨_,_,Wk.refl _,Fg.refl _,rfl,rfl⟩
set_option maxHeartbeats 4000000 in
theorem NEqual_S (s:St):SRet Tryz.prog 15 [(.raw (.pointer none)),.int .i64 0,.int .i64 0] s (.tup [.int .i64 0,.int .i64 1]) s:=by
 refine G_enter Tryz.func15 rfl Tryz.ntmps15 rfl fun Q hQ hQe=>?_
 (repeat'(first|refine Ctl ?_|(with_reducible first|(refine Kof.use hK ?_;clear hK hE K E)|(refine Kof.use hKh ?_;clear hKh Kh)|(refine Kof.use hKb (P_next ?_);clear hKb Kb)|refine G_plan 1 [([0,1,2,3,4,5,6,7,8,9,10,11,12,13],14,[[]])] [15,16,17,18,19,20,21,22,23,24,25,26,27,28,29,30,31,32,33,34,35] hQe fun K E hK hE=>?_)|((with_reducible refine W_cond (fun h=>?_) (fun h=>?_))<;>(try(exfalso;assumption)))|((first|(with_reducible first|refine G_region fun K E hK hE=>?_|refine P_heads fun Kh hKh=>?_|refine P_fin fun Kh hKh=>?_|refine P_each fun Kb hKb=>?_)|((with_reducible refine W_fresh (fun b hb=>?_));(repeat(obtain⟨_,hb⟩:=hb))))<;>(try simp(disch:=omega) only[go_sem,seval, *]))))
 all_goals(refine W_ret res15 hQ ?_)
 all_goals(refine⟨_,_,Wk.refl _,?_,rfl,rfl⟩;(exact z_fg))
set_option maxHeartbeats 4000000 in
theorem NAdd_S (s:St):SRet Tryz.prog 24 [(.raw (.pointer none)),.int .i64 0,.int .i64 1,.int .i64 0] s (.tup [.int .i64 0,.int .i64 1]) s:=by
 refine G_enter Tryz.func24 rfl Tryz.ntmps24 rfl fun Q hQ hQe=>?_
 (repeat'(first|refine Ctl ?_|((with_reducible refine Kof.use hK ?_);clear hK hE K E)|((with_reducible refine W_cond (fun h=>?_) (fun h=>?_))<;>(try(exfalso;assumption)))|(((with_reducible refine G_region fun K E hK hE=>?_))<;>(try simp(disch:=omega) only[go_sem,seval, *]))))
 all_goals(refine W_ret res24 hQ ?_)
 all_goals exact⟨_,_,Wk.refl _,Fg.refl _,rfl,rfl⟩
set_option maxHeartbeats 4000000 in
theorem NTuples_S (s:St):SRet Tryz.prog 13 [(.raw (.pointer none)),.int .i64 0,.lst [] .full,.int .i64 1] s (.tup [.lst [] .no,.int .i64 1]) s:=by
 have wv:=NVars_S s [] .full
 refine G_enter Tryz.func13 rfl Tryz.ntmps13 rfl fun Q hQ hQe=>?_
 (repeat'(first|refine Ctl ?_|((with_reducible refine Kof.use hK ?_);clear hK hE K E)|((with_reducible refine W_cond (fun h=>?_) (fun h=>?_))<;>(try(exfalso;assumption)))|(((with_reducible first|refine G_region fun K E hK hE=>?_|refine call_ret can21 (wv) ?_))<;>(try simp(disch:=omega) only[go_sem,seval, *]))))
 all_goals(refine W_ret res13 hQ ?_)
 all_goals exact⟨_,_,Wk.tupQ,Fg.refl _,rfl,rfl⟩
set_option maxHeartbeats 4000000 in
theorem NQuan_S (s:St):SRet Tryz.prog 17 [(.raw (.pointer none))] s (.raw (.pointer none)) s:=by
 refine G_enter Tryz.func17 rfl Tryz.ntmps17 rfl fun Q hQ hQe=>?_
 (repeat'(first|refine Ctl ?_|((with_reducible refine Kof.use hK ?_);clear hK hE K E)|((with_reducible refine W_cond (fun h=>?_) (fun h=>?_))<;>(try(exfalso;assumption)))|(((with_reducible refine G_region fun K E hK hE=>?_))<;>(try simp(disch:=omega) only[go_sem,seval, *]))))
 all_goals(refine W_ret res17 hQ ?_)
 all_goals exact⟨_,_,Wk.refl _,Fg.refl _,rfl,rfl⟩
set_option maxHeartbeats 4000000 in
theorem NDoms_S (s:St):SRet Tryz.prog 28 [(.raw (.pointer none))] s (.lst [] .no) s:=by
 refine G_enter Tryz.func28 rfl Tryz.ntmps28 rfl fun Q hQ hQe=>?_
 (repeat'(first|refine Ctl ?_|((with_reducible refine Kof.use hK ?_);clear hK hE K E)|((with_reducible refine W_cond (fun h=>?_) (fun h=>?_))<;>(try(exfalso;assumption)))|(((with_reducible refine G_region fun K E hK hE=>?_))<;>(try simp(disch:=omega) only[go_sem,seval, *]))))
 all_goals(refine W_ret res28 hQ ?_)
 all_goals exact⟨_,_,Wk.lst _ _,Fg.refl _,rfl,rfl⟩
set_option maxHeartbeats 4000000 in
theorem ZVars_S (s:St)(c:Nat)(hc:s c=.obj 63 nobC)(V:List (List VV))(ow:Own):SRet Tryz.prog 21 [.ptr c 0,.lst V ow] s (.tup [.lst [] .no,.int .i64 1]) s:=by
 have hcf:s c≠.free:=by rw[hc];simp
 refine G_enter Tryz.func21 rfl Tryz.ntmps21 rfl fun Q hQ hQe=>?_
 (repeat'(first|refine Ctl ?_|((with_reducible refine Kof.use hK ?_);clear hK hE K E)|((with_reducible refine W_cond (fun h=>?_) (fun h=>?_))<;>(try(exfalso;assumption)))|(((with_reducible refine G_region fun K E hK hE=>?_))<;>(try simp(disch:=omega) only[go_sem,seval, *]))))
 all_goals(refine W_ret res21 hQ ?_)
 all_goals exact⟨_,_,Wk.tupQ,Fg.refl _,rfl,rfl⟩
set_option maxHeartbeats 4000000 in
theorem ZTuple_S (s:St)(c:Nat)(hc:s c=.obj 63 nobC):SRet Tryz.prog 16 [.ptr c 0,.lst [[.int .i64 0]] .full,.lst [[.int .i64 0]] .full] s (.tup [.int .i64 0,.int .i64 1]) s:=by
 have wv:=ZVars_S s c hc [[.int .i64 0]] .full
 have hcf:s c≠.free:=by rw[hc];simp
 refine G_enter Tryz.func16 rfl Tryz.ntmps16 rfl fun Q hQ hQe=>?_
 (repeat'(first|refine Ctl ?_|((with_reducible refine Kof.use hK ?_);clear hK hE K E)|((with_reducible refine W_cond (fun h=>?_) (fun h=>?_))<;>(try(exfalso;assumption)))|(((with_reducible first|refine G_region fun K E hK hE=>?_|refine call_ret can21 (wv) ?_))<;>(try simp(disch:=omega) only[go_sem,seval, *]))))
 all_goals(refine W_ret res16 hQ ?_)
 all_goals exact⟨_,_,Wk.refl _,Fg.refl _,rfl,rfl⟩
set_option maxHeartbeats 4000000 in
theorem ZRange_S (s:St)(c:Nat)(hc:s c=.obj 63 nobC):SRet Tryz.prog 11 [.ptr c 0,.int .i64 0,.int .i64 0,.int .i64 0] s (.tup [.int .i64 0,.int .i64 1]) s:=by
 have hcf:s c≠.free:=by rw[hc];simp
 refine G_enter Tryz.func11 rfl Tryz.ntmps11 rfl fun Q hQ hQe=>?_
 (repeat'(first|refine Ctl ?_|((with_reducible refine Kof.use hK ?_);clear hK hE K E)|((with_reducible refine W_cond (fun h=>?_) (fun h=>?_))<;>(try(exfalso;assumption)))|(((with_reducible refine G_region fun K E hK hE=>?_))<;>(try simp(disch:=omega) only[go_sem,seval, *]))))
 all_goals(refine W_ret res11 hQ ?_)
 all_goals exact⟨_,_,Wk.refl _,Fg.refl _,rfl,rfl⟩
set_option maxHeartbeats 4000000 in
theorem ZEqual_S (s:St)(c:Nat)(hc:s c=.obj 63 nobC):SRet Tryz.prog 15 [.ptr c 0,.int .i64 0,.int .i64 0] s (.tup [.int .i64 0,.int .i64 1]) s:=by
 have hcf:s c≠.free:=by rw[hc];simp
 refine G_enter Tryz.func15 rfl Tryz.ntmps15 rfl fun Q hQ hQe=>?_
 (repeat'(first|refine Ctl ?_|(with_reducible first|(refine Kof.use hK ?_;clear hK hE K E)|(refine Kof.use hKh ?_;clear hKh Kh)|(refine Kof.use hKb (P_next ?_);clear hKb Kb)|refine G_plan 1 [([0,1,2,3,4,5,6,7,8,9,10,11,12,13],14,[[]])] [15,16,17,18,19,20,21,22,23,24,25,26,27,28,29,30,31,32,33,34,35] hQe fun K E hK hE=>?_)|((with_reducible refine W_cond (fun h=>?_) (fun h=>?_))<;>(try(exfalso;assumption)))|((first|(with_reducible first|refine G_region fun K E hK hE=>?_|refine P_heads fun Kh hKh=>?_|refine P_fin fun Kh hKh=>?_|refine P_each fun Kb hKb=>?_)|((with_reducible refine W_fresh (fun b hb=>?_));(repeat(obtain⟨_,hb⟩:=hb));(try(obtain⟨_,_⟩:=nef hb hcf))))<;>(try simp(disch:=omega) only[go_sem,seval, *]))))
 all_goals(refine W_ret res15 hQ ?_)
 all_goals(refine⟨_,_,Wk.refl _,?_,rfl,rfl⟩;(exact z_fg))
set_option maxHeartbeats 4000000 in
theorem ZAdd_S (s:St)(c:Nat)(hc:s c=.obj 63 nobC):SRet Tryz.prog 24 [.ptr c 0,.int .i64 0,.int .i64 1,.int .i64 0] s (.tup [.int .i64 0,.int .i64 1]) s:=by
 have hcf:s c≠.free:=by rw[hc];simp
 refine G_enter Tryz.func24 rfl Tryz.ntmps24 rfl fun Q hQ hQe=>?_
 (repeat'(first|refine Ctl ?_|((with_reducible refine Kof.use hK ?_);clear hK hE K E)|((with_reducible refine W_cond (fun h=>?_) (fun h=>?_))<;>(try(exfalso;assumption)))|(((with_reducible refine G_region fun K E hK hE=>?_))<;>(try simp(disch:=omega) only[go_sem,seval, *]))))
 all_goals(refine W_ret res24 hQ ?_)
 all_goals exact⟨_,_,Wk.refl _,Fg.refl _,rfl,rfl⟩
set_option maxHeartbeats 4000000 in
theorem ZTuples_S (s:St)(c:Nat)(hc:s c=.obj 63 nobC):SRet Tryz.prog 13 [.ptr c 0,.int .i64 0,.lst [] .full,.int .i64 1] s (.tup [.lst [] .no,.int .i64 1]) s:=by
 have wv:=ZVars_S s c hc [] .full
 have hcf:s c≠.free:=by rw[hc];simp
 refine G_enter Tryz.func13 rfl Tryz.ntmps13 rfl fun Q hQ hQe=>?_
 (repeat'(first|refine Ctl ?_|((with_reducible refine Kof.use hK ?_);clear hK hE K E)|((with_reducible refine W_cond (fun h=>?_) (fun h=>?_))<;>(try(exfalso;assumption)))|(((with_reducible first|refine G_region fun K E hK hE=>?_|refine call_ret can21 (wv) ?_))<;>(try simp(disch:=omega) only[go_sem,seval, *]))))
 all_goals(refine W_ret res13 hQ ?_)
 all_goals exact⟨_,_,Wk.tupQ,Fg.refl _,rfl,rfl⟩
set_option maxHeartbeats 4000000 in
theorem ZQuan_S (s:St)(c:Nat)(hc:s c=.obj 63 nobC):SRet Tryz.prog 17 [.ptr c 0] s (.raw (.pointer none)) s:=by
 have hcf:s c≠.free:=by rw[hc];simp
 refine G_enter Tryz.func17 rfl Tryz.ntmps17 rfl fun Q hQ hQe=>?_
 (repeat'(first|refine Ctl ?_|((with_reducible refine Kof.use hK ?_);clear hK hE K E)|((with_reducible refine W_cond (fun h=>?_) (fun h=>?_))<;>(try(exfalso;assumption)))|(((with_reducible refine G_region fun K E hK hE=>?_))<;>(try simp(disch:=omega) only[go_sem,seval, *]))))
 all_goals(refine W_ret res17 hQ ?_)
 all_goals exact⟨_,_,Wk.refl _,Fg.refl _,rfl,rfl⟩
set_option maxHeartbeats 4000000 in
theorem ZDoms_S (s:St)(c:Nat)(hc:s c=.obj 63 nobC):SRet Tryz.prog 28 [.ptr c 0] s (.lst [] .no) s:=by
 have wl:=CloneZ_S s .full
 have hcf:s c≠.free:=by rw[hc];simp
 refine G_enter Tryz.func28 rfl Tryz.ntmps28 rfl fun Q hQ hQe=>?_
 (repeat'(first|refine Ctl ?_|((with_reducible refine Kof.use hK ?_);clear hK hE K E)|((with_reducible refine W_cond (fun h=>?_) (fun h=>?_))<;>(try(exfalso;assumption)))|(((with_reducible first|refine G_region fun K E hK hE=>?_|refine call_ret can53 (wl) ?_))<;>(try simp(disch:=omega) only[go_sem,seval, *]))))
 all_goals(refine W_ret res28 hQ ?_)
 all_goals exact⟨_,_,Wk.refl _,Fg.refl _,rfl,rfl⟩
end Go.Proofs.YtndlnadbnganeaaGreatDoor
namespace Go.Proofs.YtndlnadbnganeaaGreatDoor
open Go.RowKit
theorem halvF_lt:∀(f m w:Nat),m<2 ^ f→(w<halvF f m↔2 ^ w≤m)
 |0,m,w,h=>by
  have:m=0:=by simpa using h
  subst this
  simp[halvF]
 |f+1,m,w,h=>by
  unfold halvF
  split
  ·subst_vars
   simp
  ·cases w with
   |zero=>simp;omega
   |succ w=>
    have ih:=halvF_lt f (m / 2) w (by rw[Nat.pow_succ]at h;omega)
    rw[Nat.pow_succ]
    omega
theorem width_lt {n w:Nat}(h1:1≤n)(h2:n≤4611686018427387903):w<widthN n↔2 ^ w<n:=by
 unfold widthN
 rw[halvF_lt 62 (n - 1) w (by omega)]
 omega
theorem width_le (n:Nat):widthN n≤62:=halvF_le 62 _
attribute [-go_sem] p_and p_or p_shl p_shr
set_option maxHeartbeats 4000000 in
theorem DName_S (s:St)(l:List UInt8)(hl:l.length≤1000000000):SRet Tryz.prog 79 [.str l] s (.bool (nameB l)) s:=by
 obtain⟨R,hR⟩:∃R,nameB l=R:=⟨_,rfl⟩
 rw[hR]
 have HR:=Lib.hid hR
 clear hR
 refine G_enter Tryz.func79 rfl Tryz.ntmps79 rfl fun Q hQ hQe=>?_
 (repeat'(first|refine Ctl ?_|((with_reducible refine Kof.use hK ?_);clear hK hE K E)|(((with_reducible refine G_region fun K E hK hE=>?_))<;>(try simp(disch:=omega) only[go_sem,seval, *]))))
 refine L_loop (fun m env s'=>∃(i:Nat),i≤l.length∧m+i=l.length∧Hid (∀(j:Nat) (c:UInt8),j<i→l[j]?=some c→alnB c=true)∧s'=s∧env 0=.str l∧env 3=.int .i64 i) l.length
  ⟨0,by omega,by omega,Lib.hid (fun j c h=>by omega),rfl,z_sl,z_sl⟩ ?_
 rintro m env s' ⟨i,hi,hm,HH,rfl,e0,e3⟩
 by_cases h1:i<l.length
 ·obtain⟨c,hc⟩:∃c,l[i]?=some c:=⟨_,List.getElem?_eq_getElem h1⟩
  by_cases ho:oddB c.toNat=true
  ·have hR:R=false:=by
    rw[← HR.out]
    unfold nameB
    rw[Bool.and_eq_false_iff]
    refine .inr ?_
    rw[List.all_eq_false]
    exact⟨c,List.mem_of_getElem? hc,by simp[alnB,ho]⟩
   subst hR
   simp only[oddB,Bool.and_eq_true,Bool.or_eq_true,decide_eq_true_eq]at ho
   obtain⟨k,hk⟩:∃k,k=c.toNat:=⟨_,rfl⟩
   rw[← hk]at ho
   have hce:(c.toNat:Int)=(k:Int):=by rw[hk]
   have HC:=Lib.hid hk
   clear hk
   (repeat'(first|refine Ctl ?_|((with_reducible refine Kof.use hK ?_);clear hK hE K E)|((with_reducible refine W_cond (fun h=>?_) (fun h=>?_))<;>(try(exfalso;first|assumption|omega)))|((first|(with_reducible refine G_region fun K E hK hE=>?_)|((with_reducible refine W_gd (fun h=>?_) (fun h=>?_))<;>(try(exfalso;omega))))<;>(try simp(disch:=omega) only[go_sem,seval,hc,hce, *]))))
   all_goals(refine W_ret res79 hQ ?_)
   all_goals exact⟨_,_,Wk.refl _,Fg.refl _,rfl,rfl⟩
  ·have HN:Hid (∀(j:Nat) (c:UInt8),j<i+1→l[j]?=some c→alnB c=true):=Lib.hid fun j c' hj hc'=>by
    by_cases e:j=i
    ·subst e
     rw[hc]at hc'
     injection hc' with e2
     subst e2
     simpa [alnB]using ho
    ·exact HH.out j c' (by omega) hc'
   simp only[oddB,Bool.and_eq_true,Bool.or_eq_true,decide_eq_true_eq]at ho
   obtain⟨k,hk⟩:∃k,k=c.toNat:=⟨_,rfl⟩
   rw[← hk]at ho
   have hce:(c.toNat:Int)=(k:Int):=by rw[hk]
   have HC:=Lib.hid hk
   clear hk
   (repeat'(first|refine Ctl ?_|((with_reducible refine Kof.use hK ?_);clear hK hE K E)|((with_reducible refine W_cond (fun h=>?_) (fun h=>?_))<;>(try(exfalso;first|assumption|omega)))|((first|(with_reducible refine G_region fun K E hK hE=>?_)|((with_reducible refine W_gd (fun h=>?_) (fun h=>?_))<;>(try(exfalso;omega))))<;>(try simp(disch:=omega) only[go_sem,seval,hc,hce, *]))))
   all_goals exact⟨m - 1,by omega,i+1,by omega,by omega,HN,rfl,z_sl,z_sl⟩
 ·have hi2:i=l.length:=by omega
  have hall:l.all alnB=true:=by
   rw[List.all_eq_true]
   intro c hc
   obtain⟨j,hj,e⟩:=List.mem_iff_getElem.1 hc
   exact HH.out j c (by omega) (by rw[List.getElem?_eq_getElem hj,e])
  have hR:R=(decide (1≤l.length) && decide (l.length≤16)):=by
   rw[← HR.out,nameB,hall,Bool.and_true]
   congr 1
   rw[decide_eq_decide]
   cases l<;>simp
  by_cases g1:1≤l.length
  ·by_cases g2:l.length≤16
   ·have:R=true:=by rw[hR];simp[g1,g2]
    subst this
    clear hR hall
    (repeat'(first|refine Ctl ?_|((with_reducible refine Kof.use hK ?_);clear hK hE K E)|((with_reducible refine W_cond (fun h=>?_) (fun h=>?_))<;>(try(exfalso;omega)))|((first|(with_reducible refine G_region fun K E hK hE=>?_)|((with_reducible refine W_gd (fun h=>?_) (fun h=>?_))<;>(try(exfalso;omega))))<;>(try simp(disch:=omega) only[go_sem,seval, *]))))
    all_goals(refine W_ret res79 hQ ?_)
    all_goals exact⟨_,_,Wk.refl _,Fg.refl _,by rw[decide_eq_true (by omega)],rfl⟩
   ·have:R=false:=by rw[hR];simp[g2]
    subst this
    clear hR hall
    (repeat'(first|refine Ctl ?_|((with_reducible refine Kof.use hK ?_);clear hK hE K E)|((with_reducible refine W_cond (fun h=>?_) (fun h=>?_))<;>(try(exfalso;omega)))|((first|(with_reducible refine G_region fun K E hK hE=>?_)|((with_reducible refine W_gd (fun h=>?_) (fun h=>?_))<;>(try(exfalso;omega))))<;>(try simp(disch:=omega) only[go_sem,seval, *]))))
    all_goals(refine W_ret res79 hQ ?_)
    all_goals exact⟨_,_,Wk.refl _,Fg.refl _,by rw[decide_eq_false (by omega)],rfl⟩
  ·have:R=false:=by rw[hR];simp[g1]
   subst this
   clear hR hall
   (repeat'(first|refine Ctl ?_|((with_reducible refine Kof.use hK ?_);clear hK hE K E)|((with_reducible refine W_cond (fun h=>?_) (fun h=>?_))<;>(try(exfalso;omega)))|((first|(with_reducible refine G_region fun K E hK hE=>?_)|((with_reducible refine W_gd (fun h=>?_) (fun h=>?_))<;>(try(exfalso;omega))))<;>(try simp(disch:=omega) only[go_sem,seval, *]))))
   all_goals(refine W_ret res79 hQ ?_)
   all_goals exact⟨_,_,Wk.refl _,Fg.refl _,rfl,rfl⟩
set_option maxHeartbeats 4000000 in
theorem BWidth_S (s:St)(n:Nat)(h1:1≤n)(h2:n≤4611686018427387903):SRet Tryz.prog 82 [.int .i64 n] s (.tup [.int .i64 (widthN n:Nat),.int .i64 0]) s:=by
 obtain⟨R,hR⟩:∃R,widthN n=R:=⟨_,rfl⟩
 have hlt:=fun w=>width_lt (w:=w) h1 h2
 have hR62:R≤62:=hR ▸ width_le n
 rw[hR]at hlt ⊢
 have HLT:=Lib.hid hlt
 clear hlt hR
 have c1:¬ (n:Int)<1:=by omega
 have c2:¬ (n:Int) > 4611686018427387903:=by omega
 refine G_enter Tryz.func82 rfl Tryz.ntmps82 rfl fun Q hQ hQe=>?_
 (repeat'(first|refine Ctl ?_|((with_reducible refine Kof.use hK ?_);clear hK hE K E)|((with_reducible refine W_cond (fun h=>?_) (fun h=>?_))<;>(try(exfalso;assumption)))|(((with_reducible refine G_region fun K E hK hE=>?_))<;>(try simp(disch:=omega) only[go_sem,seval,c1,c2, *]))))
 refine L_loop (fun m env s'=>∃(w:Nat),w≤R∧m+w=R∧s'=s∧env 0=.int .i64 n∧env 4=.int .i64 w) R
  ⟨0,by omega,by omega,rfl,z_sl,z_sl⟩ ?_
 rintro m env s' ⟨w,hw,hm,rfl,e0,e4⟩
 have hs:=shl_one (k:=w) (by omega)
 by_cases h3:w<R
 ·have h4:=(HLT.out w).1 h3
  have c3:(n:Int) > ((2 ^ w:Nat):Int):=by omega
  generalize ((2 ^ w:Nat):Int)=P at *
  (repeat'(first|refine Ctl ?_|((with_reducible refine Kof.use hK ?_);clear hK hE K E)|((with_reducible refine W_cond (fun h=>?_) (fun h=>?_))<;>(try(exfalso;assumption)))|((first|(with_reducible refine G_region fun K E hK hE=>?_)|((with_reducible refine W_gd (fun h=>?_) (fun h=>?_))<;>(try(exfalso;omega))))<;>(try simp(disch:=omega) only[go_sem,seval,c3,hs, *]))))
  all_goals exact⟨m - 1,by omega,w+1,by omega,by omega,rfl,z_sl,z_sl⟩
 ·have hwR:w=R:=by omega
  have h4:¬ 2 ^ w<n:=fun h=>h3 ((HLT.out w).2 h)
  have c3:¬ (n:Int) > ((2 ^ w:Nat):Int):=by omega
  generalize ((2 ^ w:Nat):Int)=P at *
  subst hwR
  (repeat'(first|refine Ctl ?_|((with_reducible refine Kof.use hK ?_);clear hK hE K E)|((with_reducible refine W_cond (fun h=>?_) (fun h=>?_))<;>(try(exfalso;assumption)))|((first|(with_reducible refine G_region fun K E hK hE=>?_)|((with_reducible refine W_gd (fun h=>?_) (fun h=>?_))))<;>(try simp(disch:=omega) only[go_sem,seval,c3,hs, *]))))
  all_goals(refine W_ret res82 hQ ?_)
  all_goals exact⟨_,_,Wk.refl _,Fg.refl _,rfl,rfl⟩
set_option maxHeartbeats 4000000 in
theorem Dwidth_S (s:St)(nm:List UInt8)(n:Nat)(h1:1≤n)(h2:n≤1073741824):SRet Tryz.prog 52 [.agg [.str nm,.int .i64 n]] s (.int .i64 (widthN n:Nat)) s:=by
 have w1:=fun s=>BWidth_S s n h1 (by omega)
 refine G_enter Tryz.func52 rfl Tryz.ntmps52 rfl fun Q hQ hQe=>?_
 (repeat'(first|refine Ctl ?_|((with_reducible refine Kof.use hK ?_);clear hK hE K E)|((first|(with_reducible first|refine G_region fun K E hK hE=>?_|refine call_ret can82 (w1 _) ?_)|((with_reducible refine W_fresh (fun b hb=>?_))))<;>(try simp(disch:=omega) only[go_sem,seval, *]))))
 all_goals(refine W_ret res52 hQ ?_)
 all_goals(refine⟨_,_,Wk.refl _,?_,rfl,rfl⟩;(exact z_fg))
theorem okDs_app {d:Dm}:∀{l:List Dm} {sn:List (List UInt8)},okDs sn (l++[d])=(okDs sn l && okD (sn++l.map (·.1)) d)
 |[],sn=>by simp[okDs]
 |a::l,sn=>by
  have ih:=okDs_app (d:=d) (l:=l) (sn:=sn++[a.1])
  simp only[List.cons_append,okDs,ih,List.map_cons,List.append_assoc,List.singleton_append,List.nil_append,Bool.and_assoc]
theorem okDs_take {ds:List Dm}{sn:List (List UInt8)}(h:okDs sn ds=true):∀i,okDs sn (ds.take i)=true:=by
 induction ds generalizing sn with
 |nil=>intro i;simp[okDs]
 |cons a l ih=>
  intro i
  cases i with
  |zero=>rfl
  |succ i=>
   simp only[okDs,Bool.and_eq_true]at h
   simp only[List.take_succ_cons,okDs,Bool.and_eq_true]
   exact⟨h.1,ih h.2 i⟩
theorem okDs_size {ds:List Dm}:∀{sn:List (List UInt8)},okDs sn ds=true→∀d,d∈ds→1≤d.2∧d.2≤1073741824:=by
 induction ds with
 |nil=>intro sn _ d hd;cases hd
 |cons a l ih=>
  intro sn h d hd
  simp only[okDs,Bool.and_eq_true,okD,decide_eq_true_eq]at h
  rcases List.mem_cons.1 hd with rfl|hd
  ·exact h.1.1.1
  ·exact ih h.2 d hd
theorem wdL_app {ds:List Dm}{i:Nat}{d:Dm}(h:ds[i]?=some d):(wdL (ds.take (i+1))).sum=(wdL (ds.take i)).sum+widthN d.2.toNat:=by
 rw[List.take_add_one,h]
 simp[wdL]
theorem wdL_le:∀(ds:List Dm),(wdL ds).sum≤62 * ds.length
 |[]=>by simp[wdL]
 |d::ds=>by
  have:=wdL_le ds
  have h2:=width_le d.2.toNat
  simp only[wdL,List.map_cons,List.sum_cons,List.length_cons]at this ⊢
  omega
set_option maxHeartbeats 8000000 in
theorem DMay_S (s:St)(ds:List Dm)(ow:Own)(hl:ds.length≤1000000)(hnl:∀d,d∈ds→d.1.length≤1000000000):SRet Tryz.prog 50 [.lst (domsI ds) ow] s (.bool (mayDs ds)) s:=by
 obtain⟨R,hR⟩:∃R,mayDs ds=R:=⟨_,rfl⟩
 rw[hR]
 have hlD:=domsI_len (ds:=ds)
 have hat:=fun i d h=>domsI_at (ds:=ds) (i:=i) (d:=d) h
 by_cases h32:ds.length > 32
 ·have:R=false:=by
   rw[← hR]
   unfold mayDs
   rw[decide_eq_false (show ¬ ds.length≤32 by omega)]
   simp
  subst this
  have h32':(ds.length:Int) > 32:=by omega
  clear hR hat hnl
  generalize domsI ds=D at *
  refine G_enter Tryz.func50 rfl Tryz.ntmps50 rfl fun Q hQ hQe=>?_
  (repeat'(first|refine Ctl ?_|((with_reducible refine Kof.use hK ?_);clear hK hE K E)|((with_reducible refine W_cond (fun h=>?_) (fun h=>?_))<;>(try(exfalso;assumption)))|(((with_reducible refine G_region fun K E hK hE=>?_))<;>(try simp(disch:=omega) only[go_sem,seval,hlD,h32', *]))))
  all_goals(refine W_ret res50 hQ ?_)
  all_goals exact⟨_,_,Wk.refl _,Fg.refl _,rfl,rfl⟩
 ·have h32':¬ (ds.length:Int) > 32:=by omega
  have HR:=Lib.hid hR
  have HAT:=Lib.hid hat
  have HNL:=Lib.hid hnl
  clear hR hat hnl
  generalize domsI ds=D at *
  refine G_enter Tryz.func50 rfl Tryz.ntmps50 rfl fun Q hQ hQe=>?_
  (repeat'(first|refine Ctl ?_|((with_reducible refine Kof.use hK ?_);clear hK hE K E)|((with_reducible refine W_cond (fun h=>?_) (fun h=>?_))<;>(try(exfalso;assumption)))|(((with_reducible refine G_region fun K E hK hE=>?_))<;>(try simp(disch:=omega) only[go_sem,seval,hlD,h32', *]))))
  refine L_loop (fun m env s'=>∃(i:Nat),i≤ds.length∧m+i=ds.length∧Hid (okDs [] (ds.take i)=true)∧s'=s∧env 0=.lst D ow∧env 3=.int .i64 ((wdL (ds.take i)).sum:Nat)∧env 4=.int .i64 i) ds.length
   ⟨0,by omega,by omega,Lib.hid rfl,rfl,z_sl,z_sl,z_sl⟩ ?_
  rintro m env s' ⟨i,hi,hm,HH,rfl,e0,e3,e4⟩
  by_cases h1:i<ds.length
  ·obtain⟨d,hd⟩:∃d,ds[i]?=some d:=⟨_,List.getElem?_eq_getElem h1⟩
   obtain⟨nm,sz⟩:=d
   have hx:=HAT.out i _ hd
   dsimp only at hx
   have hnm:=HNL.out _ (List.mem_of_getElem? hd)
   dsimp only at hnm
   have wn:=fun s=>DName_S s nm hnm
   have htk:ds.take (i+1)=ds.take i++[(nm,sz)]:=by rw[List.take_add_one,hd];rfl
   have hbad:okD ((ds.take i).map (·.1)) (nm,sz)=false→R=false:=fun hb=>by
    rw[← HR.out]
    cases hm:mayDs ds with
    |false=>rfl
    |true=>
     exfalso
     unfold mayDs at hm
     rw[Bool.and_eq_true]at hm
     have h2:=okDs_take hm.1 (i+1)
     rw[htk,okDs_app,List.nil_append,hb,Bool.and_false]at h2
     cases h2
   have HBAD:=Lib.hid hbad
   have HTK:=Lib.hid htk
   have HD:=Lib.hid hd
   clear hbad htk hd
   cases hnb:nameB nm with
   |false=>
    have:R=false:=HBAD.out (by simp[okD,hnb])
    subst this
    rw[hnb]at wn
    clear hnb
    (repeat'(first|refine Ctl ?_|((with_reducible refine Kof.use hK ?_);clear hK hE K E)|((with_reducible refine W_cond (fun h=>?_) (fun h=>?_))<;>(try(exfalso;assumption)))|(((with_reducible first|refine G_region fun K E hK hE=>?_|refine call_ret can79 (wn _) ?_))<;>(try simp(disch:=omega) only[go_sem,seval,hlD,hx, *]))))
    all_goals(refine W_ret res50 hQ ?_)
    all_goals exact⟨_,_,Wk.refl _,Fg.refl _,rfl,rfl⟩
   |true=>
    rw[hnb]at wn
    by_cases g1:sz<1
    ·have:R=false:=HBAD.out (by simp[okD];omega)
     subst this
     clear hnb
     (repeat'(first|refine Ctl ?_|((with_reducible refine Kof.use hK ?_);clear hK hE K E)|((with_reducible refine W_cond (fun h=>?_) (fun h=>?_))<;>(try(exfalso;assumption)))|(((with_reducible first|refine G_region fun K E hK hE=>?_|refine call_ret can79 (wn _) ?_))<;>(try simp(disch:=omega) only[go_sem,seval,hlD,hx,g1, *]))))
     all_goals(refine W_ret res50 hQ ?_)
     all_goals exact⟨_,_,Wk.refl _,Fg.refl _,rfl,rfl⟩
    by_cases g2:sz > 1073741824
    ·have:R=false:=HBAD.out (by simp[okD];omega)
     subst this
     clear hnb
     (repeat'(first|refine Ctl ?_|((with_reducible refine Kof.use hK ?_);clear hK hE K E)|((with_reducible refine W_cond (fun h=>?_) (fun h=>?_))<;>(try(exfalso;assumption)))|(((with_reducible first|refine G_region fun K E hK hE=>?_|refine call_ret can79 (wn _) ?_))<;>(try simp(disch:=omega) only[go_sem,seval,hlD,hx,g1,g2, *]))))
     all_goals(refine W_ret res50 hQ ?_)
     all_goals exact⟨_,_,Wk.refl _,Fg.refl _,rfl,rfl⟩
    obtain⟨z,rfl⟩:∃z:Nat,sz=(z:Int):=⟨sz.toNat,by omega⟩
    have ww:=fun s=>Dwidth_S s nm z (by omega) (by omega)
    have hsz:(nm∈(ds.take i).map (·.1))∨okD ((ds.take i).map (·.1)) (nm,(z:Int))=true:=by
     by_cases h:nm∈(ds.take i).map (·.1)
     ·exact .inl h
     ·refine .inr ?_
      unfold okD
      rw[hnb,decide_eq_false h,decide_eq_true (by dsimp only;omega),decide_eq_true (by dsimp only;omega)]
      rfl
    have HSZ:=Lib.hid hsz
    have hin:(nm∈(ds.take i).map (·.1))→R=false:=fun h=>HBAD.out (by simp only[okD,decide_eq_true h];simp)
    have HIN:=Lib.hid hin
    have h1i:i<ds.length:=h1
    clear hsz hin hnb HBAD
    have hnx:=wdL_app HD.out
    rw[show ((nm,(z:Int)):Dm).2.toNat=z from rfl]at hnx
    have hle:=wdL_le (ds.take i)
    have hwz:=width_le z
    have hle2:(wdL (ds.take i)).sum≤2000:=by rw[List.length_take]at hle;omega
    have HNX:=Lib.hid hnx
    clear hnx hle
    generalize (wdL (ds.take i)).sum=sm at *
    (repeat'(first|refine Ctl ?_|((with_reducible refine Kof.use hK ?_);clear hK hE K E)|((with_reducible refine W_cond (fun h=>?_) (fun h=>?_))<;>(try(exfalso;assumption)))|(((with_reducible first|refine G_region fun K E hK hE=>?_|refine call_ret can79 (wn _) ?_))<;>(try simp(disch:=omega) only[go_sem,seval,hlD,hx,g1,g2, *]))))
    refine L_loop (fun m2 env s2=>∃(k:Nat),k≤i∧m2+k=i∧Hid (∀(j:Nat) (d:Dm),j<k→ds[j]?=some d→d.1≠nm)∧s2=s'∧env 0=.lst D ow∧env 3=.int .i64 (sm:Nat)∧env 4=.int .i64 i∧env 5=.int .i64 k) i
     ⟨0,by omega,by omega,Lib.hid (fun j d h=>by omega),rfl,z_sl,z_sl,z_sl,z_sl⟩ ?_
    clear e0 e3 e4
    rintro m2 env s2 ⟨k,hk,hm2,HJ,rfl,e0,e3,e4,e5⟩
    by_cases h4:k<i
    ·obtain⟨dk,hdk⟩:∃d,ds[k]?=some d:=⟨_,List.getElem?_eq_getElem (by omega)⟩
     obtain⟨nk,sk⟩:=dk
     have hxk:=HAT.out k _ hdk
     dsimp only at hxk
     by_cases he:nk=nm
     ·have:R=false:=HIN.out (List.mem_map.2 ⟨(nk,sk),List.mem_iff_getElem?.2 ⟨k,by rw[List.getElem?_take_of_lt h4];exact hdk⟩,he⟩)
      subst this he
      clear hdk
      (repeat'(first|refine Ctl ?_|(with_reducible first|(refine Kof.use hK ?_;clear hK hE K E)|(refine Kof.use hKh ?_;clear hKh Kh)|refine G_plan 12 [] [0,1,2,3,4,5,6,7,8,9,10] hQe fun K E hK hE=>?_)|((with_reducible refine W_cond (fun h=>?_) (fun h=>?_))<;>(try(exfalso;assumption)))|(((with_reducible first|refine G_region fun K E hK hE=>?_|refine P_fin fun Kh hKh=>?_))<;>(try simp(disch:=omega) only[go_sem,seval,hlD,hx,hxk, *]))))
      all_goals(refine W_ret res50 hQ ?_)
      all_goals exact⟨_,_,Wk.refl _,Fg.refl _,rfl,rfl⟩
     ·have HJ2:Hid (∀(j:Nat) (d:Dm),j<k+1→ds[j]?=some d→d.1≠nm):=Lib.hid fun j d hj hd=>by
       by_cases e:j=k
       ·subst e
        rw[hdk]at hd
        injection hd with hd
        rw[← hd]
        exact he
       ·exact HJ.out j d (by omega) hd
      have he':=eq_false he
      clear hdk he
      (repeat'(first|refine Ctl ?_|(with_reducible first|(refine Kof.use hK ?_;clear hK hE K E)|(refine Kof.use hKh ?_;clear hKh Kh)|refine G_plan 12 [] [0,1,2,3,4,5,6,7,8,9,10] hQe fun K E hK hE=>?_)|((with_reducible refine W_cond (fun h=>?_) (fun h=>?_))<;>(try(exfalso;assumption)))|(((with_reducible first|refine G_region fun K E hK hE=>?_|refine P_fin fun Kh hKh=>?_))<;>(try simp(disch:=omega) only[go_sem,seval,hlD,hx,hxk,he', *]))))
      all_goals exact⟨m2 - 1,by omega,k+1,by omega,by omega,HJ2,rfl,z_sl,z_sl,z_sl,z_sl⟩
    ·have hni:nm∉(ds.take i).map (·.1):=fun h=>by
      obtain⟨d,hd,e⟩:=List.mem_map.1 h
      obtain⟨j,hj⟩:=List.mem_iff_getElem?.1 hd
      have hjl:=(List.getElem?_eq_some_iff.1 hj).1
      rw[List.length_take]at hjl
      rw[List.getElem?_take_of_lt (by omega)]at hj
      exact HJ.out j d (by omega) hj e
     have HH2:Hid (okDs [] (ds.take (i+1))=true):=Lib.hid (by
      rw[HTK.out,okDs_app,HH.out,List.nil_append,HSZ.out.resolve_left hni];rfl)
     clear hni
     (repeat'(first|refine Ctl ?_|((with_reducible refine Kof.use hK ?_);clear hK hE K E)|((with_reducible refine W_cond (fun h=>?_) (fun h=>?_))<;>(try(exfalso;assumption)))|(((with_reducible first|refine G_region fun K E hK hE=>?_|refine call_ret can52 (ww _) ?_))<;>(try simp(disch:=omega) only[go_sem,seval,hlD,hx, *]))))
     all_goals exact⟨m - 1,by omega,i+1,by omega,by omega,HH2,rfl,z_sl,by(rw[HNX.out];((try simp(disch:=assumption) only[go_sem,seval, *])<;>rfl)),z_sl⟩
  ·have hie:i=ds.length:=by omega
   have hok:=HH.out
   rw[hie,List.take_length]at hok e3
   have hR:R=decide ((wdL ds).sum≤256):=by
    rw[← HR.out,mayDs,hok,decide_eq_true (show ds.length≤32 by omega)]
    simp
   clear hok HH
   generalize (wdL ds).sum=sm at *
   (repeat'(first|refine Ctl ?_|((with_reducible refine Kof.use hK ?_);clear hK hE K E)|((with_reducible refine W_cond (fun h=>?_) (fun h=>?_))<;>(try(exfalso;omega)))|(((with_reducible refine G_region fun K E hK hE=>?_))<;>(try simp(disch:=omega) only[go_sem,seval,hlD, *]))))
   all_goals(refine W_ret res50 hQ ?_)
   all_goals exact⟨_,_,Wk.refl _,Fg.refl _,by rw[hR];congr 2;rw[decide_eq_decide];omega,rfl⟩
end Go.Proofs.YtndlnadbnganeaaGreatDoor
namespace Go.Proofs.YtndlnadbnganeaaGreatDoor
open Go.RowKit
def dsT (x y:Nat):List (List UInt8×Nat):=[([65],1+x),([66],1+x),([67],1+y)]
def dsI (x y:Nat):List Dm:=[([65],1+(x:Int)),([66],1+(x:Int)),([67],1+(y:Int))]
def odT:List (List UInt8):=[[65,95,66,95,67],[65,42,66,42,67],[67,95,65,42,66],[66,42,67,95,65],[67,42,66,42,65],[67,95,66,95,65]]
theorem ixD_nm {p:List UInt8}:∀{ds ds':List Dm} {i:Nat},ds.map (·.1)=ds'.map (·.1)→ixD p ds i=ixD p ds' i
 |[],[],i,_=>rfl
 |[],_::_,i,h=>by cases h
 |_::_,[],i,h=>by cases h
 |d::r,d'::r',i,h=>by
  simp only[List.map_cons,List.cons.injEq]at h
  simp only[ixD,h.1,ixD_nm h.2]
theorem grpF_nm {ds ds':List Dm}(h:ds.map (·.1)=ds'.map (·.1)):∀{ps:List (List UInt8)} {l sn:List Nat},grpF ds ps l sn=grpF ds' ps l sn
 |[],l,sn=>rfl
 |p::r,l,sn=>by simp only[grpF,ixD_nm h,grpF_nm h (ps:=r)]
theorem plF_nm {ds ds':List Dm}{wd:List Nat}(h:ds.map (·.1)=ds'.map (·.1)):∀{gs:List (List UInt8)} {o:List (List Nat)} {nx:Nat} {sn:List Nat},plF ds wd gs o nx sn=plF ds' wd gs o nx sn
 |[],o,nx,sn=>rfl
 |g::r,o,nx,sn=>by
  simp only[plF,grpF_nm h]
  cases grpF ds' (splitC 42 g) [] sn with
  |none=>rfl
  |some p=>exact plF_nm h (gs:=r)
def chkT (u v k:Nat):Bool:=
 match finF 3 (plF (dsI 0 0) [u,u,v] (splitC 95 (odT.getD k [])) (List.replicate 3 []) 0 [])with
 |.error _=>false
 |.ok o=>(decide (o.map (·.length)=[u,u,v]) && o.all fun l=>l.all fun v=>decide (v<12)) && decide o.flatten.Nodup
set_option maxRecDepth 1000000 in
theorem chk_all:((List.range 5).all fun x=>(List.range 5).all fun y=>(List.range 6).all fun k=>chkT x y k)=true:=by kernel_rfl
theorem chk_one {x y k:Nat}(hx:x<5)(hy:y<5)(hk:k<6):chkT x y k=true:=by
 have h:=chk_all
 rw[List.all_eq_true]at h
 have h1:=h x (List.mem_range.2 hx)
 rw[List.all_eq_true]at h1
 have h2:=h1 y (List.mem_range.2 hy)
 rw[List.all_eq_true]at h2
 exact h2 k (List.mem_range.2 hk)
theorem wid_all:((List.range 16).all fun x=>decide (widthN (1+x)<5))=true:=by kernel_rfl
theorem wid_lt {x:Nat}(h:x<16):widthN (1+x)<5:=by
 have h1:=wid_all
 rw[List.all_eq_true]at h1
 simpa using h1 x (List.mem_range.2 h)
theorem wid_pow {x:Nat}(h:x<16):1+x≤2 ^ widthN (1+x):=by
 have:=halvF_pow 62 x (by omega)
 unfold widthN
 rw[Nat.add_sub_cancel_left]
 omega
theorem wdT (x y:Nat):wdL (dsI x y)=[widthN (1+x),widthN (1+x),widthN (1+y)]:=by
 have e:∀z:Nat,((1:Int)+(z:Int)).toNat=1+z:=fun z=>by omega
 simp only[wdL,dsI,List.map_cons,List.map_nil,e]
theorem odT_ne {k:Nat}(h:k<6):odT.getD k []≠[]:=by
 have:((List.range 6).all fun k=>decide (odT.getD k []≠[]))=true:=by kernel_rfl
 rw[List.all_eq_true]at this
 simpa using this k (List.mem_range.2 h)
theorem mayT {x y:Nat}(hx:x<16)(hy:y<16):mayDs (dsI x y)=true:=by
 have n1:nameB [65]=true:=by kernel_rfl
 have n2:nameB [66]=true:=by kernel_rfl
 have n3:nameB [67]=true:=by kernel_rfl
 have a1:=wid_lt hx
 have a2:=wid_lt hy
 unfold mayDs
 rw[wdT]
 simp only[Bool.and_eq_true,decide_eq_true_eq]
 refine⟨?_,by simp;omega,by simp[dsI]⟩
 have d1:∀z:Nat,z<16→decide ((1:Int)≤1+(z:Int))=true:=fun z hz=>by simp;omega
 have d2:∀z:Nat,z<16→decide ((1:Int)+(z:Int)≤1073741824)=true:=fun z hz=>by simp;omega
 simp only[dsI,okDs,okD,d1 x hx,d1 y hy,d2 x hx,d2 y hy,n1,n2,n3,Bool.and_true,Bool.true_and,List.nil_append,List.cons_append]
 rfl
theorem three_ok {x y k:Nat}(hx:x<16)(hy:y<16)(hk:k<6):∃o,newF 12 (dsI x y) (odT.getD k [])=.ok o∧DOk 12 (dsT x y) o∧o.map (·.length)=[widthN (1+x),widthN (1+x),widthN (1+y)]:=by
 have a1:=wid_lt hx
 have a2:=wid_lt hy
 have p1:=wid_pow hx
 have p2:=wid_pow hy
 have h3:=chk_one a1 a2 hk
 have hm:=mayT hx hy
 have e:newF 12 (dsI x y) (odT.getD k [])=finF 3 (plF (dsI 0 0) [widthN (1+x),widthN (1+x),widthN (1+y)] (splitC 95 (odT.getD k [])) (List.replicate 3 []) 0 []):=by
  unfold newF
  rw[if_pos ⟨hm,by rw[wdT];simp;omega⟩]
  unfold placeF
  rw[if_pos hm,wdT,if_neg (odT_ne hk),plF_nm (ds:=dsI x y) (ds':=dsI 0 0) rfl]
  rfl
 rw[e]
 unfold chkT at h3
 generalize finF 3 (plF (dsI 0 0) [widthN (1+x),widthN (1+x),widthN (1+y)] (splitC 95 (odT.getD k [])) (List.replicate 3 []) 0 [])=R at h3
 cases R with
 |error e=>cases h3
 |ok o=>
  simp only[Bool.and_eq_true,decide_eq_true_eq,List.all_eq_true]at h3
  obtain⟨⟨h1,h2⟩,h4⟩:=h3
  refine⟨o,rfl,⟨?_,h2,h4,fun d z l hz hl=>?_,by simp[dsT]⟩,h1⟩
  ·have:=congrArg List.length h1
   simpa [dsT]using this
  ·have hl2:(o.map (·.length))[d]?=some l.length:=by rw[List.getElem?_map,hl];rfl
   rw[h1]at hl2
   match d with
   |0=>simp[dsT]at hz hl2;subst hz;rw[← hl2];exact⟨by simp,p1,by simp;omega,by omega⟩
   |1=>simp[dsT]at hz hl2;subst hz;rw[← hl2];exact⟨by simp,p1,by simp;omega,by omega⟩
   |2=>simp[dsT]at hz hl2;subst hz;rw[← hl2];exact⟨by simp,p2,by simp;omega,by omega⟩
   |d+3=>simp[dsT]at hz
theorem dsT_C (x y:Nat):domsI (dsI x y)=domsC (dsT x y):=by
 simp only[domsI,dsI,domsC,dsT,List.map_cons,List.map_nil,Int.natCast_add,Int.natCast_one]
theorem and15 (a:Int):∃x:Nat,x<16∧vint .and .i64 a 15=some (.int .i64 (x:Int)):=by
 have h:=and_low (w:=4) (by omega) a
 have e:IntKind.i64.wrap (((2 ^ 4:Nat):Int) - 1)=15:=by decide
 rw[e]at h
 exact⟨_,addP_lt 4 a,h⟩
theorem and255 (a:Int):∃x:Nat,x<256∧vint .and .i64 a 255=some (.int .i64 (x:Int)):=by
 have h:=and_low (w:=8) (by omega) a
 have e:IntKind.i64.wrap (((2 ^ 8:Nat):Int) - 1)=255:=by decide
 rw[e]at h
 exact⟨_,addP_lt 8 a,h⟩
attribute [-go_sem] p_and p_or p_shl p_shr
theorem Wk.tupM {xs:List (List VV)}{o:Own}{a c:VV}:Wk (.tup [a,.lst xs o,c]) (.tup [a,.lst xs .no,c]):=
 .tup rfl fun j x y hx hy=>by
  match j with
  |0=>simp at hx hy;subst hx;subst hy;exact .refl _
  |1=>simp at hx hy;subst hx;subst hy;exact .lst _ _
  |2=>simp at hx hy;subst hx;subst hy;exact .refl _
  |j+3=>simp at hx
theorem od_at {k:Nat}(h:k<6):(strs odT)[k]?=some [.str (odT.getD k [])]:=by
 match k,h with
 |0,_=>rfl
 |1,_=>rfl
 |2,_=>rfl
 |3,_=>rfl
 |4,_=>rfl
 |5,_=>rfl
def ThreeR (s:St)(x y:Nat)(z:BegA):Prop:=∃o,DOk 12 (dsT x y) o∧o.map (·.length)=[widthN (1+x),widthN (1+x),widthN (1+y)]∧CMem z.1 z.2.1 z.2.2.1 z.2.2.2 12 16384 [.lf false,.lf true] (dsT x y) o∧∀w,s w≠.free→z.1 w=s w∧¬ z.2.1.has w
set_option maxHeartbeats 8000000 in
theorem Cthree_S (s:St)(a a2 od:Int):∃x y:Nat,x<16∧y<16∧vint .and .i64 a 15=some (.int .i64 (x:Int))∧vint .and .i64 a2 15=some (.int .i64 (y:Int)) ∧
  SCalls Tryz.prog 10 [.agg [.int .i64 a,.int .i64 a2],.int .i64 od] s fun w u=>∃z:BegA,w=.ret (.tup [.ptr z.2.2.2 0,.lst (domsC (dsT x y)) .no,.bool true])∧u=z.1∧ThreeR s x y z:=by
 obtain⟨x,hx,ex⟩:=and15 a
 obtain⟨y,hy,ey⟩:=and15 a2
 obtain⟨k0,hk0,ek⟩:=and255 od
 refine⟨x,y,hx,hy,ex,ey,?_⟩
 obtain⟨k,hk⟩:∃k,k=k0 % 6:=⟨_,rfl⟩
 have hk6:k<6:=by omega
 have hrem:((k0:Int)).tmod 6=(k:Int):=by rw[hk,Int.tmod_eq_emod_of_nonneg (Int.natCast_nonneg _)];omega
 have hidx:=od_at hk6
 obtain⟨OD,hOD⟩:∃OD,OD=odT.getD k []:=⟨_,rfl⟩
 rw[← hOD]at hidx
 simp only[strs,odT,List.map_cons,List.map_nil]at hidx
 obtain⟨o,h1,h2,h3⟩:=three_ok hx hy hk6
 have hodl:(odT.getD k []).length≤10000:=by
  have:((List.range 6).all fun k=>decide ((odT.getD k []).length≤10000))=true:=by kernel_rfl
  rw[List.all_eq_true]at this
  simpa using this k (List.mem_range.2 hk6)
 have wb:=fun(u:St) (ow:Own)=>Cbegun_S u 12 (by omega) (dsI x y) ow (odT.getD k []) (by simp[dsI]) (by simp[dsI]) (fun d hd=>by simp[dsI]at hd;rcases hd with rfl|rfl|rfl<;>simp) hodl
 rw[h1,← hOD]at wb
 simp only[newV]at wb
 have hdd:=dsT_C x y
 have e0:domsI (dsI x y)=[[.str [65],.int .i64 (1+(x:Int))],[.str [66],.int .i64 (1+(x:Int))],[.str [67],.int .i64 (1+(y:Int))]]:=rfl
 have hR:=fun(s:St) (z:BegA) (h:(∀(o':List (List Nat)) (dsN:List (List UInt8×Nat)),(Except.ok o:Except Int (List (List Nat)))=.ok o'→domsI (dsI x y)=domsC dsN→CMem z.1 z.2.1 z.2.2.1 z.2.2.2 12 16384 [.lf false,.lf true] dsN o')∧∀w,s w≠.free→z.1 w=s w∧¬ z.2.1.has w)=>show ThreeR s x y z from ⟨o,h2,h3,h.1 o _ rfl hdd,h.2⟩
 rw[← hdd]
 have HRR:=Lib.hid hR
 have WB:=Lib.hid wb
 have HX:=Lib.hid (And.intro hx hy)
 clear h1 h2 h3 hodl hdd hR wb hk hk0 hOD
 refine G_enter Tryz.func10 rfl Tryz.ntmps10 rfl fun Q hQ hQe=>?_
 (repeat'(first|refine Ctl ?_|((with_reducible refine Kof.use hK ?_);clear hK hE K E)|((first|(with_reducible refine G_region fun K E hK hE=>?_)|((with_reducible refine W_fresh (fun b hb=>?_))))<;>(try simp(disch:=omega) only[go_sem,seval,ex,ey,ek,hrem,hidx, *]))))
 have wb:=WB.out (s.set b (.obj 22 [.int .i64 a,.int .i64 a2])) .full
 rw[e0]at wb
 have hsb:∀w,s w≠.free→(s.set b (.obj 22 [.int .i64 a,.int .i64 a2])) w=s w:=fun w hw=>St.set_other _ _ (nef hb hw).1
 refine call_ex can25 wb (fun z h=>?_)
 have hz:=HRR.out _ z h
 obtain⟨u,KK,q,c⟩:=z
 obtain⟨o2,t1,t2,t3,t4⟩:=hz
 have hT:ThreeR s x y (u,KK,q,c):=⟨o2,t1,t2,t3,fun w hw=>⟨(t4 w (by rw[hsb w hw];exact hw)).1.trans (hsb w hw),(t4 w (by rw[hsb w hw];exact hw)).2⟩⟩
 have HT:=Lib.hid hT
 clear h wb t1 t2 t3 t4 hT hsb
 dsimp only
 simp only[go_sem,seval]
 (repeat'(first|refine Ctl ?_|((with_reducible refine Kof.use hK ?_);clear hK hE K E)|(((with_reducible refine G_region fun K E hK hE=>?_))<;>(try simp(disch:=omega) only[go_sem,seval, *]))))
 all_goals(refine W_ret res10 hQ ?_)
 exact⟨_,_,Wk.tupM,Fg.refl _,mkA (KK,q,c) rfl HT.out⟩
end Go.Proofs.YtndlnadbnganeaaGreatDoor
