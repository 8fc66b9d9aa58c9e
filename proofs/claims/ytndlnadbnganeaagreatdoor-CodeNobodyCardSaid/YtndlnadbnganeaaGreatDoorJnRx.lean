/- Walks of functions that the claim reaches, and plain facts of them. Conditions: those in the statements. -/
import Derived.Test.YtndlnadbnganeaaGreatDoorJnRw
import Derived.Shelf.SlicesE.Clone
set_option linter.unusedSimpArgs false
set_option linter.unusedVariables false
set_option maxRecDepth 100000
namespace Go.Proofs.YtndlnadbnganeaaGreatDoor
open Go.RowKit Go.Lib Go.Shelf
def domE_ren:Go.Shelf.Ren:=⟨fun|41=>53|n=>n,fun|22=>24|23=>31|4=>4|n=>n,fun|n=>n⟩
theorem domE:Go.Proofs.SlLaysE0.n41 Tryz.prog domE_ren:={
 mixed:=by kernel_rfl
 f41:=⟨Tryz.f53.name,by decide,Tryz.func53.trans (congrArg some (by kernel_rfl))⟩
 t4:=Tryz.underlying4
 a4:=Tryz.isAgg4
 z4:=Tryz.sizeOf4
 v4:=Tryz.zeroValue4
 t22:=Tryz.underlying24
 a22:=Tryz.isAgg24
 z22:=Tryz.sizeOf24
 v22:=Tryz.zeroValue24 }
theorem dom_info:(Tryz.prog.info? 31).map (fun i=>((i.zero.map fun z=>z.cells.size),i.size,i.bytes))=some (some 2,2,24):=by kernel_rfl
theorem clone_raw (b off n c:Nat)(news:List Value)(w:World)(hl:news.length=n * 2)(hn:n≤1000000)(hc:∀j u,news[j]?=some u→w.cell? ⟨b,off+j,none⟩=some u)(h1:∀u∈news,u.oneCell'=true) :
  Calls Tryz.prog 53 #[.slice (some ⟨b,off,none⟩) n c] w fun e w'=>∃v',e=.returned v'∧w'.ownsRow w.heap.size 31 2 v' n news∧v'≠.slice none 0 0∧Below w.heap.size w w':=by
 have hi:=dom_info
 cases hi0:Tryz.prog.info? 31 with
 |none=>rw[hi0]at hi;cases hi
 |some i0=>
  rw[hi0]at hi
  simp only[Option.map_some,Option.some.injEq,Prod.mk.injEq]at hi
  obtain⟨a1,a2,a3⟩:=hi
  obtain⟨z,hz,hz2⟩:=Option.map_eq_some_iff.1 a1
  exact AnyE.slices_Clone domE i0 z 2 24 hi0 hz a2 a3 hz2 (by omega) Tryz.sizeOf31 b off n c news w hl (by unfold maxLen;omega) (by omega) hc h1
theorem CloneD_S (s:St)(xs:List (List VV))(ow:Own)(hne:xs≠[])(hx:∀x,x∈xs→x.length=2)(hl:xs.length≤1000000):SRet Tryz.prog 53 [.lst xs ow] s (.lst xs .no) s:=by
 intro w0 G w vs hS hA
 obtain⟨v,rfl,hr⟩:=RL_one hA
 generalize hq:VV.lst xs ow=q at hr
 cases hr with
 |emp a cap o ho=>
  injection hq with hq1 hq2
  exact absurd hq1 hne
 |lst b off len cap sz xs' o f h1 h2 h3 h4 h5 h6 h7=>
  injection hq with hq1 hq2
  subst hq1 hq2
  have hsz:sz=2:=by
   obtain⟨x,r,rfl⟩:=List.exists_cons_of_ne_nil hne
   rw[← h3 x (by simp),hx x (by simp)]
  subst hsz
  obtain⟨news,hnews⟩:∃news:List Value,news=(List.range (len * 2)).map fun j=>f (j / 2) (j % 2):=⟨_,rfl⟩
  have hnl:news.length=len * 2:=by rw[hnews];simp
  have hna:∀j u,news[j]?=some u→j<len * 2∧u=f (j / 2) (j % 2):=fun j u h=>by
   have hj:j<len * 2:=by rw[← hnl];exact(List.getElem?_eq_some_iff.1 h).1
   refine⟨hj,?_⟩
   rw[hnews,List.getElem?_map,List.getElem?_range hj]at h
   injection h with h
   exact h.symm
  have hfo:∀j,j<len * 2→(f (j / 2) (j % 2)).oneCell'=true:=fun j hj=>by
   have h8:=List.getElem?_eq_getElem (show j / 2<xs.length by omega)
   have hm:=List.getElem_mem (l:=xs) (n:=j / 2) (by omega)
   have h9:=List.getElem?_eq_getElem (show j % 2<xs[j / 2].length by rw[hx _ hm];omega)
   rw[(h6 _ _ _ _ h8 h9).one]
   exact h4 _ hm _ (List.getElem_mem _)
  refine(clone_raw b off len cap news w hnl (by omega) (fun j u h=>?_) (fun u h=>?_)).mono ?_
  ·obtain⟨hj,rfl⟩:=hna j u h
   have:=hS.K _ _ _ (h5 (j / 2) (j % 2) (by omega) (by omega))
   rw[show j / 2 * 2+j % 2=j by omega]at this
   exact this
  ·obtain⟨j,hj⟩:=List.mem_iff_getElem?.1 h
   obtain⟨hj2,rfl⟩:=hna j u hj
   exact hfo j hj2
  ·rintro e w' ⟨v',rfl,hown,_,hb⟩
   rcases hown.2 with ⟨_,h0⟩|⟨g,c2,cur,rfl,hge,hh,hcap,hm,hcs,hcur⟩
   ·exact absurd (List.eq_nil_of_length_eq_zero (h1.trans h0)) hne
   ·obtain⟨G',k1,k2,k3⟩:=hS.know hb g hge (fun i=>if i<len * 2 then cur[i]? else none) fun i v hv=>by
     split at hv
     ·simp only[World.cell?,hh];exact hv
     ·cases hv
    refine⟨G',s,.ret (.lst xs .no),k1,k2,?_,rfl,rfl⟩
    refine .lst g 0 len c2 2 xs .no f h1 hcap h3 h4 (fun i j hi hj=>?_) (fun i j x y hx hy=>(h6 i j x y hx hy).mono k1) (.inl rfl)
    refine k3 _ _ ?_
    rw[Nat.zero_add,if_pos (by omega)]
    have h8:news[i * 2+j]?=some (f i j):=by
     rw[hnews,List.getElem?_map,List.getElem?_range (by omega)]
     simp only[Option.map_some]
     rw[show (i * 2+j) / 2=i by omega,show (i * 2+j) % 2=j by omega]
    rw[← hcur,List.getElem?_take_of_lt (by omega),Array.getElem?_toList]at h8
    exact h8
 |_=>cases hq
def nilP:VV:=.raw (.pointer none)
def newF (n:Nat)(ds:List Dm)(od:List UInt8):Except Int (List (List Nat)):=if mayDs ds=true∧(wdL ds).sum≤n then placeF ds od else .error 1
def newV (c:Nat):Except Int (List (List Nat))→VV
 |.error e=>.tup [nilP,.int .i64 e]
 |.ok _=>.tup [.ptr c 0,.int .i64 0]
def NewR (s u:St)(q c:Nat)(ds:List Dm):Except Int (List (List Nat))→Prop
 |.error _=>u=s
 |.ok o=>s c=.free∧u=s.set c (.obj 63 [.ptr q 0,.lst (domsI ds) .no,.lst (atC o) .no])
theorem placeF_err {ds:List Dm}{od:List UInt8}{e:Int}(h:placeF ds od=.error e):e=1∨e=70:=by
 unfold placeF at h
 split at h
 ·generalize plF ds (wdL ds) (if od=[] then [] else splitC 95 od) (List.replicate ds.length []) 0 []=r at h
  cases r with
  |none=>injection h with h;exact .inr h.symm
  |some p=>
   obtain⟨o,sn⟩:=p
   simp only[finF]at h
   split at h
   ·injection h with h;exact .inr h.symm
   ·cases h
 ·injection h with h;exact .inl h.symm
set_option maxHeartbeats 4000000 in
theorem Cnew_S {s:St}{KK:OB}{n B q:Nat}{ns:List Tr}(hO:OMem s KK n B ns)(hq:s q=.obj 83 [.ptr KK.o 0,.ptr KK.s.p 0])(ds:List Dm)(ow:Own)(od:List UInt8)(hne:ds≠[])(hl:ds.length≤1000000)(hnl:∀d,d∈ds→d.1.length≤1000000000)(hod:od.length≤10000) :
  SCalls Tryz.prog 29 [.ptr q 0,.lst (domsI ds) ow,.str od] s fun w u=>∃a:BoxA,w=.ret (newV a.2 (newF n ds od))∧u=a.1∧NewR s a.1 q a.2 ds (newF n ds od):=by
 obtain⟨d,cc,ho⟩:=hO.op
 obtain⟨mk,hM⟩:=hO.st.mem
 have wq:=Qops_S s q KK.o KK.s.p hq
 have ws:=Ostore_S s KK.o KK.s.p d cc ho
 have wv:=Nvars_S s KK.s.p KK.s.g KK.s.q n B ns mk 0 hM
 have wc:=Lcheck_S s ds ow hl hnl
 have wb:=Lbits_S s ds ow hl hnl
 have wp:=Lplace_S s ds ow od hl hnl hod
 have wl:=CloneD_S s (domsI ds) ow (fun e=>hne (by have:=congrArg List.length e;rw[domsI_len]at this;exact List.eq_nil_of_length_eq_zero this)) (fun x hx=>by obtain⟨y,_,rfl⟩:=List.mem_map.1 hx;rfl) (by rw[domsI_len];exact hl)
 clear hO hM hq ho hne hl hnl hod
 have hErr:∀e:Int,newF n ds od=.error e→(SRet Tryz.prog 29 [.ptr q 0,.lst (domsI ds) ow,.str od] s (.tup [nilP,.int .i64 e]) s)→SCalls Tryz.prog 29 [.ptr q 0,.lst (domsI ds) ow,.str od] s fun w u=>∃a:BoxA,w=.ret (newV a.2 (newF n ds od))∧u=a.1∧NewR s a.1 q a.2 ds (newF n ds od):=fun e h hs=>by
  rw[h]
  refine SCalls.mono (h:=hs) ?_
  rintro w u ⟨rfl,rfl⟩
  exact⟨(u,0),rfl,rfl,rfl⟩
 by_cases h1:mayDs ds=true
 ·rw[if_pos h1]at wc wb
  by_cases h2:(wdL ds).sum≤n
  ·have e1:newF n ds od=placeF ds od:=by unfold newF;rw[if_pos ⟨h1,h2⟩]
   have h2':¬ (((wdL ds).sum:Nat):Int) > (n:Int):=by omega
   have h2'':¬ (n:Int)<(((wdL ds).sum:Nat):Int):=by omega
   cases hp:placeF ds od with
   |error e=>
    refine hErr e (e1.trans hp) ?_
    rw[hp]at wp
    have he:¬ e=0:=by rcases placeF_err hp with h|h<;>omega
    simp only[plV]at wp
    clear e1 hErr hp
    generalize domsI ds=D at *
    generalize (wdL ds).sum=SM at *
    refine G_enter Tryz.func29 rfl Tryz.ntmps29 rfl fun Q hQ hQe=>?_
    (repeat'(first|refine Ctl ?_|((with_reducible refine Kof.use hK ?_);clear hK hE K E)|((with_reducible refine W_cond (fun h=>?_) (fun h=>?_))<;>(try(exfalso;assumption)))|(((with_reducible first|refine G_region fun K E hK hE=>?_|refine call_ret can18 (wq) ?_|refine call_ret can54 (wc) ?_|refine call_ret can55 (wb) ?_|refine call_ret can33 (ws) ?_|refine call_ret can56 (wv) ?_|refine call_ret can57 (wp) ?_))<;>(try simp(disch:=omega) only[go_sem,seval,h2',h2'',he, *]))))
    all_goals(refine W_ret res29 hQ ?_)
    all_goals exact⟨_,_,Wk.refl _,Fg.refl _,rfl,rfl⟩
   |ok o=>
    rw[e1,hp]
    rw[hp]at wp
    simp only[plV]at wp
    have hNR:=fun(b:Nat) (hb:s b=.free)=>show NewR s (s.set b (.obj 63 [.ptr q 0,.lst (domsI ds) .no,.lst (atC o) .no])) q b ds (.ok o) from ⟨hb,rfl⟩
    have HNR:=Lib.hid hNR
    clear e1 hErr hp hNR
    generalize domsI ds=D at *
    generalize (wdL ds).sum=SM at *
    generalize atC o=A at *
    refine G_enter Tryz.func29 rfl Tryz.ntmps29 rfl fun Q hQ hQe=>?_
    (repeat'(first|refine Ctl ?_|((with_reducible refine Kof.use hK ?_);clear hK hE K E)|((with_reducible refine W_cond (fun h=>?_) (fun h=>?_))<;>(try(exfalso;assumption)))|((first|(with_reducible first|refine G_region fun K E hK hE=>?_|refine call_ret can18 (wq) ?_|refine call_ret can54 (wc) ?_|refine call_ret can55 (wb) ?_|refine call_ret can33 (ws) ?_|refine call_ret can56 (wv) ?_|refine call_ret can57 (wp) ?_|refine call_ret can53 (wl) ?_)|((with_reducible refine W_fresh (fun b hb=>?_))))<;>(try simp(disch:=omega) only[go_sem,seval,h2',h2'', *]))))
    all_goals(refine W_ret res29 hQ ?_)
    exact⟨_,_,Wk.refl _,Fg.refl _,mkA b rfl (HNR.out b hb)⟩
  ·have e1:newF n ds od=.error 1:=by unfold newF;rw[if_neg fun h=>h2 h.2]
   have h2':(((wdL ds).sum:Nat):Int) > (n:Int):=by omega
   have h2'':(n:Int)<(((wdL ds).sum:Nat):Int):=by omega
   refine hErr 1 e1 ?_
   clear e1 hErr wp wl
   generalize domsI ds=D at *
   generalize (wdL ds).sum=SM at *
   refine G_enter Tryz.func29 rfl Tryz.ntmps29 rfl fun Q hQ hQe=>?_
   (repeat'(first|refine Ctl ?_|((with_reducible refine Kof.use hK ?_);clear hK hE K E)|((with_reducible refine W_cond (fun h=>?_) (fun h=>?_))<;>(try(exfalso;assumption)))|(((with_reducible first|refine G_region fun K E hK hE=>?_|refine call_ret can18 (wq) ?_|refine call_ret can54 (wc) ?_|refine call_ret can55 (wb) ?_|refine call_ret can33 (ws) ?_|refine call_ret can56 (wv) ?_))<;>(try simp(disch:=omega) only[go_sem,seval,h2',h2'', *]))))
   all_goals(refine W_ret res29 hQ ?_)
   all_goals exact⟨_,_,Wk.refl _,Fg.refl _,rfl,rfl⟩
 ·have e1:newF n ds od=.error 1:=by unfold newF;rw[if_neg fun h=>h1 h.1]
  rw[if_neg h1]at wc
  refine hErr 1 e1 ?_
  clear e1 hErr wp wl wb
  generalize domsI ds=D at *
  refine G_enter Tryz.func29 rfl Tryz.ntmps29 rfl fun Q hQ hQe=>?_
  (repeat'(first|refine Ctl ?_|((with_reducible refine Kof.use hK ?_);clear hK hE K E)|((with_reducible refine W_cond (fun h=>?_) (fun h=>?_))<;>(try(exfalso;assumption)))|(((with_reducible first|refine G_region fun K E hK hE=>?_|refine call_ret can18 (wq) ?_|refine call_ret can54 (wc) ?_))<;>(try simp(disch:=omega) only[go_sem,seval, *]))))
  all_goals(refine W_ret res29 hQ ?_)
  all_goals exact⟨_,_,Wk.refl _,Fg.refl _,rfl,rfl⟩
end Go.Proofs.YtndlnadbnganeaaGreatDoor
