/- Walks of functions that the claim reaches, and plain facts of them. Conditions: those in the statements. -/
import Derived.Test.YtndlnadbnganeaaGreatDoorJnVij
set_option linter.unusedSimpArgs false
set_option linter.unusedVariables false
set_option maxRecDepth 100000
namespace Go.Proofs.YtndlnadbnganeaaGreatDoor
open Go.RowKit
attribute [-go_sem] p_and p_or p_shl p_shr
structure TupI (s:St) (K:OB) (q c n B:Nat) (ns:List Tr) (ds:List (List UInt8×Nat)) (at_:List (List Nat)) (CL:List (Nat×Bool)) (N i:Nat) (s':St) (K':OB) (ns':List Tr):Prop where
 m:CMem s' K' q c n B ns' ds at_
 kp:OKeep s s' K K'
 pre:∃l,ns'=ns++l
 mem:treeT n (cubF (CL.drop i))∈ns'
 cnt:CntN ns' (N+(CL.length - i))
theorem TupI.next {s:St}{K:OB}{q c n B:Nat}{ns:List Tr}{ds:List (List UInt8×Nat)}{at_:List (List Nat)}{CL:List (Nat×Bool)}{N i:Nat}{s':St}{K':OB}{ns':List Tr}{a:IteA}{v:Nat}{b:Bool}
  (I:TupI s K q c n B ns ds at_ CL N (i+1) s' K' ns') (hv:CL[i]?=some (v,b)) (h1:OpF s' K' n B ns' (N+(CL.length - (i+1))+1) (cubF (CL.drop i)) a):TupI s K q c n B ns ds at_ CL N i a.1 a.2.1 a.2.2:=by
 have hl:=(List.getElem?_eq_some_iff.1 hv).1
 refine⟨I.m.keep h1.m h1.k,I.kp.trans h1.k,pre_trans I.pre h1.pre,h1.mem,h1.cnt.mono (by omega)⟩
theorem TupI.mk1 {s:St}{K:OB}{q c n B:Nat}{ns:List Tr}{ds:List (List UInt8×Nat)}{at_:List (List Nat)}{CL:List (Nat×Bool)}{N i:Nat}{s':St}{K':OB}{ns':List Tr}{v:Nat}{b:Bool}
  (I:TupI s K q c n B ns ds at_ CL N (i+1) s' K' ns') (hv:CL[i]?=some (v,b)) (hp:(CL.map (·.1)).Pairwise (·<·)) (hlt:∀p,p∈CL→p.1<n) (hB:N+CL.length≤B) :
  OpFC 43 [.ptr K'.s.p 0,.int .i64 v,.int .i64 (if b=true then 0 else(ixF n ns' (cubF (CL.drop (i+1))):Nat)),.int .i64 (if b=true then(ixF n ns' (cubF (CL.drop (i+1))):Nat)else 0)] s' K' n B ns' (N+(CL.length - (i+1))+1) (cubF (CL.drop i)):=by
 obtain⟨hl,e⟩:=List.getElem?_eq_some_iff.1 hv
 have hd:CL.drop i=(v,b)::CL.drop (i+1):=by rw[List.drop_eq_getElem_cons hl,e]
 have c0:=I.m.om.c0.1
 have hS:∀w,w∈(CL.drop (i+1)).map (·.1)→v<w∧w<n:=fun w hw=>by
  have h1:=hp.sublist ((List.drop_sublist i CL).map (·.1))
  rw[hd,List.map_cons,List.pairwise_cons]at h1
  obtain⟨p,hp2,rfl⟩:=List.mem_map.1 hw
  exact⟨h1.1 _ hw,hlt p (List.mem_of_mem_drop hp2)⟩
 have hvn:=hlt _ (List.mem_of_getElem? hv)
 have hdep:DepF ((CL.drop (i+1)).map (·.1)) (cubF (CL.drop (i+1))):=cubF_dep fun p hp2=>List.mem_map_of_mem hp2
 have hst:=cubF_step (v:=v) (b:=b) (l:=CL.drop (i+1))
 rw[← hd]at hst
 cases b with
 |true=>
  have w:=Nmk_F1 I.m.om (f:=fun _=>false) (g:=cubF (CL.drop (i+1))) (v:=v) (S:=(CL.drop (i+1)).map (·.1)) (fun _ _ _=>rfl) hdep hS hvn c0.1 I.mem I.cnt (by omega)
  simp only[if_true]at hst
  rw[hst,c0.2]at w
  exact w
 |false=>
  have w:=Nmk_F1 I.m.om (f:=cubF (CL.drop (i+1))) (g:=fun _=>false) (v:=v) (S:=(CL.drop (i+1)).map (·.1)) hdep (fun _ _ _=>rfl) hS hvn I.mem c0.1 I.cnt (by omega)
  simp only[Bool.false_eq_true,if_false]at hst
  rw[hst,c0.2]at w
  exact w
set_option maxHeartbeats 16000000 in
theorem Ctuple_S {s:St}{KK:OB}{q c n B N:Nat}{ns:List Tr}{ds:List (List UInt8×Nat)}{at_:List (List Nat)}(hC:CMem s KK q c n B ns ds at_)(hD:DOk n ds at_)(ks vals:List Nat)(ow ow2:Own)(hks:∀k,k∈ks→k<ds.length)(hl:ks.length≤32)(hnd:ks.Nodup)(hvl:vals.length=ks.length)
  (hvs:∀(i k v:Nat) (x:List UInt8×Nat),ks[i]?=some k→vals[i]?=some v→ds[k]?=some x→v<x.2) (hc:CntN ns N) (hB:N+(varsOf at_ ks).length≤B) :
  OpFC 16 [.ptr c 0,.lst (natsL ks) ow,.lst (natsL vals) ow2] s KK n B ns (N+(varsOf at_ ks).length) (tupF at_ ks vals):=by
 have wv:=Cvars_S hC hD ks ow hks hl
 rw[if_pos hnd]at wv
 have hVN:=varsOf_nd hD hnd hks
 have hVL:=varsOf_lt hD hks
 have hln:(natsL ks).length=ks.length:=natsL_len
 have hln2:(natsL vals).length=ks.length:=by rw[natsL_len,hvl]
 obtain⟨P,hP⟩:∃P,P=tupQ at_ (ks.zip vals):=⟨_,rfl⟩
 have hPk:P.map (·.1)=varsOf at_ ks:=by rw[hP];exact tupQ_keys hvl
 have hPl:P.length=(varsOf at_ ks).length:=by rw[← hPk,List.length_map]
 have hzl:(ks.zip vals).length=ks.length:=by rw[List.length_zip,hvl,Nat.min_self]
 have hQat:∀i k v,ks[i]?=some k→vals[i]?=some v→(ks.zip vals)[i]?=some (k,v):=fun i k v h1 h2=>by
  rw[List.getElem?_zip_eq_some]
  exact⟨h1,h2⟩
 have hfit:∀i k v,ks[i]?=some k→vals[i]?=some v→v<2 ^ (at_.getD k []).length∧(at_.getD k []).length≤30:=fun i k v h1 h2=>by
  obtain⟨nm,sz,l,g1,g2,g3,g4,g5,g6,g7⟩:=hD.get (hks k (List.mem_of_getElem? h1))
  have e:at_.getD k []=l:=by rw[List.getD_eq_getElem?_getD,g2];rfl
  have:=hvs i k v _ h1 h2 g1
  have h4:=hD.w k _ _ g1 g2
  rw[e]
  exact⟨Nat.lt_of_lt_of_le this h4.2.1,g6⟩
 have hev:cubF P=tupF at_ ks vals:=by
  funext x
  rw[hP]
  refine tupQ_ev fun p hp=>?_
  obtain⟨i,hi,e⟩:=List.mem_iff_getElem.1 hp
  have h1:(ks.zip vals)[i]?=some p:=by rw[List.getElem?_eq_getElem hi,e]
  rw[List.getElem?_zip_eq_some]at h1
  exact(hfit i _ _ h1.1 h1.2).1
 have hlv30:(varsOf at_ ks).length≤960:=by
  have:∀l:List Nat,(∀k,k∈l→k<ds.length)→(varsOf at_ l).length≤30 * l.length:=by
   intro l
   induction l with
   |nil=>intro _;simp[varsOf]
   |cons k l ih=>
    intro h
    have h1:=ih fun k hk=>h k (List.mem_cons_of_mem _ hk)
    have h2:=(hD.getD (h k (List.mem_cons_self ..))).2.1
    have e:varsOf at_ (k::l)=at_.getD k []++varsOf at_ l:=by simp[varsOf]
    rw[e,List.length_append,List.length_cons]
    omega
  have:=this ks hks
  omega
 have hrow:∀i,i<ks.length→∃(k v:Nat) (nm:List UInt8) (sz:Nat),ks[i]?=some k∧(natsL ks)[i]?=some [.int .i64 (k:Int)]∧(natsL vals)[i]?=some [.int .i64 (v:Int)]∧(domsC ds)[k]?=some [.str nm,.int .i64 ((sz:Nat):Int)]∧v<sz∧(atC at_)[k]?=some [.lst (natsL (at_.getD k [])) .no]∧v<2 ^ (at_.getD k []).length∧(at_.getD k []).length≤30∧(ks.zip vals)[i]?=some (k,v):=fun i hi=>by
  have h1:=List.getElem?_eq_getElem hi
  have h2:=List.getElem?_eq_getElem (l:=vals) (i:=i) (by omega)
  obtain⟨nm,sz,l,g1,g2,g3,g4,g5,g6,g7⟩:=hD.get (hks _ (List.mem_of_getElem? h1))
  have e:at_.getD ks[i] []=l:=by rw[List.getD_eq_getElem?_getD,g2];rfl
  obtain⟨f1,f2⟩:=hfit i _ _ h1 h2
  exact⟨_,_,nm,sz,h1,natsL_at h1,natsL_at h2,domsC_at g1,hvs i _ _ _ h1 h2 g1,by rw[e];exact atC_at g2,f1,f2,hQat i _ _ h1 h2⟩
 obtain⟨SL,hr1,hr2,hr3⟩:=riseN _ hVN
 have hco:=hC.co
 have hcf:s c≠.free:=by rw[hco];simp
 have HC:=Lib.hid hC
 have HROW:=Lib.hid hrow
 have HPK:=Lib.hid hPk
 have HP:=Lib.hid hP
 have HEV:=Lib.hid hev
 have HVN:=Lib.hid hVN
 have HVL:=Lib.hid hVL
 have HR:=Lib.hid (And.intro hr1 (And.intro hr2 hr3))
 have HCN:=Lib.hid (And.intro hc hB)
 have HZL:=Lib.hid hzl
 have HPL:=Lib.hid hPl
 clear hC hD hks hnd hvl hvs hc hB hVN hVL hP hPk hPl hzl hQat hfit hev hrow hr1 hr2 hr3
 obtain⟨D,hDD⟩:∃D,D=domsC ds:=⟨_,rfl⟩
 obtain⟨A,hAA⟩:∃A,A=atC at_:=⟨_,rfl⟩
 rw[← hAA,← hDD]at hco
 have HAA:=Lib.hid hAA
 have HDD:=Lib.hid hDD
 clear hAA hDD
 obtain⟨VK,hVK⟩:∃V,V=natsL ks:=⟨_,rfl⟩
 obtain⟨VV2,hVV2⟩:∃V,V=natsL vals:=⟨_,rfl⟩
 obtain⟨VW,hVW⟩:∃V,V=natsL (varsOf at_ ks):=⟨_,rfl⟩
 rw[← hVK]at wv hln ⊢
 rw[← hVV2]at hln2 ⊢
 rw[← hVW]at wv
 have HVK:=Lib.hid hVK
 have HVV:=Lib.hid hVV2
 unfold OpFC
 clear hVK hVV2 hVW
 refine G_enter Tryz.func16 rfl Tryz.ntmps16 rfl fun Q hQ hQe=>?_
 (repeat'(first|(with_reducible refine Kp_atQ 6 ?_)|refine Ctl ?_|((with_reducible refine Kof.use hK ?_);clear hK hE K E)|((with_reducible refine W_cond (fun h=>?_) (fun h=>?_))<;>(try(exfalso;assumption)))|((first|(with_reducible first|refine G_region fun K E hK hE=>?_|refine call_ret can21 (wv) ?_)|((with_reducible refine W_fresh (fun b hb=>?_))))<;>(try simp(disch:=omega) only[go_sem,seval,hln,hln2, *]))))
 unfold StopQ
 obtain⟨bm,hbm⟩:∃z,z=b:=⟨_,rfl⟩
 subst hbm
 refine Kp_rawnil 11 (z_sl) ?_
 have V0:VarT s bm (s.set bm (.map [])) (.raw (.slice none 0 0)) []:=⟨St.set_same _ _ _,hb,.inl ⟨rfl,rfl⟩,fun z hz=>St.set_other _ _ (nef hb hz).1⟩
 have HV0:=Lib.hid V0
 have HB:=Lib.hid hb
 clear V0 wv
 (repeat'(first|refine Ctl ?_|((with_reducible refine Kof.use hK ?_);clear hK hE K E)|(((with_reducible refine G_region fun K E hK hE=>?_))<;>(try simp(disch:=omega) only[go_sem,seval,hln, *]))))
 refine G_loop (fun m env s'=>∃(i:Nat) (x:VV),i≤ks.length∧m+i=ks.length∧Hid (VarT s bm s' x (P.take (offQ at_ (ks.zip vals) i)))∧env 0=.ptr c 0∧env 2=.lst VV2 ow2∧env 10=.mp bm∧env 11=x∧env 40=.lst VK ow∧env 41=.int .i64 ks.length∧env 42=.int .i64 i) ks.length ?_ ?_
 ·exact⟨_,Fg.refl _,0,_,by omega,by omega,HV0,z_sl,z_sl,z_sl,z_sl,z_sl,z_sl,z_sl⟩
 clear HV0
 rintro m env u ⟨i,x,hi,hmi,HV,e0,e2,e10,e11,e40,e41,e42⟩
 by_cases h2:i<ks.length
 ·obtain⟨k,v,nm,sz,q1,q2,q3,q4,q5,q6,q7,q8,q9⟩:=HROW.out i h2
  rw[← HVK.out]at q2
  rw[← HVV.out]at q3
  rw[← HDD.out]at q4
  rw[← HAA.out]at q6
  have huco:u c=.obj 63 [.ptr q 0,.lst D .no,.lst A .no]:=(HV.out.fr c hcf).trans hco
  have hwl:(natsL (at_.getD k [])).length=(at_.getD k []).length:=natsL_len
  have wb:=fun s=>Bput_S s v (at_.getD k []).length (by omega) q7
  have hbl:(bitsL v (at_.getD k []).length).length=(at_.getD k []).length:=bitsL_len
  have hnx:=offQ_next (at_:=at_) q9
  have c1:¬ (v:Int)<0:=by omega
  have c2:¬ ((sz:Nat):Int)≤(v:Int):=by omega
  have hinn:∀j,j<(at_.getD k []).length→∃vj:Nat,(natsL (at_.getD k []))[j]?=some [.int .i64 (vj:Int)]∧(bitsL v (at_.getD k []).length)[j]?=some [.bool (v.testBit j)]∧P[offQ at_ (ks.zip vals) i+j]?=some (vj,v.testBit j):=fun j hj=>by
   have h1:=List.getElem?_eq_getElem hj
   exact⟨_,natsL_at h1,bitsL_at hj,by rw[HP.out];exact offQ_at q9 h1⟩
  have HNX:=Lib.hid hnx
  have HIN:=Lib.hid hinn
  clear hnx hinn q1 q5 q7 q9
  generalize hVA:natsL (at_.getD k [])=VA at *
  generalize hBL:bitsL v (at_.getD k []).length=BL at *
  generalize hwv:(at_.getD k []).length=w at *
  clear hVA hBL hwv
  have HV0:Hid (VarT s bm u x (P.take (offQ at_ (ks.zip vals) i+0))):=HV
  clear HV
  (repeat'(first|refine Ctl ?_|(with_reducible first|(refine Kof.use hK ?_;clear hK hE K E)|(refine Kof.use hKh ?_;clear hKh Kh)|(refine Kof.use hKb (P_next ?_);clear hKb Kb)|refine G_plan 9 [] [0,1,2,3,4,5,6,7,8,9,10,11,12,13,14,15,16,17,18,19] hQe fun K E hK hE=>?_|refine G_plan 11 [([0,1,2,3,4,5,6,7,8,9,10,11],12,[[]])] [13,14,15,16,17] hQe fun K E hK hE=>?_)|((with_reducible refine W_cond (fun h=>?_) (fun h=>?_))<;>(try(exfalso;assumption)))|(((with_reducible first|refine G_region fun K E hK hE=>?_|refine call_ret can41 (wb _) ?_|refine P_heads fun Kh hKh=>?_|refine P_fin fun Kh hKh=>?_|refine P_each fun Kb hKb=>?_))<;>(try simp(disch:=omega) only[go_sem,seval,q2,q3,q4,q6,c1,c2,hwl,hbl, *]))))
  refine G_loop (fun m2 env s'=>∃(j:Nat) (x:VV),j≤w∧m2+j=w∧Hid (VarT s bm s' x (P.take (offQ at_ (ks.zip vals) i+j)))∧env 0=.ptr c 0∧env 2=.lst VV2 ow2∧env 10=.mp bm∧env 11=x∧env 13=.int .i64 k∧env 40=.lst VK ow∧env 41=.int .i64 ks.length∧env 42=.int .i64 i∧env 83=.lst BL .no∧env 84=.int .i64 w∧env 85=.int .i64 j) w ?_ ?_
  ·exact⟨_,Fg.refl _,0,_,by omega,by omega,HV0,z_sl,z_sl,z_sl,z_sl,z_sl,z_sl,z_sl,z_sl,z_sl,z_sl,z_sl⟩
  clear HV0 e0 e2 e10 e11 e40 e41 e42 huco x
  rintro m2 env u ⟨j,x,hj,hmj,HV,e0,e2,e10,e11,e13,e40,e41,e42,e83,e84,e85⟩
  have huco:u c=.obj 63 [.ptr q 0,.lst D .no,.lst A .no]:=(HV.out.fr c hcf).trans hco
  have hum:=HV.out.m
  have hcb:c≠bm:=fun e=>hcf (e ▸ HB.out)
  by_cases h3:j<w
  ·obtain⟨vj,p1,p2,p3⟩:=HIN.out j h3
   generalize v.testBit j=bj at *
   have htk:P.take (offQ at_ (ks.zip vals) i+(j+1))=P.take (offQ at_ (ks.zip vals) i+j)++[(vj,bj)]:=by
    rw[← Nat.add_assoc,List.take_add_one,p3];rfl
   have hni:vj∉(P.take (offQ at_ (ks.zip vals) i+j)).map (·.1):=fun hm=>by
    have h5:List.Sublist ((P.take (offQ at_ (ks.zip vals) i+(j+1))).map (·.1)) (P.map (·.1)):=(List.take_sublist _ _).map _
    rw[HPK.out]at h5
    have h6:=HVN.out.sublist h5
    rw[htk,List.map_append,List.nodup_append]at h6
    exact h6.2.2 _ hm _ (by simp) rfl
   have hpt:=wantZ_add (b:=bj) hni
   have hWl:(P.take (offQ at_ (ks.zip vals) i+j)).length≤1000:=by
    rw[List.length_take,HPL.out];omega
   have HTK:=Lib.hid htk
   clear htk hni p3
   generalize P.take (offQ at_ (ks.zip vals) i+j)=W at *
   have hne2:bm≠c:=Ne.symm hcb
   rcases HV.out.r with ⟨hW,hx⟩|⟨hW,g,g1,g2,g3,hx⟩
   ·subst hW hx
    simp only[List.nil_append]at hpt HTK
    have HH:=Lib.hid (And.intro HV.out hpt)
    generalize hZ0:wantZ []=Z0 at *
    generalize hZ1:wantZ [(vj,bj)]=Z1 at *
    have HZ:=Lib.hid hZ1
    clear hZ1 HV hZ0
    (repeat'(first|refine Ctl ?_|((with_reducible refine Kof.use hK ?_);clear hK hE K E)|((with_reducible refine W_cond (fun h=>?_) (fun h=>?_))<;>(try(exfalso;assumption)))|((first|(with_reducible refine G_region fun K E hK hE=>?_)|((with_reducible refine W_app0 (fun bM hM=>?_))))<;>(try simp(disch:=omega) only[go_sem,seval,p1,p2,q6,hpt, *]))))
    all_goals exact⟨_,Fg.refl _,m2 - 1,by omega,j+1,_,by omega,by omega,Lib.hid (by rw[HTK.out];exact HH.out.1.put0 hM (by rw[HZ.out])),z_sl,z_sl,z_sl,z_sl,z_sl,z_sl,z_sl,z_sl,z_sl,z_sl,z_sl⟩
   ·subst hx
    have hxl:(ints (W.map fun p=>(p.1:Int))).length=W.length:=by simp[ints]
    have hxa:ints ((W++[(vj,bj)]).map fun p=>(p.1:Int))=ints (W.map fun p=>(p.1:Int))++[.int .i64 (vj:Int)]:=by simp[ints]
    have hwa:(W++[(vj,bj)]).length=W.length+1:=by simp
    have hgc:g≠c:=fun e=>hcf (e ▸ g2)
    have hgc2:c≠g:=Ne.symm hgc
    have hgb2:bm≠g:=Ne.symm g1
    have HH:=Lib.hid (And.intro HV.out (And.intro hpt (And.intro hxa (And.intro hwa g2))))
    generalize hZ0:wantZ W=Z0 at *
    generalize hZ1:wantZ (W++[(vj,bj)])=Z1 at *
    have HZ:=Lib.hid hZ1
    clear hZ1 HV hZ0 hxa hwa hW
    generalize hXS:ints (W.map fun p=>(p.1:Int))=XS at *
    generalize hwl3:W.length=wl at *
    have HXS:=Lib.hid hXS
    have HWL:=Lib.hid hwl3
    clear hXS hwl3
    (repeat'(first|refine Ctl ?_|((with_reducible refine Kof.use hK ?_);clear hK hE K E)|((with_reducible refine W_cond (fun h=>?_) (fun h=>?_))<;>(try(exfalso;assumption)))|((first|(with_reducible refine G_region fun K E hK hE=>?_)|((with_reducible refine W_appM (fun bM hM=>?_))))<;>(try simp(disch:=omega) only[go_sem,seval,p1,p2,q6,hpt,Nat.mul_one,hxl, *]))))
    all_goals exact⟨_,Fg.refl _,m2 - 1,by omega,j+1,_,by omega,by omega,Lib.hid (by rw[HTK.out];exact HH.out.1.put g1 HH.out.2.2.2.2 hM (by rw[HZ.out]) HH.out.2.2.1.symm HH.out.2.2.2.1.symm),z_sl,z_sl,z_sl,z_sl,z_sl,z_sl,z_sl,z_sl,z_sl,z_sl,z_sl⟩
  ·have hjw:j=w:=by omega
   subst hjw
   have hv:=HV.out
   rw[← HNX.out]at hv
   have HV2:=Lib.hid hv
   clear HV hv hum
   (repeat'(first|refine Ctl ?_|((with_reducible refine Kof.use hK ?_);clear hK hE K E)|((with_reducible refine W_cond (fun h=>?_) (fun h=>?_))<;>(try(exfalso;assumption)))|(((with_reducible refine G_region fun K E hK hE=>?_))<;>(try simp(disch:=omega) only[go_sem,seval,hbl, *]))))
   all_goals exact⟨_,Fg.refl _,m - 1,by omega,i+1,_,by omega,by omega,HV2,z_sl,z_sl,z_sl,z_sl,z_sl,z_sl,z_sl⟩
 ·have hie:i=ks.length:=by omega
  have hv:=HV.out
  rw[hie,← HZL.out,offQ_end,← HP.out,List.take_length]at hv
  have ws:=hv.sort (by rw[HPL.out];omega)
  rw[HPK.out,HR.out.1]at ws
  clear HV hv
  (repeat'(first|refine Ctl ?_|((with_reducible refine Kof.use hK ?_);clear hK hE K E)|((with_reducible refine W_cond (fun h=>?_) (fun h=>?_))<;>(try(exfalso;omega)))|(((with_reducible refine G_region fun K E hK hE=>?_))<;>(try simp(disch:=omega) only[go_sem,seval,hln, *]))))
  refine call_ex can42 ws (fun a h=>?_)
  have HS:=Lib.hid h
  clear h ws
  simp only[go_sem,seval]
  (repeat'(first|(with_reducible refine Kp_atQ 20 ?_)|refine Ctl ?_|((with_reducible refine Kof.use hK ?_);clear hK hE K E)))
  unfold StopQ
  refine Kp_frzV 11 HS.out (z_sl) fun uF hum hfr=>?_
  clear HS
  have hSN:intsL (SL.map fun(k:Nat)=>(k:Int))=natsL SL:=(natsL_ints SL).symm
  rw[hSN]
  have hSl:(natsL SL).length=SL.length:=natsL_len
  have hSL9:SL.length≤960:=by rw[HR.out.2.1.length_eq];exact hlv30
  have hC:=HC.out
  have hCF:CMem uF KK q c n B ns ds at_:=by
   obtain⟨n1,n2,n3,n4⟩:=hC.nq
   exact⟨hC.om.keep fun z hz=>hfr z (hC.om.live hz),(hfr _ n3).trans hC.qo,(hfr _ n4).trans hC.co⟩
  have hk0:OKeep s uF KK KK:=⟨rfl,rfl,rfl,fun z hz=>.inl hz,fun z hz _=>hfr z hz⟩
  have hbK:¬ KK.has bm:=fun h=>hC.om.live h HB.out
  obtain⟨CL,hCL⟩:∃CL,CL=cubL SL P:=⟨_,rfl⟩
  have hCLk:CL.map (·.1)=SL:=by rw[hCL,cubL,List.map_map];exact List.map_id _
  have hCLl:CL.length=SL.length:=by rw[← hCLk,List.length_map]
  have hPn:(P.map (·.1)).Nodup:=by rw[HPK.out];exact HVN.out
  have hev2:cubF CL=tupF at_ ks vals:=by
   rw[← HEV.out,hCL]
   funext x
   exact cubL_ev hPn (by rw[HPK.out];exact HR.out.2.1) x
  have hat:∀i (v:Nat),SL[i]?=some v→(natsL SL)[i]?=some [VV.int .i64 (v:Int)]∧CL[i]?=some (v,(lkZ (v:Int) (wantZ P)).getD false):=fun i v h=>⟨natsL_at h,by rw[hCL,cubL,List.getElem?_map,h];rfl⟩
  have hpw:(CL.map (·.1)).Pairwise (·<·):=by rw[hCLk];exact HR.out.2.2
  have hlt:∀p,p∈CL→p.1<n:=fun p hp=>HVL.out _ (HR.out.2.1.mem_iff.1 (by rw[← hCLk];exact List.mem_map_of_mem hp))
  have hBB:N+CL.length≤B:=by rw[hCLl,HR.out.2.1.length_eq];exact HCN.out.2
  have c0:=hC.om.c0.2
  have hI0:TupI uF KK q c n B ns ds at_ CL N SL.length uF KK ns:=⟨hCF,.refl _ _,⟨[],by simp⟩,by rw[← hCLl,List.drop_length];exact c0.1,by rw[hCLl,Nat.sub_self];exact HCN.out.1⟩
  have h18:ixF n ns (cubF (CL.drop SL.length))=1:=by rw[← hCLl,List.drop_length];exact c0.2
  have HI0:=Lib.hid hI0
  have HK0:=Lib.hid hk0
  have HBK:=Lib.hid hbK
  have HEV2:=Lib.hid hev2
  have HAT:=Lib.hid hat
  have HMK:=Lib.hid (And.intro hpw (And.intro hlt hBB))
  have HLN:=Lib.hid (hCLl.trans HR.out.2.1.length_eq)
  have HUM:=Lib.hid hum
  clear hC hCF hk0 hbK hCL hCLk hCLl hPn hev2 hat hpw hlt hBB c0 hI0 hSN HR HROW HPK HP HEV HVN HVL HZL HPL HVK HVV HCN hlv30
  generalize natsL SL=VS at *
  generalize hsl:SL.length=sl at *
  have HSL:=Lib.hid hsl
  clear hsl
  obtain⟨WZ,hWZ⟩:∃WZ,WZ=wantZ P:=⟨_,rfl⟩
  rw[← hWZ]at hum HUM HAT
  clear hWZ
  (repeat'(first|refine Ctl ?_|((with_reducible refine Kof.use hK ?_);clear hK hE K E)|(((with_reducible refine G_region fun K E hK hE=>?_))<;>(try simp(disch:=omega) only[go_sem,seval,hSl, *]))))
  refine G_loop (fun m env s'=>∃(K':OB) (ns':List Tr),m≤sl∧Hid (TupI uF KK q c n B ns ds at_ CL N m s' K' ns')∧s' bm=.map (mpZ encB WZ)∧env 0=.ptr c 0∧env 10=.mp bm∧env 11=.lst VS .no∧env 18=.int .i64 (ixF n ns' (cubF (CL.drop m)):Nat)∧env 19=.int .i64 ((m:Int) - 1)) sl ?_ ?_
  ·exact⟨_,Fg.refl _,KK,ns,by omega,HI0,hum,z_sl,z_sl,z_sl,by(rw[h18];((try simp(disch:=assumption) only[go_sem,seval, *])<;>rfl)),z_sl⟩
  clear HI0 h18 hum e0 e2 e10 e11 e40 e41 e42
  rintro m env s' ⟨K',ns',hm,HI,hsb,e0,e10,e11,e18,e19⟩
  have I:=HI.out
  have hbK':¬ K'.has bm:=fun h=>by
   rcases I.kp.nw bm h with h|h
   ·exact HBK.out h
   ·have:=HUM.out;rw[h]at this;cases this
  cases m with
  |succ i=>
   obtain⟨v,hv⟩:∃v,SL[i]?=some v:=⟨_,List.getElem?_eq_getElem (by rw[HSL.out];omega)⟩
   obtain⟨hx,hCLi⟩:=HAT.out i v hv
   obtain⟨d,cc,ho⟩:=I.m.om.op
   have wq:=Qops_S s' q K'.o K'.s.p I.m.qo
   have wst:=Ostore_S s' K'.o K'.s.p d cc ho
   have hco':=I.m.co
   have wm:=I.mk1 hCLi HMK.out.1 HMK.out.2.1 HMK.out.2.2
   have e:(((i+1:Nat):Int) - 1)=(i:Int):=by omega
   rw[e]at e19
   have hnxt:=fun(a:IteA) h=>I.next (a:=a) hCLi h
   have HNXT:=Lib.hid hnxt
   have HBK':=Lib.hid hbK'
   unfold OpFC at wm
   have hc0:(0:Int)≤(i:Int):=by omega
   clear I HI ho hv hnxt hbK' e hCLi
   generalize ixF n ns' (cubF (CL.drop (i+1)))=kz at *
   generalize hlk:(lkZ (v:Int) WZ).getD false=bv at *
   cases bv with
   |true=>
    simp only[if_true]at wm
    (repeat'(first|refine Ctl ?_|((with_reducible refine Kof.use hK ?_);clear hK hE K E)|((with_reducible refine W_cond (fun h=>?_) (fun h=>?_))<;>(try(exfalso;assumption)))|(((with_reducible first|refine G_region fun K E hK hE=>?_|refine call_ret can18 (wq) ?_|refine call_ret can33 (wst) ?_))<;>(try simp(disch:=omega) only[go_sem,seval,hSl,hx,hlk, *]))))
    refine call_ex can43 wm (fun a h=>?_)
    obtain⟨u2,K2,ns2⟩:=a
    have I2:=Lib.hid (HNXT.out _ h)
    have hbm2:u2 bm=.map (mpZ encB WZ):=(h.k.out bm (by rw[hsb];simp) HBK'.out).trans hsb
    clear h wm HNXT
    dsimp only at hbm2 I2 ⊢
    simp only[go_sem,seval]
    (repeat'(first|refine Ctl ?_|((with_reducible refine Kof.use hK ?_);clear hK hE K E)|((with_reducible refine W_cond (fun h=>?_) (fun h=>?_))<;>(try(exfalso;assumption)))|(((with_reducible refine G_region fun K E hK hE=>?_))<;>(try simp(disch:=omega) only[go_sem,seval, *]))))
    all_goals exact⟨_,Fg.refl _,i,by omega,K2,ns2,by omega,I2,hbm2,z_sl,z_sl,z_sl,z_sl,z_sl⟩
   |false=>
    simp only[Bool.false_eq_true,if_false]at wm
    (repeat'(first|refine Ctl ?_|((with_reducible refine Kof.use hK ?_);clear hK hE K E)|((with_reducible refine W_cond (fun h=>?_) (fun h=>?_))<;>(try(exfalso;assumption)))|(((with_reducible first|refine G_region fun K E hK hE=>?_|refine call_ret can18 (wq) ?_|refine call_ret can33 (wst) ?_))<;>(try simp(disch:=omega) only[go_sem,seval,hSl,hx,hlk, *]))))
    refine call_ex can43 wm (fun a h=>?_)
    obtain⟨u2,K2,ns2⟩:=a
    have I2:=Lib.hid (HNXT.out _ h)
    have hbm2:u2 bm=.map (mpZ encB WZ):=(h.k.out bm (by rw[hsb];simp) HBK'.out).trans hsb
    clear h wm HNXT
    dsimp only at hbm2 I2 ⊢
    simp only[go_sem,seval]
    (repeat'(first|refine Ctl ?_|((with_reducible refine Kof.use hK ?_);clear hK hE K E)|((with_reducible refine W_cond (fun h=>?_) (fun h=>?_))<;>(try(exfalso;assumption)))|(((with_reducible refine G_region fun K E hK hE=>?_))<;>(try simp(disch:=omega) only[go_sem,seval, *]))))
    all_goals exact⟨_,Fg.refl _,i,by omega,K2,ns2,by omega,I2,hbm2,z_sl,z_sl,z_sl,z_sl,z_sl⟩
  |zero=>
   have e:(((0:Nat):Int) - 1)=-1:=rfl
   rw[e]at e19
   have hmem:=I.mem
   have hcnt:=I.cnt
   rw[List.drop_zero,HEV2.out]at hmem
   rw[List.drop_zero,HEV2.out]at e18
   rw[Nat.sub_zero,HLN.out]at hcnt
   have HRR:Hid (OpF s KK n B ns (N+(varsOf at_ ks).length) (tupF at_ ks vals) (s',K',ns')):=Lib.hid ⟨I.m.om,I.pre,hmem,hcnt,HK0.out.trans I.kp⟩
   clear I HI hmem hcnt
   (repeat'(first|refine Ctl ?_|((with_reducible refine Kof.use hK ?_);clear hK hE K E)|((with_reducible refine W_cond (fun h=>?_) (fun h=>?_))<;>(try(exfalso;assumption)))|(((with_reducible refine G_region fun K E hK hE=>?_))<;>(try simp(disch:=omega) only[go_sem,seval, *]))))
   all_goals(refine W_ret res16 hQ ?_)
   all_goals exact⟨_,_,Wk.refl _,Fg.refl _,mkA3 (K',ns') rfl HRR.out⟩
end Go.Proofs.YtndlnadbnganeaaGreatDoor
namespace Go.Proofs.YtndlnadbnganeaaGreatDoor
open Go.RowKit
theorem Cquan_S (s:St)(c q:Nat)(D A:VV)(h:s c=.obj 63 [.ptr q 0,D,A]):SRet Tryz.prog 17 [.ptr c 0] s (.ptr q 0) s:=by
 refine G_enter Tryz.func17 rfl Tryz.ntmps17 rfl fun Q hQ hQe=>?_
 (repeat'(first|refine Ctl ?_|((with_reducible refine Kof.use hK ?_);clear hK hE K E)|((with_reducible refine W_cond (fun h=>?_) (fun h=>?_))<;>(try(exfalso;assumption)))|(((with_reducible refine G_region fun K E hK hE=>?_))<;>(try simp(disch:=omega) only[go_sem,seval, *]))))
 all_goals(refine W_ret res17 hQ ?_)
 all_goals(refine⟨_,_,Wk.of_eq ?_,?_,rfl,rfl⟩)
 all_goals first|rfl|(exact z_fg)
section
variable {s u : St} {K : OB} {q c : Nat} {ns : List Tr} {x y : Nat} {o : List (List Nat)} {N : Nat}
theorem Law.vlen (h:Law s u K q c ns x y o N):∀l:List Nat,(∀k,k∈l→k<3)→(varsOf o l).length≤4 * l.length:=by
 intro l
 induction l with
 |nil=>intro _;simp[varsOf]
 |cons k l ih=>
  intro hl
  have:=ih fun k hk=>hl k (List.mem_cons_of_mem _ hk)
  have h2:=(h.wid (hl k (List.mem_cons_self ..))).2.1
  have e:varsOf o (k::l)=o.getD k []++varsOf o l:=by simp[varsOf]
  rw[e,List.length_append,List.length_cons]
  omega
theorem Law.vars (h:Law s u K q c ns x y o N)(ks:List Nat)(ow:Own)(hks:∀k,k∈ks→k<3)(hl:ks.length≤32) :
  SRet Tryz.prog 21 [.ptr c 0,.lst (natsL ks) ow] u (.tup (if ks.Nodup then [.lst (natsL (varsOf o ks)) .no,.int .i64 0] else [.lst [] .no,.int .i64 1])) u:=
 Cvars_S h.C h.D ks ow hks hl
theorem Law.sizes {ks vals:List Nat}(hvs:∀(i k v:Nat),ks[i]?=some k→vals[i]?=some v→v<szD x y k)(hks:∀k,k∈ks→k<3):∀(i k v:Nat) (z:List UInt8×Nat),ks[i]?=some k→vals[i]?=some v→(dsT x y)[k]?=some z→v<z.2:=fun i k v z h1 h2 h3=>by
 rw[dsT_at (hks k (List.mem_of_getElem? h1))]at h3
 injection h3 with h3
 rw[← h3]
 exact hvs i k v h1 h2
theorem Law.tuple (h:Law s u K q c ns x y o N)(ks vals:List Nat)(ow ow2:Own)(hks:∀k,k∈ks→k<3)(hl:ks.length≤3)(hnd:ks.Nodup)(hvl:vals.length=ks.length)(hvs:∀(i k v:Nat),ks[i]?=some k→vals[i]?=some v→v<szD x y k)(hB:N+12≤16384) :
  OpFC 16 [.ptr c 0,.lst (natsL ks) ow,.lst (natsL vals) ow2] u K 12 16384 ns (N+12) (tupF o ks vals):=by
 have hv:=h.vlen ks hks
 exact(Ctuple_S h.C h.D ks vals ow ow2 hks (by omega) hnd hvl (Law.sizes hvs hks) h.n (by omega)).mono (by omega)
theorem Law.co (h:Law s u K q c ns x y o N):SRet Tryz.prog 18 [.ptr q 0] u (.ptr K.o 0) u:=Qops_S u q K.o K.s.p h.C.qo
theorem Law.own (h:Law s u K q c ns x y o N){ow:Own}{T:TypeId}{sz n:Nat}(hO:OwnOk u ow n):Law s (u.own ow T sz n) K q c ns x y o N:=h.more fun z hz=>by
 rcases Fg.own (T:=T) (sz:=sz) hO z with e|e
 ·exact absurd e hz
 ·exact e.symm
end
end Go.Proofs.YtndlnadbnganeaaGreatDoor
