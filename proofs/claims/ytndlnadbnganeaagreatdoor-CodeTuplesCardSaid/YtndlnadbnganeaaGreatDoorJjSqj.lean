/- Walks of functions that the claim reaches, and plain facts of them. Conditions: those in the statements. -/
import Derived.Test.YtndlnadbnganeaaGreatDoorJjRzj
import Derived.Test.YtndlnadbnganeaaGreatDoorJjPkj
import Derived.Test.YtndlnadbnganeaaGreatDoorJjSk
import Derived.Test.YtndlnadbnganeaaGreatDoorJjWa
set_option linter.unusedSimpArgs false
set_option linter.unusedVariables false
set_option maxRecDepth 100000
namespace Go.Proofs.YtndlnadbnganeaaGreatDoor
open Go.RowKit
def wantZ (W:List (Nat×Bool)):List (Int×Bool):=W.map fun p=>((p.1:Int),p.2)
theorem wantZ_none {v:Nat}{W:List (Nat×Bool)}(h:v∉W.map (·.1)):lkZ (v:Int) (wantZ W)=none:=by
 rw[lkZ_none]
 intro h2
 simp only[wantZ,List.map_map,List.mem_map,Function.comp]at h2
 obtain⟨p,hp,e⟩:=h2
 have e2:p.1=v:=by omega
 exact h (e2 ▸ List.mem_map_of_mem hp)
theorem wantZ_add {v:Nat}{b:Bool}{W:List (Nat×Bool)}(h:v∉W.map (·.1)):ptZ (v:Int) b (wantZ W)=wantZ (W++[(v,b)]):=by
 rw[ptZ_new (wantZ_none h)]
 simp[wantZ]
theorem wantZ_some {v:Nat}{b:Bool}:∀{W:List (Nat×Bool)},(W.map (·.1)).Nodup→(v,b)∈W→lkZ (v:Int) (wantZ W)=some b
 |[],_,h=>by cases h
 |p::W,hn,h=>by
  rw[List.map_cons,List.nodup_cons]at hn
  have ih:=wantZ_some (v:=v) (b:=b) hn.2
  simp only[wantZ,List.map_cons,lkZ]at ih ⊢
  rcases List.mem_cons.1 h with rfl|h
  ·rw[if_pos rfl]
  ·have hne:v≠p.1:=fun e=>hn.1 (e ▸ List.mem_map_of_mem h)
   rw[if_neg (by omega),ih h]
theorem zipB_keys {n:Nat}:∀{i:Nat} {vs:List Nat},(zipB n i vs).map (·.1)=vs
 |_,[]=>rfl
 |i,v::vs=>by simp only[zipB,List.map_cons,zipB_keys]
theorem zipB_len {n i:Nat}{vs:List Nat}:(zipB n i vs).length=vs.length:=by
 have:=congrArg List.length (zipB_keys (n:=n) (i:=i) (vs:=vs))
 simpa using this
theorem zipB_at {n v:Nat}:∀{i j:Nat} {vs:List Nat},vs[j]?=some v→(zipB n i vs)[j]?=some (v,n.testBit (i+j))
 |i,j,[],h=>by simp at h
 |i,0,w::vs,h=>by simp at h;subst h;rfl
 |i,j+1,w::vs,h=>by
  simp only[zipB,List.getElem?_cons_succ]at h ⊢
  rw[zipB_at h,show i+1+j=i+(j+1) by omega]
def tupQ (at_:List (List Nat))(Q:List (Nat×Nat)):List (Nat×Bool):=Q.flatMap fun p=>zipB p.2 0 (at_.getD p.1 [])
def offQ (at_:List (List Nat))(Q:List (Nat×Nat))(i:Nat):Nat:=(tupQ at_ (Q.take i)).length
theorem tupQ_split {at_:List (List Nat)}{Q:List (Nat×Nat)}{i k n:Nat}(h:Q[i]?=some (k,n)):tupQ at_ Q=tupQ at_ (Q.take i)++(zipB n 0 (at_.getD k [])++tupQ at_ (Q.drop (i+1))):=by
 have h1:=(List.getElem?_eq_some_iff.1 h)
 obtain⟨hi,e⟩:=h1
 conv=>lhs;rw[← List.take_append_drop i Q,List.drop_eq_getElem_cons hi,e]
 simp only[tupQ,List.flatMap_append,List.flatMap_cons]
theorem offQ_next {at_:List (List Nat)}{Q:List (Nat×Nat)}{i k n:Nat}(h:Q[i]?=some (k,n)):offQ at_ Q (i+1)=offQ at_ Q i+(at_.getD k []).length:=by
 unfold offQ
 rw[List.take_add_one,h]
 simp only[tupQ,Option.toList_some,List.flatMap_append,List.flatMap_cons,List.flatMap_nil,List.append_nil,List.length_append,zipB_len]
theorem offQ_at {at_:List (List Nat)}{Q:List (Nat×Nat)}{i j k n v:Nat}(h:Q[i]?=some (k,n))(hj:(at_.getD k [])[j]?=some v):(tupQ at_ Q)[offQ at_ Q i+j]?=some (v,n.testBit j):=by
 have hl:=(List.getElem?_eq_some_iff.1 hj).1
 rw[tupQ_split h,offQ,List.getElem?_append_right (by omega),Nat.add_sub_cancel_left,List.getElem?_append_left (by rw[zipB_len];exact hl),zipB_at hj,Nat.zero_add]
theorem offQ_end {at_:List (List Nat)}{Q:List (Nat×Nat)}:offQ at_ Q Q.length=(tupQ at_ Q).length:=by rw[offQ,List.take_length]
theorem tupQ_keys {at_:List (List Nat)}:∀{ks vals:List Nat},vals.length=ks.length→(tupQ at_ (ks.zip vals)).map (·.1)=varsOf at_ ks
 |[],_,_=>rfl
 |k::ks,[],h=>by simp at h
 |k::ks,v::vals,h=>by
  have ih:=tupQ_keys (at_:=at_) (ks:=ks) (vals:=vals) (by simpa using h)
  simp only[tupQ,List.zip_cons_cons,List.flatMap_cons,List.map_append,zipB_keys,varsOf]at ih ⊢
  rw[ih]
def tupF (at_:List (List Nat))(ks vals:List Nat)(x:Nat→Bool):Bool:=(ks.zip vals).all fun p=>decide (numA (at_.getD p.1 []) x=p.2)
theorem tupQ_ev {at_:List (List Nat)}{x:Nat→Bool}:∀{Q:List (Nat×Nat)},(∀p,p∈Q→p.2<2 ^ (at_.getD p.1 []).length)→cubF (tupQ at_ Q) x=Q.all fun p=>decide (numA (at_.getD p.1 []) x=p.2)
 |[],_=>rfl
 |p::Q,h=>by
  have ih:=tupQ_ev (at_:=at_) (x:=x) (Q:=Q) fun q hq=>h q (List.mem_cons_of_mem _ hq)
  have h1:=cubF_zip (n:=p.2) (x:=x) (at_.getD p.1 []) 0 (by rw[Nat.pow_zero,Nat.div_one];exact h p (List.mem_cons_self ..))
  rw[Nat.pow_zero,Nat.div_one]at h1
  rw[List.all_cons,← ih,← h1,← cubF_app]
  rfl
theorem tupF_dep (at_:List (List Nat)){ks vals:List Nat}:DepF (varsOf at_ ks) (tupF at_ ks vals):=fun x y e=>by
 unfold tupF
 rw[Bool.eq_iff_iff]
 simp only[List.all_eq_true]
 have key:∀p,p∈ks.zip vals→numA (at_.getD p.1 []) x=numA (at_.getD p.1 []) y:=fun p hp=>numA_congr fun v hv=>e v (List.mem_flatMap.2 ⟨p.1,(List.of_mem_zip (a:=p.1) (b:=p.2) hp).1,hv⟩)
 exact⟨fun h p hp=>by rw[← key p hp];exact h p hp,fun h p hp=>by rw[key p hp];exact h p hp⟩
theorem riseN (V:List Nat)(hn:V.Nodup):∃SL:List Nat,riseZ (V.map fun(k:Nat)=>(k:Int))=SL.map (fun(k:Nat)=>(k:Int))∧SL.Perm V∧SL.Pairwise (·<·):=by
 have hp:=riseZ_perm (V.map fun(k:Nat)=>(k:Int))
 have hw:=riseZ_pw (V.map fun(k:Nat)=>(k:Int))
 generalize riseZ (V.map fun(k:Nat)=>(k:Int))=Z at *
 have hz:(Z.map Int.toNat).map (fun(k:Nat)=>(k:Int))=Z:=by
  rw[List.map_map]
  conv=>rhs;rw[← List.map_id Z]
  apply List.map_congr_left
  intro z hz
  obtain⟨k,_,rfl⟩:=List.mem_map.1 (hp.mem_iff.1 hz)
  rfl
 have hq:(Z.map Int.toNat).Perm V:=by
  have h1:=hp.map Int.toNat
  rw[List.map_map]at h1
  have e:V.map (Int.toNat ∘ fun(k:Nat)=>(k:Int))=V:=by
   conv=>rhs;rw[← List.map_id V]
   apply List.map_congr_left
   intro k _
   rfl
  rwa [e]at h1
 refine⟨Z.map Int.toNat,hz.symm,hq,?_⟩
 have hnd:(Z.map Int.toNat).Nodup:=hq.nodup_iff.2 hn
 rw[← hz,List.pairwise_map]at hw
 refine(hw.and hnd).imp fun {a b} h=>?_
 have:=h.1
 have:=h.2
 omega
def cubL (SL:List Nat)(P:List (Nat×Bool)):List (Nat×Bool):=SL.map fun v=>(v,(lkZ (v:Int) (wantZ P)).getD false)
theorem cubL_ev {SL:List Nat}{P:List (Nat×Bool)}(hP:(P.map (·.1)).Nodup)(hS:SL.Perm (P.map (·.1)))(x:Nat→Bool):cubF (cubL SL P) x=cubF P x:=by
 refine cubF_ext (fun p=>?_) x
 simp only[cubL,List.mem_map]
 constructor
 ·rintro⟨v,hv,rfl⟩
  obtain⟨p,hp,rfl⟩:=List.mem_map.1 (hS.mem_iff.1 hv)
  rw[wantZ_some (b:=p.2) hP hp]
  exact hp
 ·intro hp
  exact⟨p.1,hS.mem_iff.2 (List.mem_map_of_mem hp),by rw[wantZ_some (b:=p.2) hP hp];rfl⟩
structure VarT (s:St) (bm:Nat) (u:St) (x:VV) (W:List (Nat×Bool)):Prop where
 m:u bm=.map (mpZ encB (wantZ W))
 bf:s bm=.free
 r:(W=[]∧x=.raw (.slice none 0 0))∨(W≠[]∧∃g,g≠bm∧s g=.free∧u g=.row 3 1 (ints (W.map fun p=>(p.1:Int)))∧x=.mrw g W.length)
 fr:∀z,s z≠.free→u z=s z
theorem VarT.put0 {s:St}{bm:Nat}{u:St}{x:VV}{v:Nat}{b:Bool}{bM:Nat}{M:Cell}(h:VarT s bm u x [])(hM:(u.set bm M) bM=.free)(he:M=.map (mpZ encB (wantZ [(v,b)]))):VarT s bm ((u.set bm M).set bM (.row 3 1 [.int .i64 (v:Int)])) (.mrw bM 1) [(v,b)]:=by
 have hne:bM≠bm:=fun e=>by rw[e,St.set_same,he]at hM;cases hM
 rw[St.set_other _ _ hne]at hM
 have hs:s bM=.free:=Classical.byContradiction fun h2=>h2 ((h.fr bM h2).symm.trans hM)
 refine⟨by rw[St.set_other _ _ (Ne.symm hne),St.set_same,he],h.bf,.inr ⟨by simp,bM,hne,hs,by rw[St.set_same];rfl,rfl⟩,fun z hz=>?_⟩
 have n1:=(nef hs hz).1
 have n2:=(nef h.bf hz).1
 rw[St.set_other _ _ n1,St.set_other _ _ n2,h.fr z hz]
theorem VarT.put {s:St}{bm g n:Nat}{u:St}{x:VV}{W:List (Nat×Bool)}{v:Nat}{b:Bool}{bM:Nat}{M:Cell}{xs:List VV}(h:VarT s bm u x W)(hg:g≠bm)(hgs:s g=.free)(hM:((u.set bm M).set g .free) bM=.free)(he:M=.map (mpZ encB (wantZ (W++[(v,b)]))))(hx:xs=ints ((W++[(v,b)]).map fun p=>(p.1:Int)))(hn:n=(W++[(v,b)]).length) :
  VarT s bm (((u.set bm M).set g .free).set bM (.row 3 1 xs)) (.mrw bM n) (W++[(v,b)]):=by
 have hne:bM≠bm:=fun e=>by rw[e,St.set_other _ _ (Ne.symm hg),St.set_same,he]at hM;cases hM
 have hs:s bM=.free:=by
  by_cases e:bM=g
  ·rw[e];exact hgs
  ·rw[St.set_other _ _ e,St.set_other _ _ hne]at hM
   exact Classical.byContradiction fun h2=>h2 ((h.fr bM h2).symm.trans hM)
 refine⟨by rw[St.set_other _ _ (Ne.symm hne),St.set_other _ _ (Ne.symm hg),St.set_same,he],h.bf,.inr ⟨by simp,bM,hne,hs,by rw[St.set_same,hx],by rw[hn]⟩,fun z hz=>?_⟩
 rw[St.set_other _ _ (nef hs hz).1,St.set_other _ _ (nef hgs hz).1,St.set_other _ _ (nef h.bf hz).1,h.fr z hz]
structure VarS (s:St) (bm:Nat) (u:St) (x:VV) (W:List (Nat×Bool)) (Z:List Int):Prop where
 m:u bm=.map (mpZ encB (wantZ W))
 r:(x=.raw (.slice none 0 0)∧ints Z=[])∨∃g,g≠bm∧s g=.free∧u g=.row 3 1 (ints Z)∧x=.mrw g (ints Z).length
 fr:∀z,s z≠.free→u z=s z
theorem VarT.sort {s:St}{bm:Nat}{u:St}{x:VV}{W:List (Nat×Bool)}(h:VarT s bm u x W)(hl:W.length≤100000) :
  SCalls Tryz.prog 42 [x] u fun w u'=>∃a:St,w=.ret (.tup [])∧u'=a∧VarS s bm a x W (riseZ ((W.map (·.1)).map fun(k:Nat)=>(k:Int))):=by
 rcases h.r with ⟨hW,hx⟩|⟨hW,g,g1,g2,g3,hx⟩
 ·subst hW hx
  refine SCalls.mono (h:=Isort0_S u) ?_
  rintro w u' ⟨rfl,rfl⟩
  exact⟨_,rfl,rfl,h.m,.inl ⟨rfl,by simp[riseZ,ints]⟩,h.fr⟩
 ·subst hx
  have e:(W.map fun p=>(p.1:Int))=(W.map (·.1)).map fun(k:Nat)=>(k:Int):=by simp
  rw[e]at g3
  have hlen:((W.map (·.1)).map fun(k:Nat)=>(k:Int)).length=W.length:=by simp
  have w:=Isort_S u g 3 ((W.map (·.1)).map fun(k:Nat)=>(k:Int)) (by rw[hlen];omega) g3
  rw[hlen]at w
  refine SCalls.mono (h:=w) ?_
  rintro w u' ⟨rfl,rfl⟩
  refine⟨_,rfl,rfl,?_,.inr ⟨g,g1,g2,St.set_same _ _ _,?_⟩,fun z hz=>?_⟩
  ·rw[St.set_other _ _ (Ne.symm g1)];exact h.m
  ·rw[show (ints (riseZ ((W.map (·.1)).map fun(k:Nat)=>(k:Int)))).length=W.length by simp only[ints,List.length_map,riseZ_len]]
  ·rw[St.set_other _ _ (nef g2 hz).1];exact h.fr z hz
theorem Kp_frzV {P:Program}{N:Nat}{D:List Deferred}{c:Code}{k:List Itm}{Q:Pst}{env:Env}{s u:St}{bm:Nat}{x:VV}{W:List (Nat×Bool)}{Z:List Int}(t:Nat)(h:VarS s bm u x W Z)(ht:env t=x)
  (hk:∀u',u' bm=.map (mpZ encB (wantZ W))→(∀z,s z≠.free→u' z=s z)→Kp P N D (.code c::k) Q .norm (upd env t (.lst (intsL Z) .no)) u'):Kp P N D (.code c::k) Q .norm env u:=by
 rcases h.r with ⟨hx,hZ⟩|⟨g,g1,g2,g3,hx⟩
 ·have e:intsL Z=[]:=by
   have:Z=[]:=by cases Z with|nil=>rfl|cons a l=>simp[ints]at hZ
   rw[this];rfl
  have hk2:=hk u h.m h.fr
  rw[e]at hk2
  exact Kp_wkt t (ht.trans hx) Wk.rawnil hk2
 ·refine Kp_frzR t g _ g3 (ht.trans hx) rfl ?_
  rw[ints_frz]
  refine hk _ ?_ fun z hz=>?_
  ·rw[St.set_other _ _ (Ne.symm g1)];exact h.m
  ·rw[St.set_other _ _ (nef g2 hz).1];exact h.fr z hz
attribute [-go_sem] p_and p_or p_shl p_shr
structure TupI (s:St) (K:OB) (q c n B:Nat) (ns:List Tr) (ds:List (List UInt8×Nat)) (at_:List (List Nat)) (CL:List (Nat×Bool)) (N i:Nat) (s':St) (K':OB) (ns':List Tr):Prop where
 m:CMem s' K' q c n B ns' ds at_
 kp:OKeep s s' K K'
 pre:∃l,ns'=ns++l
 mem:treeT n (cubF (CL.drop i))∈ns'
 cnt:CntN ns' (N+(CL.length - i))
theorem TupI.next {s:St}{K:OB}{q c n B:Nat}{ns:List Tr}{ds:List (List UInt8×Nat)}{at_:List (List Nat)}{CL:List (Nat×Bool)}{N i:Nat}{s':St}{K':OB}{ns':List Tr}{a:IteA}{v:Nat}{b:Bool}
  (I:TupI s K q c n B ns ds at_ CL N (i+1) s' K' ns') (hv:CL[i]?=some (v,b)) (h1:OpF s' K' n B ns' (N+(CL.length - (i+1))+1) (cubF (CL.drop i)) a):TupI s K q c n B ns ds at_ CL N i a.1 a.2.1 a.2.2:=by
 have hl:=(List.getElem?_eq_some_iff.1 hv).1
 refine⟨I.m.keep h1.m h1.k,I.kp.trans h1.k,pre_trans I.pre h1.pre,h1.mem,h1.cnt.mono (by omega)⟩
theorem TupI.mk1 {s:St}{K:OB}{q c n B:Nat}{ns:List Tr}{ds:List (List UInt8×Nat)}{at_:List (List Nat)}{CL:List (Nat×Bool)}{N i:Nat}{s':St}{K':OB}{ns':List Tr}{v:Nat}{b:Bool}
  (I:TupI s K q c n B ns ds at_ CL N (i+1) s' K' ns') (hv:CL[i]?=some (v,b)) (hp:(CL.map (·.1)).Pairwise (·<·)) (hlt:∀p,p∈CL→p.1<n) (hB:N+CL.length≤B) :
  OpFC 43 [.ptr K'.s.p 0,.int .i64 v,.int .i64 (if b=true then 0 else(ixF n ns' (cubF (CL.drop (i+1))):Nat)),.int .i64 (if b=true then(ixF n ns' (cubF (CL.drop (i+1))):Nat)else 0)] s' K' n B ns' (N+(CL.length - (i+1))+1) (cubF (CL.drop i)):=by
 obtain⟨hl,e⟩:=List.getElem?_eq_some_iff.1 hv
 have hd:CL.drop i=(v,b)::CL.drop (i+1):=by rw[List.drop_eq_getElem_cons hl,e]
 have c0:=I.m.om.c0.1
 have hS:∀w,w∈(CL.drop (i+1)).map (·.1)→v<w∧w<n:=fun w hw=>by
  have h1:=hp.sublist ((List.drop_sublist i CL).map (·.1))
  rw[hd,List.map_cons,List.pairwise_cons]at h1
  obtain⟨p,hp2,rfl⟩:=List.mem_map.1 hw
  exact⟨h1.1 _ hw,hlt p (List.mem_of_mem_drop hp2)⟩
 have hvn:=hlt _ (List.mem_of_getElem? hv)
 have hdep:DepF ((CL.drop (i+1)).map (·.1)) (cubF (CL.drop (i+1))):=cubF_dep fun p hp2=>List.mem_map_of_mem hp2
 have hst:=cubF_step (v:=v) (b:=b) (l:=CL.drop (i+1))
 rw[← hd]at hst
 cases b with
 |true=>
  have w:=Nmk_F1 I.m.om (f:=fun _=>false) (g:=cubF (CL.drop (i+1))) (v:=v) (S:=(CL.drop (i+1)).map (·.1)) (fun _ _ _=>rfl) hdep hS hvn c0.1 I.mem I.cnt (by omega)
  simp only[if_true]at hst
  rw[hst,c0.2]at w
  exact w
 |false=>
  have w:=Nmk_F1 I.m.om (f:=cubF (CL.drop (i+1))) (g:=fun _=>false) (v:=v) (S:=(CL.drop (i+1)).map (·.1)) hdep (fun _ _ _=>rfl) hS hvn I.mem c0.1 I.cnt (by omega)
  simp only[Bool.false_eq_true,if_false]at hst
  rw[hst,c0.2]at w
  exact w
set_option maxHeartbeats 16000000 in
theorem Ctuple_S {s:St}{KK:OB}{q c n B N:Nat}{ns:List Tr}{ds:List (List UInt8×Nat)}{at_:List (List Nat)}(hC:CMem s KK q c n B ns ds at_)(hD:DOk n ds at_)(ks vals:List Nat)(ow ow2:Own)(hks:∀k,k∈ks→k<ds.length)(hl:ks.length≤32)(hnd:ks.Nodup)(hvl:vals.length=ks.length)
  (hvs:∀(i k v:Nat) (x:List UInt8×Nat),ks[i]?=some k→vals[i]?=some v→ds[k]?=some x→v<x.2) (hc:CntN ns N) (hB:N+(varsOf at_ ks).length≤B) :
  OpFC 16 [.ptr c 0,.lst (natsL ks) ow,.lst (natsL vals) ow2] s KK n B ns (N+(varsOf at_ ks).length) (tupF at_ ks vals):=by
 have wv:=Cvars_S hC hD ks ow hks hl
 rw[if_pos hnd]at wv
 have hVN:=varsOf_nd hD hnd hks
 have hVL:=varsOf_lt hD hks
 have hln:(natsL ks).length=ks.length:=natsL_len
 have hln2:(natsL vals).length=ks.length:=by rw[natsL_len,hvl]
 obtain⟨P,hP⟩:∃P,P=tupQ at_ (ks.zip vals):=⟨_,rfl⟩
 have hPk:P.map (·.1)=varsOf at_ ks:=by rw[hP];exact tupQ_keys hvl
 have hPl:P.length=(varsOf at_ ks).length:=by rw[← hPk,List.length_map]
 have hzl:(ks.zip vals).length=ks.length:=by rw[List.length_zip,hvl,Nat.min_self]
 have hQat:∀i k v,ks[i]?=some k→vals[i]?=some v→(ks.zip vals)[i]?=some (k,v):=fun i k v h1 h2=>by
  rw[List.getElem?_zip_eq_some]
  exact⟨h1,h2⟩
 have hfit:∀i k v,ks[i]?=some k→vals[i]?=some v→v<2 ^ (at_.getD k []).length∧(at_.getD k []).length≤30:=fun i k v h1 h2=>by
  obtain⟨nm,sz,l,g1,g2,g3,g4,g5,g6,g7⟩:=hD.get (hks k (List.mem_of_getElem? h1))
  have e:at_.getD k []=l:=by rw[List.getD_eq_getElem?_getD,g2];rfl
  have:=hvs i k v _ h1 h2 g1
  have h4:=hD.w k _ _ g1 g2
  rw[e]
  exact⟨Nat.lt_of_lt_of_le this h4.2.1,g6⟩
 have hev:cubF P=tupF at_ ks vals:=by
  funext x
  rw[hP]
  refine tupQ_ev fun p hp=>?_
  obtain⟨i,hi,e⟩:=List.mem_iff_getElem.1 hp
  have h1:(ks.zip vals)[i]?=some p:=by rw[List.getElem?_eq_getElem hi,e]
  rw[List.getElem?_zip_eq_some]at h1
  exact(hfit i _ _ h1.1 h1.2).1
 have hlv30:(varsOf at_ ks).length≤960:=by
  have:∀l:List Nat,(∀k,k∈l→k<ds.length)→(varsOf at_ l).length≤30 * l.length:=by
   intro l
   induction l with
   |nil=>intro _;simp[varsOf]
   |cons k l ih=>
    intro h
    have h1:=ih fun k hk=>h k (List.mem_cons_of_mem _ hk)
    have h2:=(hD.getD (h k (List.mem_cons_self ..))).2.1
    have e:varsOf at_ (k::l)=at_.getD k []++varsOf at_ l:=by simp[varsOf]
    rw[e,List.length_append,List.length_cons]
    omega
  have:=this ks hks
  omega
 have hrow:∀i,i<ks.length→∃(k v:Nat) (nm:List UInt8) (sz:Nat),ks[i]?=some k∧(natsL ks)[i]?=some [.int .i64 (k:Int)]∧(natsL vals)[i]?=some [.int .i64 (v:Int)]∧(domsC ds)[k]?=some [.str nm,.int .i64 ((sz:Nat):Int)]∧v<sz∧(atC at_)[k]?=some [.lst (natsL (at_.getD k [])) .no]∧v<2 ^ (at_.getD k []).length∧(at_.getD k []).length≤30∧(ks.zip vals)[i]?=some (k,v):=fun i hi=>by
  have h1:=List.getElem?_eq_getElem hi
  have h2:=List.getElem?_eq_getElem (l:=vals) (i:=i) (by omega)
  obtain⟨nm,sz,l,g1,g2,g3,g4,g5,g6,g7⟩:=hD.get (hks _ (List.mem_of_getElem? h1))
  have e:at_.getD ks[i] []=l:=by rw[List.getD_eq_getElem?_getD,g2];rfl
  obtain⟨f1,f2⟩:=hfit i _ _ h1 h2
  exact⟨_,_,nm,sz,h1,natsL_at h1,natsL_at h2,domsC_at g1,hvs i _ _ _ h1 h2 g1,by rw[e];exact atC_at g2,f1,f2,hQat i _ _ h1 h2⟩
 obtain⟨SL,hr1,hr2,hr3⟩:=riseN _ hVN
 have hco:=hC.co
 have hcf:s c≠.free:=by rw[hco];simp
 have HC:=Lib.hid hC
 have HROW:=Lib.hid hrow
 have HPK:=Lib.hid hPk
 have HP:=Lib.hid hP
 have HEV:=Lib.hid hev
 have HVN:=Lib.hid hVN
 have HVL:=Lib.hid hVL
 have HR:=Lib.hid (And.intro hr1 (And.intro hr2 hr3))
 have HCN:=Lib.hid (And.intro hc hB)
 have HZL:=Lib.hid hzl
 have HPL:=Lib.hid hPl
 clear hC hD hks hnd hvl hvs hc hB hVN hVL hP hPk hPl hzl hQat hfit hev hrow hr1 hr2 hr3
 obtain⟨D,hDD⟩:∃D,D=domsC ds:=⟨_,rfl⟩
 obtain⟨A,hAA⟩:∃A,A=atC at_:=⟨_,rfl⟩
 rw[← hAA,← hDD]at hco
 have HAA:=Lib.hid hAA
 have HDD:=Lib.hid hDD
 clear hAA hDD
 obtain⟨VK,hVK⟩:∃V,V=natsL ks:=⟨_,rfl⟩
 obtain⟨VV2,hVV2⟩:∃V,V=natsL vals:=⟨_,rfl⟩
 obtain⟨VW,hVW⟩:∃V,V=natsL (varsOf at_ ks):=⟨_,rfl⟩
 rw[← hVK]at wv hln ⊢
 rw[← hVV2]at hln2 ⊢
 rw[← hVW]at wv
 have HVK:=Lib.hid hVK
 have HVV:=Lib.hid hVV2
 unfold OpFC
 clear hVK hVV2 hVW
 refine G_enter Tryz.func16 rfl Tryz.ntmps16 rfl fun Q hQ hQe=>?_
 (repeat'(first|(with_reducible refine Kp_atQ 6 ?_)|refine Ctl ?_|((with_reducible refine Kof.use hK ?_);clear hK hE K E)|((with_reducible refine W_cond (fun h=>?_) (fun h=>?_))<;>(try(exfalso;assumption)))|((first|(with_reducible first|refine G_region fun K E hK hE=>?_|refine call_ret can21 (wv) ?_)|((with_reducible refine W_fresh (fun b hb=>?_))))<;>(try simp(disch:=omega) only[go_sem,seval,hln,hln2, *]))))
 unfold StopQ
 obtain⟨bm,hbm⟩:∃z,z=b:=⟨_,rfl⟩
 subst hbm
 refine Kp_rawnil 11 (z_sl) ?_
 have V0:VarT s bm (s.set bm (.map [])) (.raw (.slice none 0 0)) []:=⟨St.set_same _ _ _,hb,.inl ⟨rfl,rfl⟩,fun z hz=>St.set_other _ _ (nef hb hz).1⟩
 have HV0:=Lib.hid V0
 have HB:=Lib.hid hb
 clear V0 wv
 (repeat'(first|refine Ctl ?_|((with_reducible refine Kof.use hK ?_);clear hK hE K E)|(((with_reducible refine G_region fun K E hK hE=>?_))<;>(try simp(disch:=omega) only[go_sem,seval,hln, *]))))
 refine G_loop (fun m env s'=>∃(i:Nat) (x:VV),i≤ks.length∧m+i=ks.length∧Hid (VarT s bm s' x (P.take (offQ at_ (ks.zip vals) i)))∧env 0=.ptr c 0∧env 2=.lst VV2 ow2∧env 10=.mp bm∧env 11=x∧env 40=.lst VK ow∧env 41=.int .i64 ks.length∧env 42=.int .i64 i) ks.length ?_ ?_
 ·exact⟨_,Fg.refl _,0,_,by omega,by omega,HV0,z_sl,z_sl,z_sl,z_sl,z_sl,z_sl,z_sl⟩
 clear HV0
 rintro m env u ⟨i,x,hi,hmi,HV,e0,e2,e10,e11,e40,e41,e42⟩
 by_cases h2:i<ks.length
 ·obtain⟨k,v,nm,sz,q1,q2,q3,q4,q5,q6,q7,q8,q9⟩:=HROW.out i h2
  rw[← HVK.out]at q2
  rw[← HVV.out]at q3
  rw[← HDD.out]at q4
  rw[← HAA.out]at q6
  have huco:u c=.obj 63 [.ptr q 0,.lst D .no,.lst A .no]:=(HV.out.fr c hcf).trans hco
  have hwl:(natsL (at_.getD k [])).length=(at_.getD k []).length:=natsL_len
  have wb:=fun s=>Bput_S s v (at_.getD k []).length (by omega) q7
  have hbl:(bitsL v (at_.getD k []).length).length=(at_.getD k []).length:=bitsL_len
  have hnx:=offQ_next (at_:=at_) q9
  have c1:¬ (v:Int)<0:=by omega
  have c2:¬ ((sz:Nat):Int)≤(v:Int):=by omega
  have hinn:∀j,j<(at_.getD k []).length→∃vj:Nat,(natsL (at_.getD k []))[j]?=some [.int .i64 (vj:Int)]∧(bitsL v (at_.getD k []).length)[j]?=some [.bool (v.testBit j)]∧P[offQ at_ (ks.zip vals) i+j]?=some (vj,v.testBit j):=fun j hj=>by
   have h1:=List.getElem?_eq_getElem hj
   exact⟨_,natsL_at h1,bitsL_at hj,by rw[HP.out];exact offQ_at q9 h1⟩
  have HNX:=Lib.hid hnx
  have HIN:=Lib.hid hinn
  clear hnx hinn q1 q5 q7 q9
  generalize hVA:natsL (at_.getD k [])=VA at *
  generalize hBL:bitsL v (at_.getD k []).length=BL at *
  generalize hwv:(at_.getD k []).length=w at *
  clear hVA hBL hwv
  have HV0:Hid (VarT s bm u x (P.take (offQ at_ (ks.zip vals) i+0))):=HV
  clear HV
  (repeat'(first|refine Ctl ?_|(with_reducible first|(refine Kof.use hK ?_;clear hK hE K E)|(refine Kof.use hKh ?_;clear hKh Kh)|(refine Kof.use hKb (P_next ?_);clear hKb Kb)|refine G_plan 9 [] [0,1,2,3,4,5,6,7,8,9,10,11,12,13,14,15,16,17,18,19] hQe fun K E hK hE=>?_|refine G_plan 11 [([0,1,2,3,4,5,6,7,8,9,10,11],12,[[]])] [13,14,15,16,17] hQe fun K E hK hE=>?_)|((with_reducible refine W_cond (fun h=>?_) (fun h=>?_))<;>(try(exfalso;assumption)))|(((with_reducible first|refine G_region fun K E hK hE=>?_|refine call_ret can41 (wb _) ?_|refine P_heads fun Kh hKh=>?_|refine P_fin fun Kh hKh=>?_|refine P_each fun Kb hKb=>?_))<;>(try simp(disch:=omega) only[go_sem,seval,q2,q3,q4,q6,c1,c2,hwl,hbl, *]))))
  refine G_loop (fun m2 env s'=>∃(j:Nat) (x:VV),j≤w∧m2+j=w∧Hid (VarT s bm s' x (P.take (offQ at_ (ks.zip vals) i+j)))∧env 0=.ptr c 0∧env 2=.lst VV2 ow2∧env 10=.mp bm∧env 11=x∧env 13=.int .i64 k∧env 40=.lst VK ow∧env 41=.int .i64 ks.length∧env 42=.int .i64 i∧env 83=.lst BL .no∧env 84=.int .i64 w∧env 85=.int .i64 j) w ?_ ?_
  ·exact⟨_,Fg.refl _,0,_,by omega,by omega,HV0,z_sl,z_sl,z_sl,z_sl,z_sl,z_sl,z_sl,z_sl,z_sl,z_sl,z_sl⟩
  clear HV0 e0 e2 e10 e11 e40 e41 e42 huco x
  rintro m2 env u ⟨j,x,hj,hmj,HV,e0,e2,e10,e11,e13,e40,e41,e42,e83,e84,e85⟩
  have huco:u c=.obj 63 [.ptr q 0,.lst D .no,.lst A .no]:=(HV.out.fr c hcf).trans hco
  have hum:=HV.out.m
  have hcb:c≠bm:=fun e=>hcf (e ▸ HB.out)
  by_cases h3:j<w
  ·obtain⟨vj,p1,p2,p3⟩:=HIN.out j h3
   generalize v.testBit j=bj at *
   have htk:P.take (offQ at_ (ks.zip vals) i+(j+1))=P.take (offQ at_ (ks.zip vals) i+j)++[(vj,bj)]:=by
    rw[← Nat.add_assoc,List.take_add_one,p3];rfl
   have hni:vj∉(P.take (offQ at_ (ks.zip vals) i+j)).map (·.1):=fun hm=>by
    have h5:List.Sublist ((P.take (offQ at_ (ks.zip vals) i+(j+1))).map (·.1)) (P.map (·.1)):=(List.take_sublist _ _).map _
    rw[HPK.out]at h5
    have h6:=HVN.out.sublist h5
    rw[htk,List.map_append,List.nodup_append]at h6
    exact h6.2.2 _ hm _ (by simp) rfl
   have hpt:=wantZ_add (b:=bj) hni
   have hWl:(P.take (offQ at_ (ks.zip vals) i+j)).length≤1000:=by
    rw[List.length_take,HPL.out];omega
   have HTK:=Lib.hid htk
   clear htk hni p3
   generalize P.take (offQ at_ (ks.zip vals) i+j)=W at *
   have hne2:bm≠c:=Ne.symm hcb
   rcases HV.out.r with ⟨hW,hx⟩|⟨hW,g,g1,g2,g3,hx⟩
   ·subst hW hx
    simp only[List.nil_append]at hpt HTK
    have HH:=Lib.hid (And.intro HV.out hpt)
    generalize hZ0:wantZ []=Z0 at *
    generalize hZ1:wantZ [(vj,bj)]=Z1 at *
    have HZ:=Lib.hid hZ1
    clear hZ1 HV hZ0
    (repeat'(first|refine Ctl ?_|((with_reducible refine Kof.use hK ?_);clear hK hE K E)|((with_reducible refine W_cond (fun h=>?_) (fun h=>?_))<;>(try(exfalso;assumption)))|((first|(with_reducible refine G_region fun K E hK hE=>?_)|((with_reducible refine W_app0 (fun bM hM=>?_))))<;>(try simp(disch:=omega) only[go_sem,seval,p1,p2,q6,hpt, *]))))
    all_goals exact⟨_,Fg.refl _,m2 - 1,by omega,j+1,_,by omega,by omega,Lib.hid (by rw[HTK.out];exact HH.out.1.put0 hM (by rw[HZ.out])),z_sl,z_sl,z_sl,z_sl,z_sl,z_sl,z_sl,z_sl,z_sl,z_sl,z_sl⟩
   ·subst hx
    have hxl:(ints (W.map fun p=>(p.1:Int))).length=W.length:=by simp[ints]
    have hxa:ints ((W++[(vj,bj)]).map fun p=>(p.1:Int))=ints (W.map fun p=>(p.1:Int))++[.int .i64 (vj:Int)]:=by simp[ints]
    have hwa:(W++[(vj,bj)]).length=W.length+1:=by simp
    have hgc:g≠c:=fun e=>hcf (e ▸ g2)
    have hgc2:c≠g:=Ne.symm hgc
    have hgb2:bm≠g:=Ne.symm g1
    have HH:=Lib.hid (And.intro HV.out (And.intro hpt (And.intro hxa (And.intro hwa g2))))
    generalize hZ0:wantZ W=Z0 at *
    generalize hZ1:wantZ (W++[(vj,bj)])=Z1 at *
    have HZ:=Lib.hid hZ1
    clear hZ1 HV hZ0 hxa hwa hW
    generalize hXS:ints (W.map fun p=>(p.1:Int))=XS at *
    generalize hwl3:W.length=wl at *
    have HXS:=Lib.hid hXS
    have HWL:=Lib.hid hwl3
    clear hXS hwl3
    (repeat'(first|refine Ctl ?_|((with_reducible refine Kof.use hK ?_);clear hK hE K E)|((with_reducible refine W_cond (fun h=>?_) (fun h=>?_))<;>(try(exfalso;assumption)))|((first|(with_reducible refine G_region fun K E hK hE=>?_)|((with_reducible refine W_appM (fun bM hM=>?_))))<;>(try simp(disch:=omega) only[go_sem,seval,p1,p2,q6,hpt,Nat.mul_one,hxl, *]))))
    all_goals exact⟨_,Fg.refl _,m2 - 1,by omega,j+1,_,by omega,by omega,Lib.hid (by rw[HTK.out];exact HH.out.1.put g1 HH.out.2.2.2.2 hM (by rw[HZ.out]) HH.out.2.2.1.symm HH.out.2.2.2.1.symm),z_sl,z_sl,z_sl,z_sl,z_sl,z_sl,z_sl,z_sl,z_sl,z_sl,z_sl⟩
  ·have hjw:j=w:=by omega
   subst hjw
   have hv:=HV.out
   rw[← HNX.out]at hv
   have HV2:=Lib.hid hv
   clear HV hv hum
   (repeat'(first|refine Ctl ?_|((with_reducible refine Kof.use hK ?_);clear hK hE K E)|((with_reducible refine W_cond (fun h=>?_) (fun h=>?_))<;>(try(exfalso;assumption)))|(((with_reducible refine G_region fun K E hK hE=>?_))<;>(try simp(disch:=omega) only[go_sem,seval,hbl, *]))))
   all_goals exact⟨_,Fg.refl _,m - 1,by omega,i+1,_,by omega,by omega,HV2,z_sl,z_sl,z_sl,z_sl,z_sl,z_sl,z_sl⟩
 ·have hie:i=ks.length:=by omega
  have hv:=HV.out
  rw[hie,← HZL.out,offQ_end,← HP.out,List.take_length]at hv
  have ws:=hv.sort (by rw[HPL.out];omega)
  rw[HPK.out,HR.out.1]at ws
  clear HV hv
  (repeat'(first|refine Ctl ?_|((with_reducible refine Kof.use hK ?_);clear hK hE K E)|((with_reducible refine W_cond (fun h=>?_) (fun h=>?_))<;>(try(exfalso;omega)))|(((with_reducible refine G_region fun K E hK hE=>?_))<;>(try simp(disch:=omega) only[go_sem,seval,hln, *]))))
  refine call_ex can42 ws (fun a h=>?_)
  have HS:=Lib.hid h
  clear h ws
  simp only[go_sem,seval]
  (repeat'(first|(with_reducible refine Kp_atQ 20 ?_)|refine Ctl ?_|((with_reducible refine Kof.use hK ?_);clear hK hE K E)))
  unfold StopQ
  refine Kp_frzV 11 HS.out (z_sl) fun uF hum hfr=>?_
  clear HS
  have hSN:intsL (SL.map fun(k:Nat)=>(k:Int))=natsL SL:=(natsL_ints SL).symm
  rw[hSN]
  have hSl:(natsL SL).length=SL.length:=natsL_len
  have hSL9:SL.length≤960:=by rw[HR.out.2.1.length_eq];exact hlv30
  have hC:=HC.out
  have hCF:CMem uF KK q c n B ns ds at_:=by
   obtain⟨n1,n2,n3,n4⟩:=hC.nq
   exact⟨hC.om.keep fun z hz=>hfr z (hC.om.live hz),(hfr _ n3).trans hC.qo,(hfr _ n4).trans hC.co⟩
  have hk0:OKeep s uF KK KK:=⟨rfl,rfl,rfl,fun z hz=>.inl hz,fun z hz _=>hfr z hz⟩
  have hbK:¬ KK.has bm:=fun h=>hC.om.live h HB.out
  obtain⟨CL,hCL⟩:∃CL,CL=cubL SL P:=⟨_,rfl⟩
  have hCLk:CL.map (·.1)=SL:=by rw[hCL,cubL,List.map_map];exact List.map_id _
  have hCLl:CL.length=SL.length:=by rw[← hCLk,List.length_map]
  have hPn:(P.map (·.1)).Nodup:=by rw[HPK.out];exact HVN.out
  have hev2:cubF CL=tupF at_ ks vals:=by
   rw[← HEV.out,hCL]
   funext x
   exact cubL_ev hPn (by rw[HPK.out];exact HR.out.2.1) x
  have hat:∀i (v:Nat),SL[i]?=some v→(natsL SL)[i]?=some [VV.int .i64 (v:Int)]∧CL[i]?=some (v,(lkZ (v:Int) (wantZ P)).getD false):=fun i v h=>⟨natsL_at h,by rw[hCL,cubL,List.getElem?_map,h];rfl⟩
  have hpw:(CL.map (·.1)).Pairwise (·<·):=by rw[hCLk];exact HR.out.2.2
  have hlt:∀p,p∈CL→p.1<n:=fun p hp=>HVL.out _ (HR.out.2.1.mem_iff.1 (by rw[← hCLk];exact List.mem_map_of_mem hp))
  have hBB:N+CL.length≤B:=by rw[hCLl,HR.out.2.1.length_eq];exact HCN.out.2
  have c0:=hC.om.c0.2
  have hI0:TupI uF KK q c n B ns ds at_ CL N SL.length uF KK ns:=⟨hCF,.refl _ _,⟨[],by simp⟩,by rw[← hCLl,List.drop_length];exact c0.1,by rw[hCLl,Nat.sub_self];exact HCN.out.1⟩
  have h18:ixF n ns (cubF (CL.drop SL.length))=1:=by rw[← hCLl,List.drop_length];exact c0.2
  have HI0:=Lib.hid hI0
  have HK0:=Lib.hid hk0
  have HBK:=Lib.hid hbK
  have HEV2:=Lib.hid hev2
  have HAT:=Lib.hid hat
  have HMK:=Lib.hid (And.intro hpw (And.intro hlt hBB))
  have HLN:=Lib.hid (hCLl.trans HR.out.2.1.length_eq)
  have HUM:=Lib.hid hum
  clear hC hCF hk0 hbK hCL hCLk hCLl hPn hev2 hat hpw hlt hBB c0 hI0 hSN HR HROW HPK HP HEV HVN HVL HZL HPL HVK HVV HCN hlv30
  generalize natsL SL=VS at *
  generalize hsl:SL.length=sl at *
  have HSL:=Lib.hid hsl
  clear hsl
  obtain⟨WZ,hWZ⟩:∃WZ,WZ=wantZ P:=⟨_,rfl⟩
  rw[← hWZ]at hum HUM HAT
  clear hWZ
  (repeat'(first|refine Ctl ?_|((with_reducible refine Kof.use hK ?_);clear hK hE K E)|(((with_reducible refine G_region fun K E hK hE=>?_))<;>(try simp(disch:=omega) only[go_sem,seval,hSl, *]))))
  refine G_loop (fun m env s'=>∃(K':OB) (ns':List Tr),m≤sl∧Hid (TupI uF KK q c n B ns ds at_ CL N m s' K' ns')∧s' bm=.map (mpZ encB WZ)∧env 0=.ptr c 0∧env 10=.mp bm∧env 11=.lst VS .no∧env 18=.int .i64 (ixF n ns' (cubF (CL.drop m)):Nat)∧env 19=.int .i64 ((m:Int) - 1)) sl ?_ ?_
  ·exact⟨_,Fg.refl _,KK,ns,by omega,HI0,hum,z_sl,z_sl,z_sl,by(rw[h18];((try simp(disch:=assumption) only[go_sem,seval, *])<;>rfl)),z_sl⟩
  clear HI0 h18 hum e0 e2 e10 e11 e40 e41 e42
  rintro m env s' ⟨K',ns',hm,HI,hsb,e0,e10,e11,e18,e19⟩
  have I:=HI.out
  have hbK':¬ K'.has bm:=fun h=>by
   rcases I.kp.nw bm h with h|h
   ·exact HBK.out h
   ·have:=HUM.out;rw[h]at this;cases this
  cases m with
  |succ i=>
   obtain⟨v,hv⟩:∃v,SL[i]?=some v:=⟨_,List.getElem?_eq_getElem (by rw[HSL.out];omega)⟩
   obtain⟨hx,hCLi⟩:=HAT.out i v hv
   obtain⟨d,cc,ho⟩:=I.m.om.op
   have wq:=Qops_S s' q K'.o K'.s.p I.m.qo
   have wst:=Ostore_S s' K'.o K'.s.p d cc ho
   have hco':=I.m.co
   have wm:=I.mk1 hCLi HMK.out.1 HMK.out.2.1 HMK.out.2.2
   have e:(((i+1:Nat):Int) - 1)=(i:Int):=by omega
   rw[e]at e19
   have hnxt:=fun(a:IteA) h=>I.next (a:=a) hCLi h
   have HNXT:=Lib.hid hnxt
   have HBK':=Lib.hid hbK'
   unfold OpFC at wm
   have hc0:(0:Int)≤(i:Int):=by omega
   clear I HI ho hv hnxt hbK' e hCLi
   generalize ixF n ns' (cubF (CL.drop (i+1)))=kz at *
   generalize hlk:(lkZ (v:Int) WZ).getD false=bv at *
   cases bv with
   |true=>
    simp only[if_true]at wm
    (repeat'(first|refine Ctl ?_|((with_reducible refine Kof.use hK ?_);clear hK hE K E)|((with_reducible refine W_cond (fun h=>?_) (fun h=>?_))<;>(try(exfalso;assumption)))|(((with_reducible first|refine G_region fun K E hK hE=>?_|refine call_ret can18 (wq) ?_|refine call_ret can33 (wst) ?_))<;>(try simp(disch:=omega) only[go_sem,seval,hSl,hx,hlk, *]))))
    refine call_ex can43 wm (fun a h=>?_)
    obtain⟨u2,K2,ns2⟩:=a
    have I2:=Lib.hid (HNXT.out _ h)
    have hbm2:u2 bm=.map (mpZ encB WZ):=(h.k.out bm (by rw[hsb];simp) HBK'.out).trans hsb
    clear h wm HNXT
    dsimp only at hbm2 I2 ⊢
    simp only[go_sem,seval]
    (repeat'(first|refine Ctl ?_|((with_reducible refine Kof.use hK ?_);clear hK hE K E)|((with_reducible refine W_cond (fun h=>?_) (fun h=>?_))<;>(try(exfalso;assumption)))|(((with_reducible refine G_region fun K E hK hE=>?_))<;>(try simp(disch:=omega) only[go_sem,seval, *]))))
    all_goals exact⟨_,Fg.refl _,i,by omega,K2,ns2,by omega,I2,hbm2,z_sl,z_sl,z_sl,z_sl,z_sl⟩
   |false=>
    simp only[Bool.false_eq_true,if_false]at wm
    (repeat'(first|refine Ctl ?_|((with_reducible refine Kof.use hK ?_);clear hK hE K E)|((with_reducible refine W_cond (fun h=>?_) (fun h=>?_))<;>(try(exfalso;assumption)))|(((with_reducible first|refine G_region fun K E hK hE=>?_|refine call_ret can18 (wq) ?_|refine call_ret can33 (wst) ?_))<;>(try simp(disch:=omega) only[go_sem,seval,hSl,hx,hlk, *]))))
    refine call_ex can43 wm (fun a h=>?_)
    obtain⟨u2,K2,ns2⟩:=a
    have I2:=Lib.hid (HNXT.out _ h)
    have hbm2:u2 bm=.map (mpZ encB WZ):=(h.k.out bm (by rw[hsb];simp) HBK'.out).trans hsb
    clear h wm HNXT
    dsimp only at hbm2 I2 ⊢
    simp only[go_sem,seval]
    (repeat'(first|refine Ctl ?_|((with_reducible refine Kof.use hK ?_);clear hK hE K E)|((with_reducible refine W_cond (fun h=>?_) (fun h=>?_))<;>(try(exfalso;assumption)))|(((with_reducible refine G_region fun K E hK hE=>?_))<;>(try simp(disch:=omega) only[go_sem,seval, *]))))
    all_goals exact⟨_,Fg.refl _,i,by omega,K2,ns2,by omega,I2,hbm2,z_sl,z_sl,z_sl,z_sl,z_sl⟩
  |zero=>
   have e:(((0:Nat):Int) - 1)=-1:=rfl
   rw[e]at e19
   have hmem:=I.mem
   have hcnt:=I.cnt
   rw[List.drop_zero,HEV2.out]at hmem
   rw[List.drop_zero,HEV2.out]at e18
   rw[Nat.sub_zero,HLN.out]at hcnt
   have HRR:Hid (OpF s KK n B ns (N+(varsOf at_ ks).length) (tupF at_ ks vals) (s',K',ns')):=Lib.hid ⟨I.m.om,I.pre,hmem,hcnt,HK0.out.trans I.kp⟩
   clear I HI hmem hcnt
   (repeat'(first|refine Ctl ?_|((with_reducible refine Kof.use hK ?_);clear hK hE K E)|((with_reducible refine W_cond (fun h=>?_) (fun h=>?_))<;>(try(exfalso;assumption)))|(((with_reducible refine G_region fun K E hK hE=>?_))<;>(try simp(disch:=omega) only[go_sem,seval, *]))))
   all_goals(refine W_ret res16 hQ ?_)
   all_goals exact⟨_,_,Wk.refl _,Fg.refl _,mkA3 (K',ns') rfl HRR.out⟩
end Go.Proofs.YtndlnadbnganeaaGreatDoor
namespace Go.Proofs.YtndlnadbnganeaaGreatDoor
open Go.RowKit
theorem Cquan_S (s:St)(c q:Nat)(D A:VV)(h:s c=.obj 63 [.ptr q 0,D,A]):SRet Tryz.prog 17 [.ptr c 0] s (.ptr q 0) s:=by
 refine G_enter Tryz.func17 rfl Tryz.ntmps17 rfl fun Q hQ hQe=>?_
 (repeat'(first|refine Ctl ?_|((with_reducible refine Kof.use hK ?_);clear hK hE K E)|((with_reducible refine W_cond (fun h=>?_) (fun h=>?_))<;>(try(exfalso;assumption)))|(((with_reducible refine G_region fun K E hK hE=>?_))<;>(try simp(disch:=omega) only[go_sem,seval, *]))))
 all_goals(refine W_ret res17 hQ ?_)
 all_goals(refine⟨_,_,Wk.of_eq ?_,?_,rfl,rfl⟩)
 all_goals first|rfl|(exact z_fg)
theorem tupF_cube {n:Nat}{ds:List (List UInt8×Nat)}{at_:List (List Nat)}(hD:DOk n ds at_){ks vals:List Nat}(hks:∀k,k∈ks→k<ds.length)(hnd:ks.Nodup)(hvl:vals.length=ks.length)(hvs:∀(i k v:Nat) (x:List UInt8×Nat),ks[i]?=some k→vals[i]?=some v→ds[k]?=some x→v<x.2) :
  ∃CL,cubF CL=tupF at_ ks vals∧(CL.map (·.1)).Pairwise (·<·)∧(∀p,p∈CL→p.1<n)∧CL.length=(varsOf at_ ks).length∧∀v,v∈varsOf at_ ks→v∈CL.map (·.1):=by
 obtain⟨SL,hr1,hr2,hr3⟩:=riseN _ (varsOf_nd hD hnd hks)
 have hPk:(tupQ at_ (ks.zip vals)).map (·.1)=varsOf at_ ks:=tupQ_keys hvl
 have hCLk:(cubL SL (tupQ at_ (ks.zip vals))).map (·.1)=SL:=by rw[cubL,List.map_map];exact List.map_id _
 refine⟨cubL SL (tupQ at_ (ks.zip vals)),?_,by rw[hCLk];exact hr3,fun p hp=>?_,by rw[cubL,List.length_map];exact hr2.length_eq,fun v hv=>by rw[hCLk];exact hr2.mem_iff.2 hv⟩
 ·funext x
  rw[cubL_ev (by rw[hPk];exact varsOf_nd hD hnd hks) (by rw[hPk];exact hr2) x]
  refine tupQ_ev fun p hp=>?_
  obtain⟨i,hi,e⟩:=List.mem_iff_getElem.1 hp
  have h1:(ks.zip vals)[i]?=some p:=by rw[List.getElem?_eq_getElem hi,e]
  rw[List.getElem?_zip_eq_some]at h1
  obtain⟨nm,sz,l,g1,g2,g3,g4,g5,g6,g7⟩:=hD.get (hks p.1 (List.mem_of_getElem? h1.1))
  have e2:at_.getD p.1 []=l:=by rw[List.getD_eq_getElem?_getD,g2];rfl
  have h4:=hvs i _ _ _ h1.1 h1.2 g1
  rw[e2]
  exact Nat.lt_of_lt_of_le h4 g4
 ·have h2:=List.mem_map_of_mem (f:=(·.1)) hp
  rw[hCLk]at h2
  exact varsOf_lt hD hks _ (hr2.mem_iff.1 h2)
section
variable {s u : St} {K : OB} {q c : Nat} {ns : List Tr} {x y : Nat} {o : List (List Nat)} {N : Nat}
theorem Law.vlen (h:Law s u K q c ns x y o N):∀l:List Nat,(∀k,k∈l→k<3)→(varsOf o l).length≤4 * l.length:=by
 intro l
 induction l with
 |nil=>intro _;simp[varsOf]
 |cons k l ih=>
  intro hl
  have:=ih fun k hk=>hl k (List.mem_cons_of_mem _ hk)
  have h2:=(h.wid (hl k (List.mem_cons_self ..))).2.1
  have e:varsOf o (k::l)=o.getD k []++varsOf o l:=by simp[varsOf]
  rw[e,List.length_append,List.length_cons]
  omega
theorem Law.vars (h:Law s u K q c ns x y o N)(ks:List Nat)(ow:Own)(hks:∀k,k∈ks→k<3)(hl:ks.length≤32) :
  SRet Tryz.prog 21 [.ptr c 0,.lst (natsL ks) ow] u (.tup (if ks.Nodup then [.lst (natsL (varsOf o ks)) .no,.int .i64 0] else [.lst [] .no,.int .i64 1])) u:=
 Cvars_S h.C h.D ks ow hks hl
theorem Law.sizes {ks vals:List Nat}(hvs:∀(i k v:Nat),ks[i]?=some k→vals[i]?=some v→v<szD x y k)(hks:∀k,k∈ks→k<3):∀(i k v:Nat) (z:List UInt8×Nat),ks[i]?=some k→vals[i]?=some v→(dsT x y)[k]?=some z→v<z.2:=fun i k v z h1 h2 h3=>by
 rw[dsT_at (hks k (List.mem_of_getElem? h1))]at h3
 injection h3 with h3
 rw[← h3]
 exact hvs i k v h1 h2
theorem Law.tuple (h:Law s u K q c ns x y o N)(ks vals:List Nat)(ow ow2:Own)(hks:∀k,k∈ks→k<3)(hl:ks.length≤3)(hnd:ks.Nodup)(hvl:vals.length=ks.length)(hvs:∀(i k v:Nat),ks[i]?=some k→vals[i]?=some v→v<szD x y k)(hB:N+12≤16384) :
  OpFC 16 [.ptr c 0,.lst (natsL ks) ow,.lst (natsL vals) ow2] u K 12 16384 ns (N+12) (tupF o ks vals):=by
 have hv:=h.vlen ks hks
 exact(Ctuple_S h.C h.D ks vals ow ow2 hks (by omega) hnd hvl (Law.sizes hvs hks) h.n (by omega)).mono (by omega)
theorem Law.or1 (h:Law s u K q c ns x y o N){f:(Nat→Bool)→Bool}{ks vals:List Nat}(hks:∀k,k∈ks→k<3)(hl:ks.length≤3)(hnd:ks.Nodup)(hvl:vals.length=ks.length)(hvs:∀(i k v:Nat),ks[i]?=some k→vals[i]?=some v→v<szD x y k)(hf:DepF (varsOf o ks) f)(mf:treeT 12 f∈ns)(mg:treeT 12 (tupF o ks vals)∈ns)(hB:N+12≤16384) :
  OpFC 19 [.ptr K.o 0,.int .i64 (ixF 12 ns f:Nat),.int .i64 (ixF 12 ns (tupF o ks vals):Nat)] u K 12 16384 ns (N+12) (fun z=>f z || tupF o ks vals z):=by
 obtain⟨CL,c1,c2,c3,c4,c5⟩:=tupF_cube h.D hks hnd hvl (Law.sizes hvs hks)
 have hlt:=varsOf_lt h.D hks
 have hv:=h.vlen ks hks
 have hsub:=cub_sub h.C.om.st.ok mf c2 c3 (hf.mono c5)
 rw[c1]at hsub
 exact(OOr_R h.C.om (hf.hang hlt) ((tupF_dep o).hang hlt) mf mg h.n hsub (by omega)).mono (by omega)
theorem Law.cq (h:Law s u K q c ns x y o N):SRet Tryz.prog 17 [.ptr c 0] u (.ptr q 0) u:=Cquan_S u c q _ _ h.C.co
theorem Law.co (h:Law s u K q c ns x y o N):SRet Tryz.prog 18 [.ptr q 0] u (.ptr K.o 0) u:=Qops_S u q K.o K.s.p h.C.qo
theorem Law.own (h:Law s u K q c ns x y o N){ow:Own}{T:TypeId}{sz n:Nat}(hO:OwnOk u ow n):Law s (u.own ow T sz n) K q c ns x y o N:=h.more fun z hz=>by
 rcases Fg.own (T:=T) (sz:=sz) hO z with e|e
 ·exact absurd e hz
 ·exact e.symm
end
theorem rem_nat {k m:Nat}:((k:Int)).tmod ((m:Nat):Int)=((k % m:Nat):Int):=by rw[Int.tmod_eq_emod_of_nonneg (Int.natCast_nonneg _)];rfl
theorem numA_inj:∀{vs:List Nat} {x y:Nat→Bool},numA vs x=numA vs y→∀v,v∈vs→x v=y v
 |[],_,_,_,v,hv=>by cases hv
 |w::vs,x,y,h,v,hv=>by
  simp only[numA]at h
  have hx:(x w).toNat≤1:=Bool.toNat_le _
  have hy:(y w).toNat≤1:=Bool.toNat_le _
  have e1:(x w).toNat=(y w).toNat:=by omega
  have e2:x w=y w:=by cases hxw:x w<;>cases hyw:y w<;>rw[hxw,hyw]at e1<;>cases e1
  rcases List.mem_cons.1 hv with rfl|hv
  ·exact e2
  ·exact numA_inj (vs:=vs) (by omega) v hv
theorem evT_from {n:Nat}:∀{t:Tr} {m:Nat},OkT n m t→∀x y,(∀i,m≤i→i<n→x i=y i)→evT t x=evT t y
 |.lf b,_,_,_,_,_=>rfl
 |.nd v l h,m,⟨h1,h2,h3,h4,h5⟩,x,y,he=>by
  simp only[evT]
  rw[he v h1 h2,evT_from h4 x y fun i hi hin=>he i (by omega) hin,evT_from h5 x y fun i hi hin=>he i (by omega) hin]
theorem subs_ok {n:Nat}:∀{t:Tr} {m:Nat},OkT n m t→∀u,u∈subsT t→OkT n m u
 |.lf b,_,_,u,hu=>by simp[subsT]at hu
 |.nd v l h,m,⟨h1,h2,h3,h4,h5⟩,u,hu=>by
  simp only[subsT,List.mem_cons,List.mem_append]at hu
  rcases hu with rfl|hu|hu
  ·exact⟨h1,h2,h3,h4,h5⟩
  ·exact(subs_ok h4 u hu).mono (by omega)
  ·exact(subs_ok h5 u hu).mono (by omega)
noncomputable def comL:List Tr:=(List.range 256).map fun m=>treeT 12 fun x=>m.testBit (numA [9,10,11] x)
theorem comL_len:comL.length=256:=by simp[comL]
theorem comL_mem {t:Tr}(h:OkT 12 9 t):t∈comL:=by
 obtain⟨f,hf⟩:∃f:Nat→Bool,f=fun i=>evT t (asgV [9,10,11] i fun _=>false):=⟨_,rfl⟩
 obtain⟨m,hm⟩:∃m,m=numA (List.range 8) f:=⟨_,rfl⟩
 have hml:m<256:=by
  have:=numA_lt (List.range 8) f
  rw[← hm]at this
  simpa using this
 have hbit:∀j,j<8→m.testBit j=f j:=fun j hj=>by
  have h1:=cubF_zip (n:=m) (x:=f) (List.range 8) 0 (by simpa using hml)
  rw[Nat.pow_zero,Nat.div_one,← hm,decide_eq_true rfl]at h1
  simp only[cubF,List.all_eq_true]at h1
  have h2:=zipB_at (n:=m) (i:=0) (j:=j) (vs:=List.range 8) (v:=j) (by simp[hj])
  have h3:=h1 _ (List.mem_of_getElem? h2)
  rw[Nat.zero_add]at h3
  exact(beq_iff_eq.1 h3).symm
 refine List.mem_map.2 ⟨m,List.mem_range.2 hml,?_⟩
 rw[← treeT_of h]
 refine treeT_congr fun x=>?_
 have hl:numA [9,10,11] x<8:=by have:=numA_lt [9,10,11] x;simpa using this
 rw[hbit _ hl,hf]
 refine evT_from h _ _ fun i hi hin=>?_
 refine numA_inj (vs:=[9,10,11]) ?_ i (by simp;omega)
 rw[numA_asg (by decide),Nat.mod_eq_of_lt (by simpa using hl)]
theorem sub_com:∀{t:Tr} {m:Nat},m≤9→OkT 12 m t→∃U:List Tr,U.length+1≤2 ^ (9 - m)∧∀u,u∈subsT t→u∈comL∨u∈U
 |.lf b,m,_,_=>⟨[],by simpa using Nat.one_le_two_pow,fun u hu=>by simp[subsT]at hu⟩
 |.nd v l h,m,hm,⟨h1,h2,h3,h4,h5⟩=>by
  by_cases hv:9≤v
  ·refine⟨[],by simpa using Nat.one_le_two_pow,fun u hu=>.inl (comL_mem (subs_ok (t:=.nd v l h) ⟨hv,h2,h3,h4,h5⟩ u hu))⟩
  ·obtain⟨U1,a1,b1⟩:=sub_com (t:=l) (m:=v+1) (by omega) h4
   obtain⟨U2,a2,b2⟩:=sub_com (t:=h) (m:=v+1) (by omega) h5
   refine⟨.nd v l h::(U1++U2),?_,fun u hu=>?_⟩
   ·have h6:2 ^ ((9 - (v+1))+1)≤2 ^ (9 - m):=Nat.pow_le_pow_right (by omega) (by omega)
    rw[Nat.pow_succ]at h6
    rw[List.length_cons,List.length_append]
    omega
   ·simp only[subsT,List.mem_cons,List.mem_append]at hu ⊢
    rcases hu with rfl|hu|hu
    ·exact .inr (.inl rfl)
    ·rcases b1 u hu with e|e
     ·exact .inl e
     ·exact .inr (.inr (.inl e))
    ·rcases b2 u hu with e|e
     ·exact .inl e
     ·exact .inr (.inr (.inr e))
def CntC (ns:List Tr)(M:Nat):Prop:=∃U:List Tr,U.length≤M∧∀t,t∈ns→t∈comL∨t∈U
theorem CntC.len {ns:List Tr}{M:Nat}(h:CntC ns M)(hn:ns.Nodup):ns.length≤256+M:=by
 obtain⟨U,h1,h2⟩:=h
 have:=nodup_le (Y:=comL++U) hn fun t ht=>List.mem_append.2 (h2 t ht)
 rw[List.length_append,comL_len]at this
 omega
theorem CntC.fit {ns:List Tr}{M B:Nat}{R:Tr}(h:CntC ns M)(hR:OkT 12 0 R)(hB:M+767≤B):FitN ns R B:=fun X hX hs=>by
 obtain⟨U,h1,h2⟩:=h
 obtain⟨S,h3,h4⟩:=sub_com (Nat.zero_le _) hR
 have:=nodup_le (Y:=comL++(U++S)) hX fun x hx=>by
  simp only[List.mem_append]
  rcases hs x hx with h|h
  ·rcases h2 x h with h|h
   ·exact .inl h
   ·exact .inr (.inl h)
  ·rcases h4 x h with h|h
   ·exact .inl h
   ·exact .inr (.inr h)
 rw[List.length_append,List.length_append,comL_len]at this
 omega
theorem CntC.ext {ns ns':List Tr}{M:Nat}{R:Tr}(h:CntC ns M)(hR:OkT 12 0 R)(he:ExtN ns ns' R):CntC ns' (M+511):=by
 obtain⟨U,h1,h2⟩:=h
 obtain⟨S,h3,h4⟩:=sub_com (Nat.zero_le _) hR
 refine⟨U++S,by rw[List.length_append];omega,fun t ht=>?_⟩
 rw[List.mem_append]
 rcases he.new t ht with h|h
 ·rcases h2 t h with h|h
  ·exact .inl h
  ·exact .inr (.inl h)
 ·rcases h4 t h with h|h
  ·exact .inl h
  ·exact .inr (.inr h)
theorem CntC.app {ns l:List Tr}{M m:Nat}(h:CntC ns M)(hl:l.length≤m):CntC (ns++l) (M+m):=by
 obtain⟨U,h1,h2⟩:=h
 refine⟨U++l,by rw[List.length_append];omega,fun t ht=>?_⟩
 rw[List.mem_append]
 rcases List.mem_append.1 ht with ht|ht
 ·rcases h2 t ht with h|h
  ·exact .inl h
  ·exact .inr (.inl h)
 ·exact .inr (.inr ht)
def IxAt (ns:List Tr)(g:(Nat→Bool)→Bool)(k:Nat):Prop:=treeT 12 g∈ns∧ixF 12 ns g=k
theorem IxAt.app {ns ns':List Tr}{g:(Nat→Bool)→Bool}{k:Nat}(h:IxAt ns g k)(hp:∃l,ns'=ns++l):IxAt ns' g k:=⟨(sub_of hp h.1).1,(sub_of hp h.1).2.trans h.2⟩
structure LC (s u:St) (K:OB) (oo q c:Nat) (ns:List Tr) (x y:Nat) (o:List (List Nat)) (M:Nat):Prop where
 L:Law s u K q c ns x y o ns.length
 eo:K.o=oo
 m:CntC ns M
def LCR (f:FuncId)(xs:List VV)(s u:St)(oo q c:Nat)(ns:List Tr)(x y:Nat)(o:List (List Nat))(M:Nat)(g:(Nat→Bool)→Bool):Prop:=
 SCalls Tryz.prog f xs u fun w u'=>∃a:St×OB×List Tr×Nat,w=.ret (.tup [.int .i64 (a.2.2.2:Nat),.int .i64 0])∧u'=a.1∧(LC s a.1 a.2.1 oo q c a.2.2.1 x y o M∧(∃l,a.2.2.1=ns++l)∧IxAt a.2.2.1 g a.2.2.2)
section
variable {s u : St} {K : OB} {oo q c : Nat} {ns : List Tr} {x y : Nat} {o : List (List Nat)} {M : Nat}
theorem LC.of (h:Law s u K q c [.lf false,.lf true] x y o 2):LC s u K K.o q c [.lf false,.lf true] x y o 2:=⟨h,rfl,⟨_,Nat.le_refl _,fun t ht=>.inr ht⟩⟩
theorem LC.len (h:LC s u K oo q c ns x y o M):ns.length≤256+M:=h.m.len h.L.C.om.st.ok.nd
theorem LC.ofF (h:LC s u K oo q c ns x y o M){f:FuncId}{xs:List VV}{m:Nat}{g:(Nat→Bool)→Bool}(w:OpFC f xs u K 12 16384 ns (ns.length+m) g):LCR f xs s u oo q c ns x y o (M+m) g:=by
 refine SCalls.mono (h:=w) ?_
 rintro w u' ⟨a,rfl,rfl,k⟩
 have hL:=h.L.step k
 obtain⟨l,hl⟩:=k.pre
 have hnd:=k.m.st.ok.nd
 have hll:l.length≤m:=by
  obtain⟨U,h1,h2⟩:=k.cnt
  have:=nodup_le hnd h2
  rw[hl,List.length_append]at this
  omega
 refine⟨(a.1,a.2.1,a.2.2,ixF 12 a.2.2 g),rfl,rfl,⟨⟨hL.C,hL.D,hL.L,hL.xy,⟨_,Nat.le_refl _,fun t ht=>ht⟩,hL.fr⟩,k.k.o.trans h.eo,?_⟩,k.pre,k.mem,rfl⟩
 dsimp only
 rw[hl]
 exact h.m.app hll
theorem LC.ofC (h:LC s u K oo q c ns x y o M){f:FuncId}{xs:List VV}{T:Tr}{g:(Nat→Bool)→Bool}(w:OpC f xs u K 12 16384 ns T)(hT:T=treeT 12 g):LCR f xs s u oo q c ns x y o (M+511) g:=by
 subst hT
 refine SCalls.mono (h:=w) ?_
 rintro w u' ⟨a,rfl,rfl,h1,h2,h3⟩
 have hL:=h.L.step (a:=a) (N':=a.2.2.length) (g:=g) ⟨h1,h2.pre,h2.mem,⟨_,Nat.le_refl _,fun t ht=>ht⟩,h3⟩
 exact⟨(a.1,a.2.1,a.2.2,ixF 12 a.2.2 g),rfl,rfl,⟨hL,h3.o.trans h.eo,h.m.ext treeT_ok h2⟩,h2.pre,h2.mem,rfl⟩
theorem ite_andB (p q:Bool):(if p=true then q else false)=(p && q):=by cases p<;>simp
theorem ite_orB (p q:Bool):(if p=true then true else q)=(p || q):=by cases p<;>simp
def valF (o:List (List Nat))(g:Nat→Nat→Nat→Bool)(z:Nat→Bool):Bool:=g (numA (o.getD 0 []) z) (numA (o.getD 1 []) z) (numA (o.getD 2 []) z)
theorem LC.hang (h:LC s u K oo q c ns x y o M)(g:Nat→Nat→Nat→Bool):Hang 12 (valF o g):=fun z w e=>by
 have hd:∀d,d<3→numA (o.getD d []) z=numA (o.getD d []) w:=fun d hd=>numA_congr fun v hv=>e v (h.L.D.lt _ (List.mem_of_getElem? (h.L.oat hd)) v hv)
 unfold valF
 rw[hd 0 (by omega),hd 1 (by omega),hd 2 (by omega)]
theorem LC.and (h:LC s u K oo q c ns x y o M){g g':Nat→Nat→Nat→Bool}{k k':Nat}(hf:IxAt ns (valF o g) k)(hg:IxAt ns (valF o g') k')(hB:M+767≤16384) :
  LCR 23 [.ptr oo 0,.int .i64 (k:Int),.int .i64 (k':Int)] s u oo q c ns x y o (M+511) (valF o fun a b d=>g a b d && g' a b d):=by
 have hT:iteT 12 (treeT 12 (valF o g)) (treeT 12 (valF o g')) (.lf false)=treeT 12 (valF o fun a b d=>g a b d && g' a b d):=by
  rw[← treeT_const (n:=12) false,iteT_tree (h.hang g) (h.hang g') (fun _ _ _=>rfl)]
  exact treeT_congr fun z=>ite_andB _ _
 have w:=h.ofC (OAnd_S h.L.C.om hf.1 hg.1 (by rw[hT];exact h.m.fit treeT_ok hB)) hT
 rw[← h.eo,← hf.2,← hg.2]
 rw[← h.eo]at w
 exact w
theorem LC.or (h:LC s u K oo q c ns x y o M){g g':Nat→Nat→Nat→Bool}{k k':Nat}(hf:IxAt ns (valF o g) k)(hg:IxAt ns (valF o g') k')(hB:M+767≤16384) :
  LCR 19 [.ptr oo 0,.int .i64 (k:Int),.int .i64 (k':Int)] s u oo q c ns x y o (M+511) (valF o fun a b d=>g a b d || g' a b d):=by
 have hT:iteT 12 (treeT 12 (valF o g)) (.lf true) (treeT 12 (valF o g'))=treeT 12 (valF o fun a b d=>g a b d || g' a b d):=by
  rw[← treeT_const (n:=12) true,iteT_tree (h.hang g) (fun _ _ _=>rfl) (h.hang g')]
  exact treeT_congr fun z=>ite_orB _ _
 have w:=h.ofC (OOr_S h.L.C.om hf.1 hg.1 (by rw[hT];exact h.m.fit treeT_ok hB)) hT
 rw[← h.eo,← hf.2,← hg.2]
 rw[← h.eo]at w
 exact w
end
theorem LCR.congr {f:FuncId}{xs:List VV}{s u:St}{oo q c:Nat}{ns:List Tr}{x y:Nat}{o:List (List Nat)}{M:Nat}{g g':(Nat→Bool)→Bool}(h:LCR f xs s u oo q c ns x y o M g)(hg:∀z,g z=g' z):LCR f xs s u oo q c ns x y o M g':=by
 rw[← funext hg];exact h
abbrev rowsV (l:List (List Int)):List (List VV):=rwsC l
theorem rowsV_len {l:List (List Int)}:(rowsV l).length=l.length:=rwsC_len
theorem rowsV_at {l:List (List Int)}{i:Nat}{r:List Int}(h:l[i]?=some r):(rowsV l)[i]?=some [.lst (intsL r) .no]:=rwsC_at h
theorem rowsV_app {l m:List (List Int)}:rowsV (l++m)=rowsV l++rowsV m:=by simp[rwsC]
theorem less_drop {a b:List Int}{i:Nat}{x y:Int}(hx:a[i]?=some x)(hy:b[i]?=some y):lessZ (a.drop i) (b.drop i)=if x=y then lessZ (a.drop (i+1)) (b.drop (i+1))else decide (x<y):=by
 obtain⟨h1,rfl⟩:=List.getElem?_eq_some_iff.1 hx
 obtain⟨h2,rfl⟩:=List.getElem?_eq_some_iff.1 hy
 rw[List.drop_eq_getElem_cons h1,List.drop_eq_getElem_cons h2]
 simp only[lessZ]
set_option maxHeartbeats 4000000 in
theorem Less_S (a b:List Int)(o1 o2:Own)(ha:a.length≤1000000000)(hb:b.length≤1000000000)(t:St):SRet Tryz.prog 45 [.lst (intsL a) o1,.lst (intsL b) o2] t (.bool (lessZ a b)) t:=by
 have hl1:(intsL a).length=a.length:=intsL_len
 have hl2:(intsL b).length=b.length:=intsL_len
 generalize hR:lessZ a b=R
 have HR:=Lib.hid hR
 clear hR
 refine G_enter Tryz.func45 rfl Tryz.ntmps45 rfl fun Q hQ hQe=>?_
 (repeat'(first|refine Ctl ?_|((with_reducible refine Kof.use hK ?_);clear hK hE K E)|(((with_reducible refine G_region fun K E hK hE=>?_))<;>(try simp(disch:=omega) only[go_sem,seval,hl1,hl2, *]))))
 refine L_loop (fun m env s'=>∃(i:Nat),i≤a.length∧i≤b.length∧m+i=a.length∧Hid (lessZ (a.drop i) (b.drop i)=R)∧s'=t∧env 0=.lst (intsL a) o1∧env 1=.lst (intsL b) o2∧env 5=.int .i64 i) a.length
  ⟨0,by omega,by omega,by omega,HR,rfl,z_sl,z_sl,z_sl⟩ ?_
 rintro m env s' ⟨i,hi,hi2,hm,HH,rfl,e0,e1,e5⟩
 by_cases h1:i<a.length
 ·by_cases h2:i<b.length
  ·obtain⟨x,hx⟩:∃x,a[i]?=some x:=⟨_,List.getElem?_eq_getElem h1⟩
   obtain⟨y,hy⟩:∃y,b[i]?=some y:=⟨_,List.getElem?_eq_getElem h2⟩
   have sx:=intsL_at hx
   have sy:=intsL_at hy
   have hd:=(less_drop hx hy).symm.trans HH.out
   clear hx hy
   by_cases e:x=y
   ·rw[if_pos e]at hd
    have HD:=Lib.hid hd
    clear hd
    subst e
    (repeat'(first|refine Ctl ?_|(with_reducible first|(refine Kof.use hK ?_;clear hK hE K E)|(refine Kof.use hKh ?_;clear hKh Kh)|refine G_plan 4 [] [0,1,2,3,4,5,6,7,8] hQe fun K E hK hE=>?_)|((with_reducible refine W_cond (fun h=>?_) (fun h=>?_))<;>(try(exfalso;assumption)))|(((with_reducible first|refine G_region fun K E hK hE=>?_|refine P_fin fun Kh hKh=>?_))<;>(try simp(disch:=omega) only[go_sem,seval,hl1,hl2,sx,sy, *]))))
    all_goals exact⟨m - 1,by omega,i+1,by omega,by omega,by omega,HD,rfl,z_sl,z_sl,z_sl⟩
   ·rw[if_neg e]at hd
    have HD:=Lib.hid hd
    have e':=eq_false e
    clear hd e
    (repeat'(first|refine Ctl ?_|(with_reducible first|(refine Kof.use hK ?_;clear hK hE K E)|(refine Kof.use hKh ?_;clear hKh Kh)|refine G_plan 4 [] [0,1,2,3,4,5,6,7,8] hQe fun K E hK hE=>?_|refine G_plan 5 [] [0,1,2,3,4,5,6,7,8,9] hQe fun K E hK hE=>?_)|((with_reducible refine W_cond (fun h=>?_) (fun h=>?_))<;>(try(exfalso;assumption)))|(((with_reducible first|refine G_region fun K E hK hE=>?_|refine P_fin fun Kh hKh=>?_))<;>(try simp(disch:=omega) only[go_sem,seval,hl1,hl2,sx,sy,e', *]))))
    all_goals(refine W_ret res45 hQ ?_)
    all_goals rw[← HD.out]
    all_goals(refine⟨_,_,Wk.of_eq ?_,?_,rfl,rfl⟩)
    all_goals first|rfl|(exact z_fg)
  ·have hd:=HH.out
   rw[List.drop_of_length_le (l:=b) (by omega),List.drop_eq_getElem_cons h1]at hd
   have hR:R=false:=hd.symm
   subst hR
   clear hd
   have hle:¬ a.length<b.length:=by omega
   (repeat'(first|refine Ctl ?_|((with_reducible refine Kof.use hK ?_);clear hK hE K E)|((with_reducible refine W_cond (fun h=>?_) (fun h=>?_))<;>(try(exfalso;assumption)))|(((with_reducible refine G_region fun K E hK hE=>?_))<;>(try simp(disch:=omega) only[go_sem,seval,hl1,hl2, *]))))
   all_goals(refine W_ret res45 hQ ?_)
   all_goals(refine⟨_,_,Wk.of_eq ?_,?_,rfl,rfl⟩)
   all_goals first|rfl|(exact z_fg)
 ·have hd:=HH.out
  have hie:i=a.length:=by omega
  rw[List.drop_of_length_le (l:=a) (by omega)]at hd
  have hR:R=decide (a.length<b.length):=by
   rw[← hd]
   by_cases h3:i<b.length
   ·rw[List.drop_eq_getElem_cons h3]
    simp[lessZ]
    omega
   ·rw[List.drop_of_length_le (by omega)]
    simp[lessZ]
    omega
  have HR2:=Lib.hid hR
  clear hd hR
  (repeat'(first|refine Ctl ?_|((with_reducible refine Kof.use hK ?_);clear hK hE K E)|((with_reducible refine W_cond (fun h=>?_) (fun h=>?_))<;>(try(exfalso;assumption)))|((first|(with_reducible refine G_region fun K E hK hE=>?_)|((with_reducible refine W_gd (fun h=>?_) (fun h=>?_))<;>(try(exfalso;omega))))<;>(try simp(disch:=omega) only[go_sem,seval,hl1,hl2, *]))))
  all_goals(refine W_ret res45 hQ ?_)
  all_goals rw[HR2.out]
  all_goals(refine⟨_,_,Wk.of_eq ?_,?_,rfl,rfl⟩)
  all_goals first|rfl|(exact z_fg)
theorem disown_fl {s:St}:s.disown .full=s:=rfl
theorem owned_fl {s:St}{T sz n:Nat}:Owned s .full T sz n=(n=0):=rfl
theorem own_fl {s:St}{T sz n:Nat}:s.own .full T sz n=s:=rfl
theorem rowsV_take {l:List (List Int)}{k:Nat}:(rowsV l).take k=rowsV (l.take k):=by simp[rwsC,List.map_take]
theorem rowsV_drop {l:List (List Int)}{k:Nat}:(rowsV l).drop k=rowsV (l.drop k):=by simp[rwsC,List.map_drop]
theorem rowsV_one {l:List (List Int)}:∀y,y∈rowsV l→y.length=1:=fun y hy=>by
 obtain⟨q,_,rfl⟩:=List.mem_map.1 hy
 rfl
attribute [local go_sem] disown_fl owned_fl own_fl
set_option maxHeartbeats 8000000 in
theorem PutRow_S (l:List (List Int))(r:List Int)(o1:Own)(hl:RowsOk l)(hr:r.length≤1000000000)(t:St):SRet Tryz.prog 20 [.lst (rowsV l) o1,.lst (intsL r) .no] t (.lst (rowsV (putRow l r)) .no) t:=by
 have hl1:(rowsV l).length=l.length:=rowsV_len
 obtain⟨ha1,ha2⟩:=hl
 generalize hR:putRow l r=R
 have HR:=Lib.hid hR
 clear hR
 refine G_enter Tryz.func20 rfl Tryz.ntmps20 rfl fun Q hQ hQe=>?_
 (repeat'(first|refine Ctl ?_|((with_reducible refine Kof.use hK ?_);clear hK hE K E)|(((with_reducible refine G_region fun K E hK hE=>?_))<;>(try simp(disch:=omega) only[go_sem,seval,hl1, *]))))
 refine L_loop (fun m env s'=>∃(i:Nat),i≤l.length∧m+i=l.length∧Hid (∀(j:Nat) (a:List Int),j<i→l[j]?=some a→lessZ a r=true)∧s'=t∧env 0=.lst (rowsV l) o1∧env 1=.lst (intsL r) .no∧env 5=.int .i64 i) l.length
  ⟨0,by omega,by omega,Lib.hid (fun j a h=>by omega),rfl,z_sl,z_sl,z_sl⟩ ?_
 rintro m env s' ⟨i,hi,hm,HH,rfl,e0,e1,e5⟩
 by_cases h2:i<l.length
 ·obtain⟨x,hx⟩:∃x,l[i]?=some x:=⟨_,List.getElem?_eq_getElem (by omega)⟩
  have sx:=rowsV_at hx
  have hxm:=List.mem_of_getElem? hx
  have w1:=fun s=>SameInts_S x r .no .no (by have:=ha2 x hxm;omega) (by omega) s
  have w2:=fun s=>Less_S x r .no .no (ha2 x hxm) hr s
  cases hlx:lessZ x r with
  |true=>
   have HT:∀(j:Nat) (a:List Int),j<i+1→l[j]?=some a→lessZ a r=true:=fun j a hj ha=>by
    by_cases e:j=i
    ·subst e;rw[hx]at ha;injection ha with ha;subst ha;exact hlx
    ·exact HH.out j a (by omega) ha
   have HT2:=Lib.hid HT
   rw[hlx]at w2
   clear HT hx hxm hlx w1
   (repeat'(first|refine Ctl ?_|((with_reducible refine Kof.use hK ?_);clear hK hE K E)|((with_reducible refine W_cond (fun h=>?_) (fun h=>?_))<;>(try(exfalso;assumption)))|(((with_reducible first|refine G_region fun K E hK hE=>?_|refine call_ret can45 (w2 _) ?_))<;>(try simp(disch:=omega) only[go_sem,seval,hl1,sx, *]))))
   all_goals exact⟨m - 1,by omega,i+1,by omega,by omega,HT2,rfl,z_sl,z_sl,z_sl⟩
  |false=>
   have hsp:=putRow_split (l:=l) (r:=r) i HH.out (fun a ha=>by rw[hx]at ha;injection ha with ha;subst ha;exact hlx) hi
   rw[hx]at hsp
   rw[hlx]at w2
   by_cases e:x=r
   ·rw[if_pos (by rw[e])]at hsp
    have hR:R=l:=HR.out.symm.trans hsp
    subst hR
    rw[show decide (x=r)=true by simp[e]]at w1
    clear hsp hx hxm hlx e
    (repeat'(first|refine Ctl ?_|((with_reducible refine Kof.use hK ?_);clear hK hE K E)|((with_reducible refine W_cond (fun h=>?_) (fun h=>?_))<;>(try(exfalso;assumption)))|(((with_reducible first|refine G_region fun K E hK hE=>?_|refine call_ret can45 (w2 _) ?_|refine call_ret can22 (w1 _) ?_))<;>(try simp(disch:=omega) only[go_sem,seval,hl1,sx, *]))))
    all_goals(refine W_ret res20 hQ ?_)
    all_goals exact⟨_,_,Wk.lst _ _,Fg.refl _,rfl,rfl⟩
   ·rw[if_neg (by intro h;injection h with h;exact e h)]at hsp
    have hRV:rowsV R=rowsV (l.take i)++[rowV r]::rowsV (l.drop i):=by rw[← HR.out,hsp,rowsV_app];rfl
    have HRV:=Lib.hid hRV
    rw[show decide (x=r)=false by simp[e]]at w1
    have hlt:(rowsV (l.take i)).length=i:=by rw[rowsV_len,List.length_take];omega
    have hld:(rowsV (l.drop i)).length=l.length - i:=by rw[rowsV_len,List.length_drop]
    have ht1:=rowsV_one (l:=l.take i)
    have hd1:=rowsV_one (l:=l.drop i)
    have hz:(0≤i∧∀x,x∈rowsV l→x.length=1)=True:=eq_true ⟨Nat.zero_le i,rowsV_one⟩
    have hz2:(l.length≤l.length∧∀x,x∈rowsV l→x.length=1)=True:=eq_true ⟨Nat.le_refl _,rowsV_one⟩
    have hla:(rowsV (l.take i)++[[VV.lst (intsL r) .no]]).length=i+1:=by rw[List.length_append,hlt];rfl
    have hly:∀y,y∈rowsV (l.take i)++[[VV.lst (intsL r) .no]]→y.length=1:=fun y hy=>by
     rcases List.mem_append.1 hy with h|h
     ·exact ht1 y h
     ·rw[List.mem_singleton]at h;subst h;rfl
    clear hsp hx hxm hlx e hRV
    (repeat'(first|refine Ctl ?_|((with_reducible refine Kof.use hK ?_);clear hK hE K E)|((with_reducible refine W_cond (fun h=>?_) (fun h=>?_))<;>(try(exfalso;assumption)))|((first|(with_reducible first|refine G_region fun K E hK hE=>?_|refine call_ret can45 (w2 _) ?_|refine call_ret can22 (w1 _) ?_)|((with_reducible refine W_app (fun o2 ho=>?_));(try simp(disch:=assumption) only[disown_set,disown_own,ownok_o,ownok_m,List.length_map,List.length_cons,List.length_nil,Nat.zero_add,hl1,sx,rowsV_take,rowsV_drop,hlt,hld,hz,hz2,hla,List.take_length]at ho);(try(simp only[disown_fl]at ho))))<;>(try simp(disch:=first|assumption|omega) only[go_sem,seval,hl1,sx,rowsV_take,rowsV_drop,hlt,hld,hz,hz2,hla,List.take_length, *]))))
    all_goals(refine W_ret res20 hQ ?_)
    all_goals(have hv:rowsV R=(rowsV (l.take i)++[[VV.lst (intsL r) .no]])++rowsV (l.drop i):=by rw[HRV.out,List.append_assoc];rfl)
    all_goals rw[hv]
    all_goals exact⟨_,_,Wk.lst _ _,Fg.own ho,rfl,rfl⟩
 ·obtain rfl:i=l.length:=by omega
  have hsp:=putRow_split (l:=l) (r:=r) l.length HH.out (fun a ha=>by simp at ha) (Nat.le_refl _)
  rw[if_neg (by simp),List.take_length,List.drop_length]at hsp
  have hRV:rowsV R=rowsV l++[[rowV r]]:=by rw[← HR.out,hsp,rowsV_app];rfl
  have HRV:=Lib.hid hRV
  clear hsp hRV
  have ht1:=rowsV_one (l:=l)
  have hz:(0≤l.length∧∀x,x∈rowsV l→x.length=1)=True:=eq_true ⟨Nat.zero_le _,rowsV_one⟩
  have htk:(rowsV l).take l.length=rowsV l:=by rw[List.take_of_length_le (by rw[hl1];omega)]
  have hdk:(rowsV l).drop l.length=[]:=by rw[List.drop_of_length_le (by rw[hl1];omega)]
  have hla:(rowsV l++[[VV.lst (intsL r) .no]]).length=l.length+1:=by rw[List.length_append,hl1];rfl
  have hly:∀y,y∈rowsV l++[[VV.lst (intsL r) .no]]→y.length=1:=fun y hy=>by
   rcases List.mem_append.1 hy with h|h
   ·exact ht1 y h
   ·rw[List.mem_singleton]at h;subst h;rfl
  have hn0:∀y,y∈([]:List (List VV))→y.length=1:=fun y hy=>by cases hy
  (repeat'(first|refine Ctl ?_|((with_reducible refine Kof.use hK ?_);clear hK hE K E)|((with_reducible refine W_cond (fun h=>?_) (fun h=>?_))<;>(try(exfalso;assumption)))|((first|(with_reducible first|refine G_region fun K E hK hE=>?_|refine W_if ?_)|((with_reducible refine W_app (fun o2 ho=>?_));(try simp(disch:=assumption) only[disown_set,disown_own,ownok_o,ownok_m,List.length_map,List.length_cons,List.length_nil,Nat.zero_add,hl1,hz,htk,hdk,hla]at ho);(try(simp only[disown_fl]at ho))))<;>(try simp(disch:=first|assumption|omega) only[go_sem,seval,hl1,hz,htk,hdk,hla, *]))))
  all_goals(refine W_ret res20 hQ ?_)
  all_goals rw[HRV.out]
  all_goals exact⟨_,_,Wk.lst _ _,Fg.own ho,rfl,rfl⟩
end Go.Proofs.YtndlnadbnganeaaGreatDoor
