/- Walks of functions that the claim reaches, and plain facts of them. Conditions: those in the statements. -/
import Derived.Test.YtohnaepcgnbaiaaGreatDoorJjIyj
import Derived.Test.YtohnaepcgnbaiaaGreatDoorJjQj
import Derived.Test.YtohnaepcgnbaiaaGreatDoorJjRa
import Derived.Test.YtohnaepcgnbaiaaGreatDoorJjSoundEj
import Derived.Test.YtohnaepcgnbaiaaGreatDoorJjRunj
set_option linter.unusedSimpArgs false
set_option linter.unusedVariables false
set_option maxRecDepth 100000
namespace Go.Proofs.YtohnaepcgnbaiaaGreatDoor
open Go.RowKit
def varsOf (at_:List (List Nat))(ks:List Nat):List Nat:=ks.flatMap fun k=>at_.getD k []
def seenZ (ks:List Nat):List (Int×Bool):=ks.map fun(k:Nat)=>((k:Int),true)
theorem seenZ_lk {k:Nat}:∀{ks:List Nat},(lkZ (k:Int) (seenZ ks)).getD false=decide (k∈ks)
 |[]=>rfl
 |a::ks=>by
  have ih:=seenZ_lk (k:=k) (ks:=ks)
  simp only[seenZ,List.map_cons,lkZ]at ih ⊢
  by_cases h:k=a
  ·subst h;simp
  ·rw[if_neg (by omega),ih]
   simp[h]
theorem seenZ_pt {k:Nat}{ks:List Nat}(h:k∉ks):ptZ (k:Int) true (seenZ ks)=seenZ (ks++[k]):=by
 have:lkZ (k:Int) (seenZ ks)=none:=by
  rw[lkZ_none]
  intro h2
  simp only[seenZ,List.map_map,List.mem_map,Function.comp]at h2
  obtain⟨a,ha,e⟩:=h2
  have:a=k:=by omega
  exact h (this ▸ ha)
 rw[ptZ_new this]
 simp[seenZ]
theorem Wk.tupQ {xs:List (List VV)}{o:Own}{a:VV}:Wk (.tup [.lst xs o,a]) (.tup [.lst xs .no,a]):=
 .tup rfl fun j x y hx hy=>by
  match j with
  |0=>simp at hx hy;subst hx;subst hy;exact .lst _ _
  |1=>simp at hx hy;subst hx;subst hy;exact .refl _
  |j+2=>simp at hx
set_option maxHeartbeats 8000000 in
theorem Cvars_S {s:St}{KK:OB}{q c n B:Nat}{ns:List Tr}{ds:List (List UInt8×Nat)}{at_:List (List Nat)}(hC:CMem s KK q c n B ns ds at_)(hD:DOk n ds at_)(ks:List Nat)(ow:Own)(hks:∀k,k∈ks→k<ds.length)(hl:ks.length≤32) :
  SRet Tryz.prog 41 [.ptr c 0,.lst (natsL ks) ow] s (.tup (if ks.Nodup then [.lst (natsL (varsOf at_ ks)) .no,.int .i64 0] else [.lst [] .no,.int .i64 1])) s:=by
 have wh:=Chas_S s c _ _ _ _ _ ow (ks.map fun(k:Nat)=>(k:Int)) (by rw[List.length_map];omega) hC.co
 have hany:(ks.map fun(k:Nat)=>(k:Int)).any (badD (domsC ds).length)=false:=by
  rw[domsC_len,List.any_eq_false]
  intro z hz
  obtain⟨k,hk,rfl⟩:=List.mem_map.1 hz
  rw[badD_nat]
  simp[hks k hk]
 rw[hany,← natsL_ints]at wh
 simp only[Bool.not_false]at wh
 have hco:=hC.co
 have hcf:s c≠.free:=by rw[hco];simp
 have hln:(natsL ks).length=ks.length:=natsL_len
 have hat:=fun(i k:Nat) (h:ks[i]?=some k)=>natsL_at h
 have hA2:∀k,k∈ks→(atC at_)[k]?=some [.lst (natsL (at_.getD k [])) .no]∧(at_.getD k []).length≤30:=fun k hk=>by
  obtain⟨nm,sz,l,h1,h2,h3,h4,h5,h6,h7⟩:=hD.get (hks k hk)
  have e:at_.getD k []=l:=by rw[List.getD_eq_getElem?_getD,h2];rfl
  rw[e]
  exact⟨atC_at h2,h6⟩
 have HAT:=Lib.hid hat
 have HA2:=Lib.hid hA2
 obtain⟨R,hR⟩:∃R,(if ks.Nodup then [VV.lst (natsL (varsOf at_ ks)) .no,.int .i64 0] else [.lst [] .no,.int .i64 1])=R:=⟨_,rfl⟩
 rw[hR]
 have HR:=Lib.hid hR
 clear hC hD hks hany hat hA2 hR
 generalize hV:natsL ks=V at *
 clear hV
 obtain⟨A,hAA⟩:∃A,A=atC at_:=⟨_,rfl⟩
 obtain⟨D,hDD⟩:∃D,D=domsC ds:=⟨_,rfl⟩
 rw[← hAA,← hDD]at hco
 have HAA:=Lib.hid hAA
 clear hAA hDD
 have hl2:¬ (ks.length:Int) > 32:=by omega
 refine G_enter Tryz.func41 rfl Tryz.ntmps41 rfl fun Q hQ hQe=>?_
 (repeat'(first|refine Ctl ?_|((with_reducible refine Kof.use hK ?_);clear hK hE K E)|((with_reducible refine W_cond (fun h=>?_) (fun h=>?_))<;>(try(exfalso;assumption)))|((first|(with_reducible first|refine G_region fun K E hK hE=>?_|refine call_ret can73 (wh) ?_)|((with_reducible refine W_fresh (fun b hb=>?_));(try(obtain⟨_,_⟩:=nef hb hcf))))<;>(try simp(disch:=assumption) only[go_sem,seval,hln, *]))))
 obtain⟨bm,hbm⟩:∃z,z=b:=⟨_,rfl⟩
 subst hbm
 have HBM:=Lib.hid hb
 refine G_loop (fun m env s'=>∃(i:Nat) (o:Own),i≤ks.length∧m+i=ks.length∧Hid ((ks.take i).Nodup∧(varsOf at_ (ks.take i)).length≤30 * i)∧OwnOk s o (varsOf at_ (ks.take i)).length∧NotOwn o bm∧s'=(s.own o 3 1 (varsOf at_ (ks.take i)).length).set bm (.map (mpZ encB (seenZ (ks.take i))))∧env 0=.ptr c 0∧env 6=.lst (natsL (varsOf at_ (ks.take i))) o∧env 7=.mp bm∧env 31=.lst V ow∧env 32=.int .i64 ks.length∧env 33=.int .i64 i) ks.length ?_ ?_
 ·exact⟨_,Fg.refl _,0,.full,by omega,by omega,Lib.hid ⟨by simp,by simp[varsOf]⟩,rfl,trivial,rfl,z_sl,z_sl,z_sl,z_sl,z_sl,z_sl⟩
 rintro m env s' ⟨i,o,hi,hm,HN,hO,hno,rfl,e0,e6,e7,e31,e32,e33⟩
 have p2:=hO.not hcf
 by_cases h7:i<ks.length
 ·have hk:=List.getElem?_eq_getElem h7
  have hkm:=List.getElem_mem h7
  generalize ks[i]=k at hk hkm
  have hx:=HAT.out i k hk
  obtain⟨ha,hal⟩:=HA2.out k hkm
  rw[← HAA.out]at ha
  have hsk:=seenZ_lk (k:=k) (ks:=ks.take i)
  have htk:ks.take (i+1)=ks.take i++[k]:=by rw[List.take_add_one,hk];rfl
  by_cases hin:k∈ks.take i
  ·have hR:R=[.lst [] .no,.int .i64 1]:=by
    rw[← HR.out,if_neg]
    intro hnd
    have h1:(ks.take (i+1)).Nodup:=hnd.sublist (List.take_sublist _ _)
    rw[htk,List.nodup_append]at h1
    exact h1.2.2 k hin k (by simp) rfl
   rw[decide_eq_true hin]at hsk
   subst hR
   clear htk hin hk hkm HR
   generalize hvv:varsOf at_ (ks.take i)=W at *
   generalize seenZ (ks.take i)=Sn at *
   (repeat'(first|refine Ctl ?_|((with_reducible refine Kof.use hK ?_);clear hK hE K E)|((with_reducible refine W_cond (fun h=>?_) (fun h=>?_))<;>(try(exfalso;assumption)))|(((with_reducible refine G_region fun K E hK hE=>?_))<;>(try simp(disch:=assumption) only[go_sem,seval,hx,hsk, *]))))
   (refine W_ret res41 hQ ?_)
   refine⟨_,_,Wk.tupQ,?_,rfl,rfl⟩
   exact Fg.setA (Fg.own hO) HBM.out
  ·have hnd:(ks.take (i+1)).Nodup:=by
    rw[htk,List.nodup_append]
    exact⟨HN.out.1,by simp,fun a ha3 b hb3 e=>by rw[List.mem_singleton]at hb3;subst hb3;subst e;exact hin ha3⟩
   have hva:varsOf at_ (ks.take (i+1))=varsOf at_ (ks.take i)++at_.getD k []:=by rw[htk];simp[varsOf]
   have hlv:(natsL (varsOf at_ (ks.take i))).length=(varsOf at_ (ks.take i)).length:=natsL_len
   have hlw:(natsL (at_.getD k [])).length=(at_.getD k []).length:=natsL_len
   have hnn:natsL (varsOf at_ (ks.take (i+1)))=natsL (varsOf at_ (ks.take i))++natsL (at_.getD k []):=by rw[hva];simp[natsL]
   have hy:∀y,y∈natsL (at_.getD k [])→y.length=1:=fun y hy=>by
    obtain⟨z,_,rfl⟩:=List.mem_map.1 hy
    rfl
   have hsp:=seenZ_pt hin
   rw[← htk]at hsp
   rw[decide_eq_false hin]at hsk
   have hvl:(varsOf at_ (ks.take (i+1))).length=(varsOf at_ (ks.take i)).length+(at_.getD k []).length:=by rw[hva,List.length_append]
   have hb1:=HN.out.2
   have HF:=Lib.hid (And.intro hnd (And.intro hvl hnn))
   clear htk hin hk hkm hnd hva hvl hnn HN
   generalize hSn:seenZ (ks.take (i+1))=Sn2 at *
   have HSN:=Lib.hid hSn
   clear hSn
   generalize seenZ (ks.take i)=Sn at *
   generalize natsL (varsOf at_ (ks.take i))=L1 at *
   generalize natsL (at_.getD k [])=L2 at *
   generalize hq1:(varsOf at_ (ks.take i)).length=q1 at *
   generalize hq2:(at_.getD k []).length=q2 at *
   clear hq1 hq2
   (repeat'(first|refine Ctl ?_|((with_reducible refine Kof.use hK ?_);clear hK hE K E)|((with_reducible refine W_cond (fun h=>?_) (fun h=>?_))<;>(try(exfalso;assumption)))|((first|(with_reducible refine G_region fun K E hK hE=>?_)|((with_reducible refine W_app (fun o2 ho=>?_));(try simp(disch:=assumption) only[disown_set,disown_own,ownok_o,ownok_m,List.length_map,List.length_cons,List.length_nil,Nat.zero_add,hx,hsk,ha,hlv,hlw,hsp]at ho);(repeat(obtain⟨_,ho⟩:=ho))))<;>(try simp(disch:=first|assumption|omega) only[go_sem,seval,hx,hsk,ha,hlv,hlw,hsp, *]))))
   exact⟨_,Fg.refl _,m - 1,by omega,i+1,o2,by omega,by omega,Lib.hid ⟨HF.out.1,by rw[HF.out.2.1];omega⟩,by rw[HF.out.2.1];exact ho,by assumption,by rw[HF.out.2.1,HSN.out],z_sl,by(rw[HF.out.2.2];((try simp(disch:=assumption) only[go_sem,seval, *])<;>rfl)),z_sl,z_sl,z_sl,z_sl⟩
 ·have hie:i=ks.length:=by omega
  have ht:ks.take i=ks:=List.take_of_length_le (by omega)
  rw[ht]at e6 hO HN
  have hR:R=[.lst (natsL (varsOf at_ ks)) .no,.int .i64 0]:=by rw[← HR.out,if_pos HN.out.1]
  subst hR
  rw[ht]
  clear ht HR HN
  generalize hq:(varsOf at_ ks).length=q1 at *
  generalize natsL (varsOf at_ ks)=W at *
  generalize seenZ ks=Sn at *
  clear hq
  (repeat'(first|refine Ctl ?_|((with_reducible refine Kof.use hK ?_);clear hK hE K E)|((with_reducible refine W_cond (fun h=>?_) (fun h=>?_))<;>(try(exfalso;omega)))|(((with_reducible refine G_region fun K E hK hE=>?_))<;>(try simp(disch:=assumption) only[go_sem,seval, *]))))
  (refine W_ret res41 hQ ?_)
  refine⟨_,_,Wk.tupQ,?_,rfl,rfl⟩
  exact Fg.setA (Fg.own hO) HBM.out
def insN (q:List Nat)(k:Nat):List Nat:=if k∈q then q else q++[k]
theorem insN_mem {q:List Nat}{k z:Nat}:z∈insN q k↔z∈q∨z=k:=by
 unfold insN
 split
 ·constructor
  ·exact .inl
  ·rintro(h|rfl)
   ·exact h
   ·assumption
 ·simp
theorem insN_nodup {q:List Nat}{k:Nat}(h:q.Nodup):(insN q k).Nodup:=by
 unfold insN
 split
 ·exact h
 ·rw[List.nodup_append]
  refine⟨h,by simp,fun a ha b hb=>?_⟩
  rw[List.mem_singleton]at hb
  subst hb
  intro e
  subst e
  contradiction
theorem seenZ_there {k:Nat}:∀{ks:List Nat},k∈ks→ptZ (k:Int) true (seenZ ks)=seenZ ks
 |[],h=>by simp at h
 |a::ks,h=>by
  simp only[seenZ,List.map_cons,ptZ]
  by_cases e:k=a
  ·subst e;simp
  ·rw[if_neg (by omega)]
   have:=seenZ_there (ks:=ks) (by simpa [e]using h)
   simp only[seenZ]at this
   rw[this]
theorem seenZ_ins {k:Nat}{ks:List Nat}:ptZ (k:Int) true (seenZ ks)=seenZ (insN ks k):=by
 unfold insN
 split
 ·exact seenZ_there (by assumption)
 ·exact seenZ_pt (by assumption)
def vrT:Tr→Nat
 |.lf _=>0
 |.nd v _ _=>v
structure AskB where
 p:Nat
 g:Nat
 q:Nat
 b1:Nat
 b2:Nat
 b3:Nat
 b4:Nat
 m1:Nat
 m2:Nat
structure AskS (s:St) (J:AskB) (n B:Nat) (ns:List Tr) (mk:Int) (sn vs:List Nat):Prop where
 nm:NMem s J.p J.g J.q n B ns mk 0
 o1:s J.b1=.obj 83 [.mp J.m1]
 o2:s J.b2=.obj 54 [.ptr J.p 0]
 o3:s J.b3=.obj 83 [.mp J.m2]
 o4:s J.b4=.obj 197 [.fn 186 [.ptr J.b1 0,.ptr J.b2 0,.ptr J.b3 0,.ptr J.b4 0]]
 c1:s J.m1=.map (mpZ encB (seenZ sn))
 c2:s J.m2=.map (mpZ encB (seenZ vs))
 ne:J.m1≠J.m2
structure AskI (ns:List Tr) (sn vs:List Nat) (t:Tr):Prop where
 n1:sn.Nodup
 n2:vs.Nodup
 dn:∀u,u∈subsT t→ixN ns u∈sn→∀z,z∈subsT u→ixN ns z∈sn∧vrT z∈vs
structure AskW (ns:List Tr) (sn vs:List Nat) (t:Tr) (sn' vs':List Nat):Prop where
 n1:sn'.Nodup
 n2:vs'.Nodup
 m1:∀k,k∈sn'↔k∈sn∨∃u,u∈subsT t∧k=ixN ns u
 m2:∀v,v∈vs'↔v∈vs∨∃u,u∈subsT t∧v=vrT u
theorem AskS.put1 {s:St}{J:AskB}{n B:Nat}{ns:List Tr}{mk:Int}{sn vs:List Nat}(h:AskS s J n B ns mk sn vs)(sn':List Nat):AskS (s.set J.m1 (.map (mpZ encB (seenZ sn')))) J n B ns mk sn' vs:=by
 have key:∀z,(∀es,s z≠.map es)→(s.set J.m1 (.map (mpZ encB (seenZ sn')))) z=s z:=fun z hz=>St.set_other _ _ fun e=>hz _ (e ▸ h.c1)
 refine⟨⟨?_,?_⟩,?_,?_,?_,?_,St.set_same _ _ _,?_,h.ne⟩
 ·rw[key _ (fun es e=>by rw[h.nm.o]at e;cases e)];exact h.nm.o
 ·rw[key _ (fun es e=>by rw[h.nm.r]at e;cases e)];exact h.nm.r
 ·rw[key _ (fun es e=>by rw[h.o1]at e;cases e)];exact h.o1
 ·rw[key _ (fun es e=>by rw[h.o2]at e;cases e)];exact h.o2
 ·rw[key _ (fun es e=>by rw[h.o3]at e;cases e)];exact h.o3
 ·rw[key _ (fun es e=>by rw[h.o4]at e;cases e)];exact h.o4
 ·rw[St.set_other _ _ (Ne.symm h.ne)];exact h.c2
theorem AskS.put2 {s:St}{J:AskB}{n B:Nat}{ns:List Tr}{mk:Int}{sn vs:List Nat}(h:AskS s J n B ns mk sn vs)(vs':List Nat):AskS (s.set J.m2 (.map (mpZ encB (seenZ vs')))) J n B ns mk sn vs':=by
 have key:∀z,(∀es,s z≠.map es)→(s.set J.m2 (.map (mpZ encB (seenZ vs')))) z=s z:=fun z hz=>St.set_other _ _ fun e=>hz _ (e ▸ h.c2)
 refine⟨⟨?_,?_⟩,?_,?_,?_,?_,?_,St.set_same _ _ _,h.ne⟩
 ·rw[key _ (fun es e=>by rw[h.nm.o]at e;cases e)];exact h.nm.o
 ·rw[key _ (fun es e=>by rw[h.nm.r]at e;cases e)];exact h.nm.r
 ·rw[key _ (fun es e=>by rw[h.o1]at e;cases e)];exact h.o1
 ·rw[key _ (fun es e=>by rw[h.o2]at e;cases e)];exact h.o2
 ·rw[key _ (fun es e=>by rw[h.o3]at e;cases e)];exact h.o3
 ·rw[key _ (fun es e=>by rw[h.o4]at e;cases e)];exact h.o4
 ·rw[St.set_other _ _ h.ne];exact h.c1
theorem sub_size:∀{t u:Tr},u∈subsT t→(subsT u).length≤(subsT t).length
 |.lf _,u,h=>by simp[subsT]at h
 |.nd v l r,u,h=>by
  simp only[subsT,List.mem_cons,List.mem_append]at h
  rcases h with rfl|h|h
  ·exact Nat.le_refl _
  ·have:=sub_size h;simp only[subsT,List.length_cons,List.length_append];omega
  ·have:=sub_size h;simp only[subsT,List.length_cons,List.length_append];omega
theorem sub_self {v:Nat}{l r:Tr}:.nd v l r∈subsT (.nd v l r):=by simp[subsT]
theorem not_subL {v:Nat}{l r:Tr}:.nd v l r∉subsT l:=fun h=>by
 have:=sub_size h
 simp only[subsT,List.length_cons,List.length_append]at this;omega
theorem not_subR {v:Nat}{l r:Tr}:.nd v l r∉subsT r:=fun h=>by
 have:=sub_size h
 simp only[subsT,List.length_cons,List.length_append]at this;omega
theorem subs_nd {v:Nat}{l r u:Tr}:u∈subsT (.nd v l r)↔u=.nd v l r∨u∈subsT l∨u∈subsT r:=by simp[subsT]
theorem AskI.low {n:Nat}{ns:List Tr}{sn vs:List Nat}{v:Nat}{l r:Tr}(h:AskI ns sn vs (.nd v l r))(hN:NsOk n ns)(hm:.nd v l r∈ns):AskI ns (insN sn (ixN ns (.nd v l r))) (insN vs v) l:=by
 refine⟨insN_nodup h.n1,insN_nodup h.n2,fun u hu hs z hz=>?_⟩
 have hul:=subs_nd.2 (.inr (.inl hu):u=.nd v l r∨_)
 rcases insN_mem.1 hs with e|e
 ·obtain⟨a,b⟩:=h.dn u hul e z hz
  exact⟨insN_mem.2 (.inl a),insN_mem.2 (.inl b)⟩
 ·have:=ixN_inj (hN.subs hm hul) hm e
  subst this
  exact absurd hu not_subL
theorem AskI.high {n:Nat}{ns:List Tr}{sn vs sn1 vs1:List Nat}{v:Nat}{l r:Tr}(h:AskI ns sn vs (.nd v l r))(hN:NsOk n ns)(hm:.nd v l r∈ns)
  (w:AskW ns (insN sn (ixN ns (.nd v l r))) (insN vs v) l sn1 vs1):AskI ns sn1 vs1 r:=by
 refine⟨w.n1,w.n2,fun u hu hs z hz=>?_⟩
 have hur:=subs_nd.2 (.inr (.inr hu):u=.nd v l r∨_)
 rcases(w.m1 _).1 hs with e|⟨u2,hu2,e⟩
 ·rcases insN_mem.1 e with e|e
  ·obtain⟨a,b⟩:=h.dn u hur e z hz
   exact⟨(w.m1 _).2 (.inl (insN_mem.2 (.inl a))),(w.m2 _).2 (.inl (insN_mem.2 (.inl b)))⟩
  ·have:=ixN_inj (hN.subs hm hur) hm e
   subst this
   exact absurd hu not_subR
 ·have:=ixN_inj (hN.subs hm hur) (hN.subs hm (subs_nd.2 (.inr (.inl hu2)))) e
  subst this
  exact⟨(w.m1 _).2 (.inr ⟨z,subs_trans hu2 hz,rfl⟩),(w.m2 _).2 (.inr ⟨z,subs_trans hu2 hz,rfl⟩)⟩
theorem AskW.all {ns:List Tr}{sn vs sn1 vs1 sn2 vs2:List Nat}{v:Nat}{l r:Tr}
  (w:AskW ns (insN sn (ixN ns (.nd v l r))) (insN vs v) l sn1 vs1) (w2:AskW ns sn1 vs1 r sn2 vs2):AskW ns sn vs (.nd v l r) sn2 vs2:=by
 refine⟨w2.n1,w2.n2,fun k=>?_,fun x=>?_⟩
 ·rw[w2.m1,w.m1,insN_mem]
  constructor
  ·rintro(((e|e)|⟨u,hu,e⟩)|⟨u,hu,e⟩)
   ·exact .inl e
   ·exact .inr ⟨_,subs_nd.2 (.inl rfl),e⟩
   ·exact .inr ⟨u,subs_nd.2 (.inr (.inl hu)),e⟩
   ·exact .inr ⟨u,subs_nd.2 (.inr (.inr hu)),e⟩
  ·rintro(e|⟨u,hu,e⟩)
   ·exact .inl (.inl (.inl e))
   ·rcases subs_nd.1 hu with rfl|hu|hu
    ·exact .inl (.inl (.inr e))
    ·exact .inl (.inr ⟨u,hu,e⟩)
    ·exact .inr ⟨u,hu,e⟩
 ·rw[w2.m2,w.m2,insN_mem]
  constructor
  ·rintro(((e|e)|⟨u,hu,e⟩)|⟨u,hu,e⟩)
   ·exact .inl e
   ·exact .inr ⟨_,subs_nd.2 (.inl rfl),e⟩
   ·exact .inr ⟨u,subs_nd.2 (.inr (.inl hu)),e⟩
   ·exact .inr ⟨u,subs_nd.2 (.inr (.inr hu)),e⟩
  ·rintro(e|⟨u,hu,e⟩)
   ·exact .inl (.inl (.inl e))
   ·rcases subs_nd.1 hu with rfl|hu|hu
    ·exact .inl (.inl (.inr e))
    ·exact .inl (.inr ⟨u,hu,e⟩)
    ·exact .inr ⟨u,hu,e⟩
theorem AskW.none {ns:List Tr}{sn vs:List Nat}{t:Tr}(h:AskI ns sn vs t)(hs:∀u,u∈subsT t→ixN ns u∈sn∧vrT u∈vs):AskW ns sn vs t sn vs:=
 ⟨h.n1,h.n2,fun k=>⟨.inl,fun e=>e.elim id fun⟨u,hu,e⟩=>e ▸ (hs u hu).1⟩,fun k=>⟨.inl,fun e=>e.elim id fun⟨u,hu,e⟩=>e ▸ (hs u hu).2⟩⟩
set_option maxHeartbeats 1000000 in
theorem Kmay_S (s:St)(p g q n B k:Nat)(ns:List Tr)(t:Tr)(mk sw:Int)(hN:NMem s p g q n B ns mk sw)(hk:ns[k]?=some t):SRet Tryz.prog 128 [.ptr p 0,.int .i64 k] s (.int .i64 0) s:=by
 have w1:=Nnode_S s p g q n B k ns t mk sw hN hk
 obtain⟨h,_⟩:=hN
 have hpf:s p≠.free:=by rw[h];simp
 clear h hk
 generalize ((varN n t:Nat):Int)=z1 at *
 refine G_enter Tryz.func128 rfl Tryz.ntmps128 rfl fun Q hQ hQe=>?_
 (repeat'(first|refine Ctl ?_|((with_reducible refine Kof.use hK ?_);clear hK hE K E)|(((with_reducible first|refine G_region fun K E hK hE=>?_|refine call_ret can98 (w1) ?_))<;>(try simp(disch:=omega) only[go_sem,seval, *]))))
 (refine W_ret res128 hQ ?_)
 exact⟨_,_,Wk.refl _,Fg.refl _,rfl,rfl⟩
abbrev AskA:=St×List Nat×List Nat
def AskC (s:St)(J:AskB)(n B:Nat)(ns:List Tr)(mk:Int)(sn vs:List Nat)(t:Tr):Prop:=
 SCalls Tryz.prog 186 [.int .i64 (ixN ns t:Nat),.ptr J.b1 0,.ptr J.b2 0,.ptr J.b3 0,.ptr J.b4 0] s fun w u=>∃a:AskA,w=.ret (.tup [])∧u=a.1∧AskS a.1 J n B ns mk a.2.1 a.2.2∧AskW ns sn vs t a.2.1 a.2.2∧∀z,z≠J.m1→z≠J.m2→a.1 z=s z
theorem AskC.ret {s:St}{J:AskB}{n B:Nat}{ns:List Tr}{mk:Int}{sn vs:List Nat}{t:Tr}(hA:AskS s J n B ns mk sn vs)(hW:AskW ns sn vs t sn vs)
  (h:SRet Tryz.prog 186 [.int .i64 (ixN ns t:Nat),.ptr J.b1 0,.ptr J.b2 0,.ptr J.b3 0,.ptr J.b4 0] s (.tup []) s):AskC s J n B ns mk sn vs t:=by
 refine SCalls.mono (h:=h) ?_
 rintro w u ⟨rfl,rfl⟩
 exact⟨(u,sn,vs),rfl,rfl,hA,hW,fun _ _ _=>rfl⟩
set_option maxHeartbeats 4000000 in
theorem Asks1_lf {s:St}{J:AskB}{n B:Nat}{ns:List Tr}{mk:Int}{sn vs:List Nat}{b:Bool}(hA:AskS s J n B ns mk sn vs)(hN:NsOk n ns)(hI:AskI ns sn vs (.lf b)):AskC s J n B ns mk sn vs (.lf b):=by
 refine AskC.ret hA (AskW.none hI fun u hu=>by simp[subsT]at hu) ?_
 have hk:ixN ns (.lf b)<2:=by rw[(hN.lf b).2];cases b<;>decide
 have h1:((ixN ns (.lf b):Nat):Int)<2:=by omega
 generalize ixN ns (.lf b)=k at *
 clear hI hN hk
 obtain⟨⟨hp,hg⟩,o1,o2,o3,o4,c1,c2,hne⟩:=hA
 obtain⟨p,g,q,b1,b2,b3,b4,m1,m2⟩:=J
 dsimp only at *
 clear hp hg o2 o3 o4 c2
 refine G_enter Tryz.func186 rfl Tryz.ntmps186 rfl fun Q hQ hQe=>?_
 (repeat'(first|refine Ctl ?_|((with_reducible refine Kof.use hK ?_);clear hK hE K E)|((with_reducible refine W_cond (fun h=>?_) (fun h=>?_))<;>(try(exfalso;assumption)))|(((with_reducible refine G_region fun K E hK hE=>?_))<;>(try simp(disch:=omega) only[go_sem,seval,h1, *]))))
 all_goals(refine W_ret res186 hQ ?_)
 all_goals exact⟨_,_,Wk.refl _,Fg.refl _,rfl,rfl⟩
set_option maxHeartbeats 4000000 in
theorem Asks1_seen {s:St}{J:AskB}{n B:Nat}{ns:List Tr}{mk:Int}{sn vs:List Nat}{v:Nat}{l r:Tr}(hA:AskS s J n B ns mk sn vs)(hN:NsOk n ns)(hI:AskI ns sn vs (.nd v l r))(hm:.nd v l r∈ns)(hs:ixN ns (.nd v l r)∈sn):AskC s J n B ns mk sn vs (.nd v l r):=by
 refine AskC.ret hA (AskW.none hI fun u hu=>hI.dn _ sub_self hs u hu) ?_
 have h1:¬ ((ixN ns (.nd v l r):Nat):Int)<2:=by have:=hN.two hm;omega
 have h2:(lkZ ((ixN ns (.nd v l r):Nat):Int) (seenZ sn)).getD false=true:=by rw[seenZ_lk];simp[hs]
 generalize ixN ns (.nd v l r)=k at *
 clear hI hN hm hs
 obtain⟨⟨hp,hg⟩,o1,o2,o3,o4,c1,c2,hne⟩:=hA
 obtain⟨p,g,q,b1,b2,b3,b4,m1,m2⟩:=J
 dsimp only at *
 clear hp hg o2 o3 o4 c2
 refine G_enter Tryz.func186 rfl Tryz.ntmps186 rfl fun Q hQ hQe=>?_
 (repeat'(first|refine Ctl ?_|((with_reducible refine Kof.use hK ?_);clear hK hE K E)|((with_reducible refine W_cond (fun h=>?_) (fun h=>?_))<;>(try(exfalso;assumption)))|(((with_reducible refine G_region fun K E hK hE=>?_))<;>(try simp(disch:=omega) only[go_sem,seval,h1,h2, *]))))
 all_goals(refine W_ret res186 hQ ?_)
 all_goals exact⟨_,_,Wk.refl _,Fg.refl _,rfl,rfl⟩
set_option maxHeartbeats 4000000 in
theorem Asks1_nd {s:St}{J:AskB}{n B:Nat}{ns:List Tr}{mk:Int}{sn vs:List Nat}{v:Nat}{l r:Tr}(hA:AskS s J n B ns mk sn vs)(hN:NsOk n ns)(hI:AskI ns sn vs (.nd v l r))(hm:.nd v l r∈ns)(hs:ixN ns (.nd v l r)∉sn)
  (ihl:∀{s:St} {sn vs:List Nat},AskS s J n B ns mk sn vs→AskI ns sn vs l→AskC s J n B ns mk sn vs l) (ihr:∀{s:St} {sn vs:List Nat},AskS s J n B ns mk sn vs→AskI ns sn vs r→AskC s J n B ns mk sn vs r):AskC s J n B ns mk sn vs (.nd v l r):=by
 have h1:¬ ((ixN ns (.nd v l r):Nat):Int)<2:=by have:=hN.two hm;omega
 have h2:(lkZ ((ixN ns (.nd v l r):Nat):Int) (seenZ sn)).getD false=false:=by rw[seenZ_lk];simp[hs]
 have w1:=fun(u:St) (sn' vs':List Nat) (h:AskS u J n B ns mk sn' vs')=>Nnode_S u J.p J.g J.q n B (ixN ns (.nd v l r)) ns (.nd v l r) mk 0 h.nm (ixN_get hm)
 have hA1:=hA.put1 (insN sn (ixN ns (.nd v l r)))
 have hA2:=hA1.put2 (insN vs v)
 have hI1:=hI.low hN hm
 have hI2:=fun(sn1 vs1:List Nat)=>hI.high (sn1:=sn1) (vs1:=vs1) hN hm
 have w2:=ihl hA2 hI1
 have w1:=w1 _ _ _ hA1
 have hfr:∀z,z≠J.m1→z≠J.m2→((s.set J.m1 (.map (mpZ encB (seenZ (insN sn (ixN ns (.nd v l r))))))).set J.m2 (.map (mpZ encB (seenZ (insN vs v))))) z=s z:=fun z h1 h2=>by rw[St.set_other _ _ h2,St.set_other _ _ h1]
 have hall:=fun(sn1 vs1 sn2 vs2:List Nat)=>AskW.all (ns:=ns) (sn:=sn) (vs:=vs) (v:=v) (l:=l) (r:=r) (sn1:=sn1) (vs1:=vs1) (sn2:=sn2) (vs2:=vs2)
 unfold AskC at w2 ihr ⊢
 simp only[varN,lowN,highN]at w1
 obtain⟨J1,hJ⟩:∃J1,J1=J:=⟨_,rfl⟩
 have HJ:=Lib.hid hJ
 clear hJ
 have HI2:=Lib.hid hI2
 have HFR:=Lib.hid hfr
 have HALL:=Lib.hid hall
 have HR:=Lib.hid (fun(s:St) (sn vs:List Nat)=>@ihr s sn vs)
 have HA2:=Lib.hid hA2
 clear hI hN hm hs ihl ihr hA1 hA2 hI1 hI2 hfr hall
 generalize ixN ns (.nd v l r)=k at *
 generalize ixN ns l=kl at *
 obtain⟨⟨hp,hg⟩,o1,o2,o3,o4,c1,c2,hne⟩:=hA
 have d11:J.m1≠J.b1:=fun e=>by rw[e,o1]at c1;cases c1
 have d12:J.m1≠J.b2:=fun e=>by rw[e,o2]at c1;cases c1
 have d13:J.m1≠J.b3:=fun e=>by rw[e,o3]at c1;cases c1
 have d14:J.m1≠J.b4:=fun e=>by rw[e,o4]at c1;cases c1
 have d21:J.m2≠J.b1:=fun e=>by rw[e,o1]at c2;cases c2
 have d22:J.m2≠J.b2:=fun e=>by rw[e,o2]at c2;cases c2
 have d23:J.m2≠J.b3:=fun e=>by rw[e,o3]at c2;cases c2
 have d24:J.m2≠J.b4:=fun e=>by rw[e,o4]at c2;cases c2
 have g11:=Ne.symm d11
 have g12:=Ne.symm d12
 have g13:=Ne.symm d13
 have g14:=Ne.symm d14
 have g21:=Ne.symm d21
 have g22:=Ne.symm d22
 have g23:=Ne.symm d23
 have g24:=Ne.symm d24
 have hne2:=Ne.symm hne
 clear hp hg
 refine G_enter Tryz.func186 rfl Tryz.ntmps186 rfl fun Q hQ hQe=>?_
 (repeat'(first|refine Ctl ?_|((with_reducible refine Kof.use hK ?_);clear hK hE K E)|((with_reducible refine W_cond (fun h=>?_) (fun h=>?_))<;>(try(exfalso;assumption)))|(((with_reducible first|refine G_region fun K E hK hE=>?_|refine call_ret can98 (w1) ?_))<;>(try simp(disch:=omega) only[go_sem,seval,h1,h2,seenZ_ins, *]))))
 refine call_ex can186 w2 (fun a h=>?_)
 obtain⟨u1,sn1,vs1⟩:=a
 obtain⟨hA3,hW3,hF3⟩:=h
 dsimp only at hA3 hW3 hF3 ⊢
 have w3:=HR.out _ _ _ hA3 (HI2.out _ _ hW3)
 have q4:=hA3.o4
 have HF3:=Lib.hid hF3
 have HW3:=Lib.hid hW3
 clear w1 w2 o1 o2 o3 o4 c1 c2 hA3 hF3 hW3 d11 d12 d13 d14 d21 d22 d23 d24 g11 g12 g13 g14 g21 g22 g23 g24
 simp only[go_sem,seval]
 (repeat'(first|((with_reducible refine Kof.use hK ?_);clear hK hE K E)|(((with_reducible refine G_region fun K E hK hE=>?_))<;>(try simp(disch:=omega) only[go_sem,seval, *]))))
 refine call_ex can186 w3 (fun a h=>?_)
 obtain⟨u2,sn2,vs2⟩:=a
 obtain⟨hA4,hW4,hF4⟩:=h
 dsimp only at hA4 hW4 hF4 ⊢
 have HF4:=Lib.hid hF4
 have HW4:=Lib.hid hW4
 have HA4:=Lib.hid hA4
 clear w3 q4 hA4 hF4 hW4
 simp only[go_sem,seval]
 (repeat'(((with_reducible refine Kof.use hK ?_);clear hK hE K E)))
 (refine W_norm res186 hQ ?_)
 refine⟨_,_,Wk.refl _,Fg.refl _,(u2,sn2,vs2),rfl,rfl,HA4.out,HALL.out _ _ _ _ HW3.out HW4.out,fun z h1 h2=>?_⟩
 dsimp only
 rw[HF4.out z h1 h2,HF3.out z h1 h2,HFR.out z h1 h2]
theorem Asks1_S {n B:Nat}{ns:List Tr}{mk:Int}{J:AskB}(hN:NsOk n ns):∀(t:Tr) {s:St} {sn vs:List Nat},t∈ns→AskS s J n B ns mk sn vs→AskI ns sn vs t→AskC s J n B ns mk sn vs t
 |.lf b,s,sn,vs,hm,hA,hI=>Asks1_lf hA hN hI
 |.nd v l r,s,sn,vs,hm,hA,hI=>by
  by_cases hs:ixN ns (.nd v l r)∈sn
  ·exact Asks1_seen hA hN hI hm hs
  ·obtain⟨hl,hr⟩:=hN.ch _ _ _ hm
   exact Asks1_nd hA hN hI hm hs (fun hA hI=>Asks1_S hN l hl hA hI) (fun hA hI=>Asks1_S hN r hr hA hI)
abbrev BoxA:=St×Nat
set_option maxHeartbeats 1000000 in
theorem Keys_S (s:St)(m:Nat):SCalls Tryz.prog 187 [.mp m] s fun w u=>∃a:BoxA,w=.ret (.fn 198 [.ptr a.2 0])∧u=a.1∧s a.2=.free∧a.1=s.set a.2 (.obj 83 [.mp m]):=by
 refine G_enter Tryz.func187 rfl Tryz.ntmps187 rfl fun Q hQ hQe=>?_
 (repeat'(first|refine Ctl ?_|((with_reducible refine Kof.use hK ?_);clear hK hE K E)|((first|(with_reducible refine G_region fun K E hK hE=>?_)|((with_reducible refine W_fresh (fun b hb=>?_))))<;>(try simp(disch:=omega) only[go_sem,seval, *]))))
 (refine W_ret res187 hQ ?_)
 exact⟨_,_,Wk.refl _,Fg.refl _,mkA b rfl ⟨hb,rfl⟩⟩
set_option maxHeartbeats 1000000 in
theorem Values_S (s:St)(L:List (List VV)):SCalls Tryz.prog 165 [.lst L .no] s fun w u=>∃a:BoxA,w=.ret (.fn 185 [.ptr a.2 0])∧u=a.1∧s a.2=.free∧a.1=s.set a.2 (.obj 28 [.lst L .no]):=by
 refine G_enter Tryz.func165 rfl Tryz.ntmps165 rfl fun Q hQ hQe=>?_
 (repeat'(first|refine Ctl ?_|((with_reducible refine Kof.use hK ?_);clear hK hE K E)|((first|(with_reducible refine G_region fun K E hK hE=>?_)|((with_reducible refine W_fresh (fun b hb=>?_))))<;>(try simp(disch:=omega) only[go_sem,seval, *]))))
 (refine W_ret res165 hQ ?_)
 exact⟨_,_,Wk.refl _,Fg.refl _,mkA b rfl ⟨hb,rfl⟩⟩
def occT (v:Nat):Tr→Bool
 |.lf _=>false
 |.nd w l r=>(v == w) || occT v l || occT v r
theorem occT_iff {v:Nat}:∀{t:Tr},occT v t=true↔∃u,u∈subsT t∧v=vrT u
 |.lf b=>by simp[occT,subsT]
 |.nd w l r=>by
  simp only[occT,Bool.or_eq_true,beq_iff_eq,occT_iff (t:=l),occT_iff (t:=r)]
  constructor
  ·rintro((e|⟨u,hu,e⟩)|⟨u,hu,e⟩)
   ·exact⟨_,sub_self,e⟩
   ·exact⟨u,subs_nd.2 (.inr (.inl hu)),e⟩
   ·exact⟨u,subs_nd.2 (.inr (.inr hu)),e⟩
  ·rintro⟨u,hu,e⟩
   rcases subs_nd.1 hu with rfl|hu|hu
   ·exact .inl (.inl e)
   ·exact .inl (.inr ⟨u,hu,e⟩)
   ·exact .inr ⟨u,hu,e⟩
theorem occT_lt {n v:Nat}:∀{t:Tr} {m:Nat},OkT n m t→occT v t=true→v<n
 |.lf b,m,_,h=>by simp[occT]at h
 |.nd w l r,m,⟨h1,h2,h3,h4,h5⟩,h=>by
  simp only[occT,Bool.or_eq_true,beq_iff_eq]at h
  rcases h with (rfl|h)|h
  ·exact h2
  ·exact occT_lt h4 h
  ·exact occT_lt h5 h
def asksT (n:Nat)(t:Tr):List Nat:=(List.range n).filter fun v=>occT v t
theorem asksT_mem {n v:Nat}{t:Tr}(h:OkT n 0 t):v∈asksT n t↔occT v t=true:=by
 simp only[asksT,List.mem_filter,List.mem_range]
 exact⟨fun h=>h.2,fun e=>⟨occT_lt h e,e⟩⟩
theorem riseZ_id {l:List Int}(h:l.Pairwise (·≤·)):riseZ l=l:=List.mergeSort_of_pairwise (h.imp fun h=>by simpa using h)
theorem riseZ_nat {l S:List Nat}(hl:l.Nodup)(hS:S.Pairwise (·<·))(h:∀v,v∈l↔v∈S):riseZ (l.map fun(k:Nat)=>(k:Int))=S.map fun(k:Nat)=>(k:Int):=by
 have hp:l.Perm S:=(List.perm_ext_iff_of_nodup hl (hS.imp fun h=>by omega)).2 h
 rw[riseZ_congr (hp.map _)]
 apply riseZ_id
 rw[List.pairwise_map]
 exact hS.imp fun h=>by omega
theorem asksT_rise (n:Nat)(t:Tr):(asksT n t).Pairwise (·<·):=List.Pairwise.filter _ List.pairwise_lt_range
theorem asksT_sort {n:Nat}{t:Tr}(h:OkT n 0 t){vs:List Nat}(hn:vs.Nodup)(hm:∀v,v∈vs↔v∈([]:List Nat)∨∃u,u∈subsT t∧v=vrT u):rowV (riseZ ((seenZ vs).map (·.1)))=.lst (natsL (asksT n t)) .no:=by
 have e:(seenZ vs).map (·.1)=vs.map fun(k:Nat)=>(k:Int):=by simp[seenZ,Function.comp]
 rw[e,riseZ_nat hn (asksT_rise n t) fun v=>by rw[hm,asksT_mem h,occT_iff];simp,natsL_ints]
 rfl
set_option maxHeartbeats 8000000 in
theorem Kasks_S {s:St}{p g q n B:Nat}{ns:List Tr}{mk:Int}(hM:NMem s p g q n B ns mk 0)(hN:NsOk n ns)(hn:n≤256){t:Tr}(ht:t∈ns) :
  SRet Tryz.prog 166 [.ptr p 0,.int .i64 (ixN ns t:Nat)] s (.tup [.lst (natsL (asksT n t)) .no,.int .i64 0]) s:=by
 have w1:=fun(u:St) (h:NMem u p g q n B ns mk 0)=>Kmay_S u p g q n B (ixN ns t) ns t mk 0 h (ixN_get ht)
 have hpf:s p≠.free:=by rw[hM.o];simp
 have hgf:s g≠.free:=by rw[hM.r];simp
 have hoff:∀(x:Nat) (c:Cell),s x=.free→NMem (s.set x c) p g q n B ns mk 0:=fun x c hx=>⟨by rw[St.set_other _ _ (nef hx hpf).1];exact hM.o,by rw[St.set_other _ _ (nef hx hgf).1];exact hM.r⟩
 have w3:=fun(u:St) (J:AskB) (h:AskS u J n B ns mk [] [])=>Asks1_S hN t ht h ⟨List.nodup_nil,List.nodup_nil,fun _ _ h=>by simp at h⟩
 have hso:=fun vs h1 h2=>asksT_sort (n:=n) (t:=t) (hN.ok t ht) (vs:=vs) h1 h2
 have hbd:=fun v (h:∃u,u∈subsT t∧v=vrT u)=>occT_lt (hN.ok t ht) (occT_iff.2 h)
 unfold AskC at w3
 have HM:=Lib.hid hM
 have W1:=Lib.hid w1
 have W3:=Lib.hid w3
 have HSO:=Lib.hid hso
 have HBD:=Lib.hid hbd
 have HOFF:=Lib.hid hoff
 clear hM hN ht w1 w3 hso hbd hoff
 generalize ixN ns t=k at *
 refine G_enter Tryz.func166 rfl Tryz.ntmps166 rfl fun Q hQ hQe=>?_
 (repeat'(first|refine Ctl ?_|((with_reducible refine Kof.use hK ?_);clear hK hE K E)|((first|(with_reducible refine G_region fun K E hK hE=>?_)|((with_reducible refine W_fresh (fun b hb=>?_))))<;>(try simp(disch:=omega) only[go_sem,seval, *]))))
 have w1:=W1.out _ (HOFF.out b (.obj 54 [.ptr p 0]) hb)
 refine call_ret can128 w1 ?_
 clear w1
 obtain⟨b2,hb2⟩:∃z,z=b:=⟨_,rfl⟩
 subst hb2
 simp only[go_sem,seval]
 (repeat'(first|(with_reducible refine Kp_atQ 7 ?_)|refine Ctl ?_|((with_reducible refine Kof.use hK ?_);clear hK hE K E)|((with_reducible refine W_cond (fun h=>?_) (fun h=>?_))<;>(try(exfalso;assumption)))|((first|(with_reducible refine G_region fun K E hK hE=>?_)|((with_reducible refine W_fresh (fun b hb=>?_));(repeat(obtain⟨_,hb⟩:=hb))))<;>(try simp(disch:=first|assumption|omega) only[go_sem,seval, *]))))
 unfold StopQ
 refine Kp_nameQ fun S hS=>?_
 rename_i hb2 m1 _ _ hm1 m2 _ _ _ _ hm2 b7 _ _ _ _ _ _ hb7 b8 _ _ _ _ _ _ _ _ hb8 _ _ _ _ _ _ _ _ _ _
 have hSf:∀z,s z≠.free→S z=s z:=fun z hz=>by
  rw[hS,St.set_other _ _ (nef hb hz).1,St.set_other _ _ (nef hb8 hz).1,St.set_other _ _ (nef hb7 hz).1,St.set_other _ _ (nef hm2 hz).1,St.set_other _ _ (nef hm1 hz).1,St.set_other _ _ (nef hb2 hz).1]
 have hA:AskS S ⟨p,g,q,b7,b2,b8,b,m1,m2⟩ n B ns mk [] []:=by
  refine⟨⟨by rw[hSf _ hpf];exact HM.out.o,by rw[hSf _ hgf];exact HM.out.r⟩,?_,?_,?_,?_,?_,?_,?_⟩
  ·rw[hS];simp only[St.set,if_true,if_false, *]
  ·rw[hS];simp only[St.set,if_true,if_false, *]
  ·rw[hS];simp only[St.set,if_true,if_false, *]
  ·rw[hS];simp only[St.set,if_true,if_false, *]
  ·rw[hS];simp only[St.set,if_true,if_false, *];rfl
  ·rw[hS];simp only[St.set,if_true,if_false, *];rfl
  ·intro e;dsimp only at e;rename_i h1 _;exact absurd e.symm (by assumption)
 have w3:=W3.out _ _ hA
 have q4:=hA.o4
 dsimp only at w3 q4
 have HSF:=Lib.hid hSf
 have HM1:=Lib.hid hm1
 have HM2:=Lib.hid hm2
 clear hS hSf hA hb hb2 hb7 hb8 hm1 hm2
 (repeat'((((with_reducible refine G_region fun K E hK hE=>?_))<;>(try simp(disch:=omega) only[go_sem,seval, *]))))
 refine call_ex can186 w3 (fun a h=>?_)
 obtain⟨u1,sn1,vs1⟩:=a
 obtain⟨hA3,hW3,hF3⟩:=h
 dsimp only at hA3 hW3 hF3 ⊢
 have o3:=hA3.o3
 have c2:=hA3.c2
 dsimp only at o3 c2
 have wk:=Keys_S u1 m2
 have HF3:=Lib.hid hF3
 have HW3:=Lib.hid hW3
 have h3f:u1 m2≠.free:=by rw[c2];simp
 clear w3 q4 hA3 hF3 hW3
 simp only[go_sem,seval]
 (repeat'(first|refine Ctl ?_|((with_reducible refine Kof.use hK ?_);clear hK hE K E)|(((with_reducible refine G_region fun K E hK hE=>?_))<;>(try simp(disch:=omega) only[go_sem,seval, *]))))
 refine call_ex can187 wk (fun a h=>?_)
 obtain⟨v,X⟩:=a
 obtain⟨hX,hv⟩:=h
 dsimp only at hX hv ⊢
 have hvl:vs1.length≤256:=by
  have h1:=nodup_le (X:=vs1) (Y:=List.range n) HW3.out.n2 fun x hx=>by
   rcases(HW3.out.m2 x).1 hx with e|e
   ·simp at e
   ·exact List.mem_range.2 (HBD.out _ e)
  rw[List.length_range]at h1
  omega
 have w5:=SortedK_S v X m2 83 (seenZ vs1) (by simp[seenZ];omega) (fun z hz=>by
  obtain⟨k,hk,rfl⟩:=List.mem_map.1 hz
  have hkn:k<n:=by
   rcases(HW3.out.m2 k).1 hk with e|e
   ·simp at e
   ·exact HBD.out _ e
  dsimp only
  omega) (by rw[hv,St.set_same]) (by rw[hv,St.set_other _ _ (nef hX h3f).1];exact c2)
 rw[HSO.out _ HW3.out.n2 HW3.out.m2]at w5
 have hfin:Fg v s:=fun z=>by
  by_cases hz:s z=.free
  ·exact .inl hz
  ·refine .inr ?_
   have h1:z≠m1:=fun e=>hz (e ▸ HM1.out)
   have h2:z≠m2:=fun e=>hz (e ▸ HM2.out)
   have h4:=HF3.out z h1 h2
   have h5:=HSF.out z hz
   have h6:u1 z≠.free:=by rw[h4,h5];exact hz
   rw[hv,St.set_other _ _ (nef hX h6).1,h4,h5]
 have HFIN:=Lib.hid hfin
 clear wk o3 c2 hX hv hvl hfin
 simp only[go_sem,seval]
 (repeat'(first|refine Ctl ?_|((with_reducible refine Kof.use hK ?_);clear hK hE K E)|(((with_reducible refine call_ret can164 (w5) ?_))<;>(try simp(disch:=omega) only[go_sem,seval, *]))))
 (refine W_ret res166 hQ ?_)
 exact⟨_,_,Wk.refl _,HFIN.out,rfl,rfl⟩
def srtN (n:Nat)(vs:List Nat):List Nat:=(List.range n).filter fun v=>decide (v∈vs)
theorem srtN_rise (n:Nat)(vs:List Nat):(srtN n vs).Pairwise (·<·):=List.Pairwise.filter _ List.pairwise_lt_range
theorem srtN_mem {n:Nat}{vs:List Nat}(h:∀v,v∈vs→v<n){v:Nat}:v∈srtN n vs↔v∈vs:=by
 simp only[srtN,List.mem_filter,List.mem_range,decide_eq_true_eq]
 exact⟨fun h=>h.2,fun e=>⟨h v e,e⟩⟩
theorem srtN_nodup (n:Nat)(vs:List Nat):(srtN n vs).Nodup:=(srtN_rise n vs).imp fun h=>by omega
theorem srtN_perm {n:Nat}{vs:List Nat}(hn:vs.Nodup)(h:∀v,v∈vs→v<n):vs.Perm (srtN n vs):=(List.perm_ext_iff_of_nodup hn (srtN_nodup n vs)).2 fun v=>(srtN_mem h).symm
def posZ (S:List Nat):List (Int×Int):=S.zipIdx.map fun p=>((p.1:Int),(p.2:Int))
theorem posZ_take {S:List Nat}{i:Nat}(h:i<S.length):posZ (S.take (i+1))=posZ (S.take i)++[((S[i]:Int),(i:Int))]:=by
 rw[List.take_add_one,List.getElem?_eq_getElem h]
 simp only[posZ,Option.toList,List.zipIdx_append,List.map_append]
 simp[Nat.min_eq_left (Nat.le_of_lt h)]
theorem posZ_len {S:List Nat}:(posZ S).length=S.length:=by simp[posZ]
theorem posZ_fst {S:List Nat}:(posZ S).map (·.1)=S.map fun(k:Nat)=>(k:Int):=by
 simp only[posZ,List.map_map]
 apply List.ext_getElem
 ·simp
 ·intro i h1 h2;simp
theorem posZ_none {S:List Nat}{v:Nat}:lkZ (v:Int) (posZ S)=none↔v∉S:=by
 rw[lkZ_none,posZ_fst]
 simp only[List.mem_map]
 constructor
 ·intro h hv;exact h ⟨v,hv,rfl⟩
 ·rintro h ⟨a,ha,e⟩
  have:a=v:=by omega
  exact h (this ▸ ha)
theorem lkZ_mem {α:Type}{k:Int}{x:α}:∀{l:List (Int×α)},(l.map (·.1)).Nodup→(k,x)∈l→lkZ k l=some x
 |[],_,h=>by simp at h
 |(a,y)::l,hn,h=>by
  simp only[List.map_cons,List.nodup_cons]at hn
  simp only[lkZ]
  rcases List.mem_cons.1 h with e|e
  ·injection e with e1 e2;rw[if_pos e1,e2]
  ·rw[if_neg,lkZ_mem hn.2 e]
   rintro rfl
   exact hn.1 (List.mem_map.2 ⟨_,e,rfl⟩)
theorem posZ_at {S:List Nat}{i v:Nat}(hn:S.Nodup)(h:S[i]?=some v):lkZ (v:Int) (posZ S)=some (i:Int):=by
 refine lkZ_mem ?_ ?_
 ·rw[posZ_fst,List.nodup_iff_pairwise_ne,List.pairwise_map]
  exact hn.imp fun h e=>h (by omega)
 ·refine List.mem_map.2 ⟨(v,i),?_,rfl⟩
  rw[List.mem_zipIdx_iff_getElem?]
  exact h
set_option maxHeartbeats 8000000 in
theorem Kwithin_S {s:St}{p g q n B:Nat}{ns:List Tr}{mk:Int}(hM:NMem s p g q n B ns mk 0)(hN:NsOk n ns)(hn:n≤256)(hBs:ns.length≤1048576){t:Tr}(ht:t∈ns){vs:List Nat}(hv:vs.Nodup)(hlt:∀v,v∈vs→v<n)(hoc:∀v,occT v t=true→v∈vs) :
  SCalls Tryz.prog 122 [.ptr p 0,.int .i64 (ixN ns t:Nat),.lst (natsL vs) .no] s fun w u=>∃a:BoxA,w=.ret (.tup [.mp a.2,.int .i64 0])∧u=a.1∧s a.2=.free∧a.1=s.set a.2 (.map (mpZ encI (posZ (srtN n vs)))):=by
 have wl:=Nlen_S s p g q n B ns mk 0 hM
 have hlen2:=hN.len
 have hz:¬ ((ns.length:Nat):Int)=0:=by omega
 have hpf:s p≠.free:=by rw[hM.o];simp
 have hgf:s g≠.free:=by rw[hM.r];simp
 have wv:=Values_S s (natsL vs)
 have hS:rowV (riseZ (vs.map fun(k:Nat)=>(k:Int)))=.lst (natsL (srtN n vs)) .no:=by
  rw[riseZ_nat hv (srtN_rise n vs) fun v=>(srtN_mem hlt).symm,natsL_ints]
  rfl
 have hvl:vs.length≤256:=by
  have:=nodup_le (X:=vs) (Y:=List.range n) hv fun x hx=>List.mem_range.2 (hlt x hx)
  rw[List.length_range]at this
  omega
 have hSl:(srtN n vs).length=vs.length:=(srtN_perm hv hlt).length_eq.symm
 have hSn:=srtN_nodup n vs
 have hSm:∀v,v∈srtN n vs→v<n:=fun v h=>hlt v ((srtN_mem hlt).1 h)
 have hoc2:∀v,v∈asksT n t→v∈srtN n vs:=fun v h=>(srtN_mem hlt).2 (hoc v ((asksT_mem (hN.ok t ht)).1 h))
 have hoff:∀(u:St),(∀z,s z≠.free→u z=s z)→NMem u p g q n B ns mk 0:=fun u hu=>⟨by rw[hu p hpf];exact hM.o,by rw[hu g hgf];exact hM.r⟩
 have wa:=fun(u:St) (h:NMem u p g q n B ns mk 0)=>Kasks_S h hN hn ht
 have wn:=fun(u:St) (h:NMem u p g q n B ns mk 0)=>Nvars_S u p g q n B ns mk 0 h
 have ws:=fun(u:St) (X:Nat) (h:u X=.obj 28 [.lst (natsL vs) .no])=>SortedV_S u X 28 (vs.map fun(k:Nat)=>(k:Int)) .no (by simp;omega) (by rw[← natsL_ints];exact h)
 rw[hS]at ws
 have haskl:(asksT n t).length≤256:=by
  have:=nodup_le (X:=asksT n t) (Y:=List.range n) ((asksT_rise n t).imp fun h=>by omega) fun x hx=>List.mem_range.2 (by
   have:=(List.mem_filter.1 hx).1
   exact List.mem_range.1 this)
  rw[List.length_range]at this
  omega
 have hln:(natsL vs).length=vs.length:=natsL_len
 have HOFF:=Lib.hid hoff
 have WA:=Lib.hid wa
 have WN:=Lib.hid wn
 have WS:=Lib.hid ws
 have HSN:=Lib.hid hSn
 have HSM:=Lib.hid hSm
 have HOC:=Lib.hid hoc2
 clear hM hN ht hv hlt hoc hS hSn hSm hoc2 hoff wa wn ws hlen2 hgf
 generalize natsL vs=V at *
 generalize srtN n vs=S at *
 generalize asksT n t=T at *
 generalize ixN ns t=k at *
 refine G_enter Tryz.func122 rfl Tryz.ntmps122 rfl fun Q hQ hQe=>?_
 (repeat'(first|refine Ctl ?_|((with_reducible refine Kof.use hK ?_);clear hK hE K E)|((with_reducible refine W_cond (fun h=>?_) (fun h=>?_))<;>(try(exfalso;assumption)))|(((with_reducible first|refine G_region fun K E hK hE=>?_|refine call_ret can56 (wl) ?_))<;>(try simp(disch:=omega) only[go_sem,seval,hz, *]))))
 refine call_ex can165 wv (fun a h=>?_)
 obtain⟨v,X⟩:=a
 obtain⟨hX,hv⟩:=h
 dsimp only at hX hv ⊢
 have w5:=WS.out v X (by rw[hv,St.set_same])
 have hvs:∀z,s z≠.free→v z=s z:=fun z hz=>by rw[hv,St.set_other _ _ (nef hX hz).1]
 have HVS:=Lib.hid hvs
 have hpv:v p≠.free:=by rw[hvs p hpf];exact hpf
 clear wl wv hz hX hv hvs
 simp only[go_sem,seval]
 (repeat'(first|refine Ctl ?_|((with_reducible refine Kof.use hK ?_);clear hK hE K E)|((first|(with_reducible first|refine G_region fun K E hK hE=>?_|refine call_ret can164 (w5) ?_)|((with_reducible refine W_fresh (fun b hb=>?_));(try(obtain⟨_,_⟩:=nef hb hpv))))<;>(try simp(disch:=omega) only[go_sem,seval, *]))))
 obtain⟨bm,hbm⟩:∃z,z=b:=⟨_,rfl⟩
 subst hbm
 have hsb:s bm=.free:=by
  by_cases h:s bm=.free
  ·exact h
  ·exact absurd ((HVS.out bm h).symm.trans hb) h
 have hfg:Fg v s:=fun z=>by
  by_cases h:s z=.free
  ·exact .inl h
  ·exact .inr (HVS.out z h).symm
 have hfg2:=hfg.set bm (.map [])
 have hpb:¬ p=bm:=fun e=>hpf (e ▸ hsb)
 have hbp:¬ bm=p:=fun e=>hpb e.symm
 have HSB:=Lib.hid hsb
 have wm:∀c:Cell,NMem (s.set bm c) p g q n B ns mk 0:=fun c=>HOFF.out _ fun z hz=>St.set_other _ _ (nef hsb hz).1
 have WM:=Lib.hid wm
 have HFG:=Lib.hid hfg2
 have hnl:(natsL S).length=S.length:=natsL_len
 have hnl2:(natsL T).length=T.length:=natsL_len
 have hat:=fun(i k:Nat) (h:S[i]?=some k)=>natsL_at h
 have hat2:=fun(i k:Nat) (h:T[i]?=some k)=>natsL_at h
 generalize hNS:natsL S=SL at *
 generalize hNT:natsL T=TL at *
 have HAT:=Lib.hid hat
 have HAT2:=Lib.hid hat2
 clear hNS hNT hat hat2 hb hsb hfg hfg2 wm HVS hpv w5
 refine G_loop (fun m env s'=>∃(i:Nat),i≤S.length∧m+i=S.length∧s'=s.set bm (.map (mpZ encI (posZ (S.take i))))∧env 0=.ptr p 0∧env 1=.int .i64 k∧env 2=.lst V .no∧env 8=.lst SL .no∧env 9=.mp bm∧env 25=.lst SL .no∧env 26=.int .i64 S.length∧env 27=.int .i64 i) S.length ?_ ?_
 ·exact⟨_,HFG.out,0,by omega,by omega,rfl,z_sl,z_sl,z_sl,z_sl,z_sl,z_sl,z_sl,z_sl⟩
 clear HFG
 rintro m env s' ⟨i,hi,hmi,rfl,e0,e1,e2,e8,e9,e25,e26,e27⟩
 by_cases h2:i<S.length
 ·have hx:=HAT.out i _ (List.getElem?_eq_getElem h2)
  have hlt:=HSM.out _ (List.getElem_mem h2)
  have hpt:ptZ ((S[i]:Nat):Int) ((i:Nat):Int) (posZ (S.take i))=posZ (S.take (i+1)):=by
   rw[ptZ_new,posZ_take h2]
   rw[posZ_none]
   intro h3
   obtain⟨j,hj,e⟩:=List.mem_take_iff_getElem.1 h3
   exact(List.pairwise_iff_getElem.1 HSN.out) j i (by omega) h2 (by omega) e
  have wn:=WN.out _ (WM.out (.map (mpZ encI (posZ (S.take (i+1))))))
  have q1:¬ ((S[i]:Nat):Int)<0:=by omega
  have q2:¬ ((S[i]:Nat):Int)≥(n:Int):=by omega
  have q3:¬ (n:Int)≤((S[i]:Nat):Int):=by omega
  generalize S[i]=x at *
  generalize posZ (S.take i)=P0 at *
  obtain⟨P1,hP1⟩:∃P1,P1=posZ (S.take (i+1)):=⟨_,rfl⟩
  rw[← hP1]at hpt wn
  have HP1:=Lib.hid hP1
  clear hP1
  (repeat'(first|refine Ctl ?_|((with_reducible refine Kof.use hK ?_);clear hK hE K E)|((with_reducible refine W_cond (fun h=>?_) (fun h=>?_))<;>(try(exfalso;first|assumption|omega)))|(((with_reducible first|refine G_region fun K E hK hE=>?_|refine call_ret can60 (wn) ?_))<;>(try simp(disch:=omega) only[go_sem,seval,hx,hpt,q1,q2,q3, *]))))
  all_goals exact⟨_,Fg.refl _,m - 1,by omega,i+1,by omega,by omega,by rw[← HP1.out],z_sl,z_sl,z_sl,z_sl,z_sl,z_sl,z_sl,z_sl⟩
 ·obtain rfl:i=S.length:=by omega
  rw[List.take_length]
  have wa:=WA.out _ (WM.out (.map (mpZ encI (posZ S))))
  have hpl:=posZ_len (S:=S)
  obtain⟨P1,hP1⟩:∃P1,P1=posZ S:=⟨_,rfl⟩
  rw[← hP1]at wa hpl ⊢
  have HP1:=Lib.hid hP1
  clear hP1 h2 hmi
  have hlv:((P1.length:Nat):Int)=((V.length:Nat):Int):=by omega
  (repeat'(first|refine Ctl ?_|((with_reducible refine Kof.use hK ?_);clear hK hE K E)|((with_reducible refine W_cond (fun h=>?_) (fun h=>?_))<;>(try(exfalso;first|assumption|omega)))|(((with_reducible first|refine G_region fun K E hK hE=>?_|refine call_ret can166 (wa) ?_))<;>(try simp(disch:=omega) only[go_sem,seval,hlv,hnl2, *]))))
  refine G_loop (fun m env s'=>∃(i:Nat),i≤T.length∧m+i=T.length∧s'=s.set bm (.map (mpZ encI P1))∧env 9=.mp bm∧env 58=.lst TL .no∧env 59=.int .i64 T.length∧env 60=.int .i64 i) T.length ?_ ?_
  ·exact⟨_,Fg.refl _,0,by omega,by omega,rfl,z_sl,z_sl,z_sl,z_sl⟩
  clear e0 e1 e2 e8 e9 e25 e26 e27 wa
  rintro m env s' ⟨i,hi,hmi,rfl,e9,e58,e59,e60⟩
  by_cases h2:i<T.length
  ·have hx:=HAT2.out i _ (List.getElem?_eq_getElem h2)
   have hin:=HOC.out _ (List.getElem_mem h2)
   have hlk:(lkZ ((T[i]:Nat):Int) P1).isSome=true:=by
    rw[Option.isSome_iff_ne_none,HP1.out]
    intro e
    exact posZ_none.1 e hin
   clear hin
   generalize T[i]=x at *
   (repeat'(first|refine Ctl ?_|((with_reducible refine Kof.use hK ?_);clear hK hE K E)|((with_reducible refine W_cond (fun h=>?_) (fun h=>?_))<;>(try(exfalso;assumption)))|(((with_reducible refine G_region fun K E hK hE=>?_))<;>(try simp(disch:=omega) only[go_sem,seval,hx,hlk, *]))))
   all_goals exact⟨_,Fg.refl _,m - 1,by omega,i+1,by omega,by omega,rfl,z_sl,z_sl,z_sl,z_sl⟩
  ·(repeat'(first|refine Ctl ?_|((with_reducible refine Kof.use hK ?_);clear hK hE K E)|((with_reducible refine W_cond (fun h=>?_) (fun h=>?_))<;>(try(exfalso;assumption)))|(((with_reducible refine G_region fun K E hK hE=>?_))<;>(try simp(disch:=omega) only[go_sem,seval, *]))))
   all_goals(refine W_ret res122 hQ ?_)
   exact⟨_,_,Wk.refl _,Fg.refl _,mkA bm rfl ⟨HSB.out,by rw[← HP1.out]⟩⟩
def PosT (pos:Nat→Nat)(W:Nat):Tr→Prop
 |.lf _=>True
 |.nd v l h=>pos v<W∧pos v+1≤levT pos W l∧pos v+1≤levT pos W h∧PosT pos W l∧PosT pos W h
theorem PosT.lev {pos:Nat→Nat}{W:Nat}:∀{t:Tr},PosT pos W t→levT pos W t≤W
 |.lf _,_=>Nat.le_refl _
 |.nd v l h,⟨h1,_⟩=>Nat.le_of_lt h1
theorem PosT.cnt {pos:Nat→Nat}{W:Nat}:∀{t:Tr},PosT pos W t→cntT pos W t≤2 ^ (W - levT pos W t)
 |.lf b,_=>by simp only[cntT,levT,Nat.sub_self,Nat.pow_zero];split<;>omega
 |.nd v l h,⟨h1,h2,h3,h4,h5⟩=>by
  have key:∀x,PosT pos W x→pos v+1≤levT pos W x→cntT pos W x≤2 ^ (W - levT pos W x)→cntT pos W x * 2 ^ (levT pos W x - (pos v+1))≤2 ^ (W - (pos v+1)):=fun x hx hl hc=>by
   have e:W - (pos v+1)=(W - levT pos W x)+(levT pos W x - (pos v+1)):=by have:=hx.lev;omega
   rw[e,Nat.pow_add]
   exact Nat.mul_le_mul_right _ hc
  have a:=key l h4 h2 h4.cnt
  have b:=key h h5 h3 h5.cnt
  simp only[cntT,levT]
  have e:W - pos v=(W - (pos v+1))+1:=by omega
  rw[e,Nat.pow_succ,Nat.mul_two]
  exact Nat.add_le_add a b
theorem posT_of {n:Nat}{pos:Nat→Nat}{W:Nat}{S:List Nat}(hS:∀v w,v∈S→w∈S→v<w→pos v<pos w)(hW:∀v,v∈S→pos v<W):∀{t:Tr} {m:Nat},OkT n m t→InV S t→PosT pos W t
 |.lf _,_,_,_=>trivial
 |.nd v l h,m,⟨h1,h2,h3,h4,h5⟩,⟨i1,i2,i3⟩=>by
  have key:∀x,OkT n (v+1) x→InV S x→pos v+1≤levT pos W x:=fun x hx hi=>by
   cases x with
   |lf b=>exact hW v i1
   |nd w a b=>exact hS v w i1 hi.1 hx.1
  exact⟨hW v i1,key l h4 i2,key h h5 i3,posT_of hS hW h4 i2,posT_of hS hW h5 i3⟩
theorem inV_occ {S:List Nat}:∀{t:Tr},(∀v,occT v t=true→v∈S)→InV S t
 |.lf _,_=>trivial
 |.nd v l r,h=>⟨h v (by simp[occT]),inV_occ fun w hw=>h w (by simp[occT,hw]),inV_occ fun w hw=>h w (by simp[occT,hw])⟩
theorem occ_inV {S:List Nat}{v:Nat}:∀{t:Tr},InV S t→occT v t=true→v∈S
 |.lf _,_,h=>by simp[occT]at h
 |.nd w l r,⟨h1,h2,h3⟩,h=>by
  simp only[occT,Bool.or_eq_true,beq_iff_eq]at h
  rcases h with (rfl|h)|h
  ·exact h1
  ·exact occ_inV h2 h
  ·exact occ_inV h3 h
def posN (S:List Nat)(v:Nat):Nat:=((lkZ (v:Int) (posZ S)).getD 0).toNat
theorem posN_at {S:List Nat}{i v:Nat}(hn:S.Nodup)(h:S[i]?=some v):posN S v=i:=by
 unfold posN
 rw[posZ_at hn h]
 simp
theorem posN_lk {S:List Nat}{v:Nat}(hn:S.Nodup)(h:v∈S):lkZ (v:Int) (posZ S)=some ((posN S v:Nat):Int):=by
 obtain⟨i,hi⟩:=List.mem_iff_getElem?.1 h
 rw[posN_at hn hi,posZ_at hn hi]
theorem posN_lt {S:List Nat}{v:Nat}(hn:S.Nodup)(h:v∈S):posN S v<S.length:=by
 obtain⟨i,hi⟩:=List.mem_iff_getElem?.1 h
 rw[posN_at hn hi]
 exact(List.getElem?_eq_some_iff.1 hi).1
theorem posN_mono {S:List Nat}(hs:S.Pairwise (·<·)){v w:Nat}(hv:v∈S)(hw:w∈S)(h:v<w):posN S v<posN S w:=by
 have hn:S.Nodup:=hs.imp fun h=>by omega
 obtain⟨i,hi⟩:=List.mem_iff_getElem?.1 hv
 obtain⟨j,hj⟩:=List.mem_iff_getElem?.1 hw
 rw[posN_at hn hi,posN_at hn hj]
 obtain⟨hi1,hi2⟩:=List.getElem?_eq_some_iff.1 hi
 obtain⟨hj1,hj2⟩:=List.getElem?_eq_some_iff.1 hj
 by_cases e:i<j
 ·exact e
 ·exfalso
  by_cases e2:i=j
  ·subst e2;rw[hi2]at hj2;omega
  ·have:=(List.pairwise_iff_getElem.1 hs) j i hj1 hi1 (by omega)
   rw[hi2,hj2]at this
   omega
structure SatB where
 p:Nat
 g:Nat
 q:Nat
 b5:Nat
 b3:Nat
 b8:Nat
 b10:Nat
 b11:Nat
 b12:Nat
 m:Nat
 m2:Nat
structure SatS (s:St) (J:SatB) (n B:Nat) (ns:List Tr) (mk:Int) (V:List (List VV)) (PZ:List (Int×Int)) (me:List (Int×Int)):Prop where
 nm:NMem s J.p J.g J.q n B ns mk 0
 o5:s J.b5=.obj 28 [.lst V .no]
 o3:s J.b3=.obj 54 [.ptr J.p 0]
 o8:s J.b8=.obj 146 [.mp J.m]
 o10:s J.b10=.obj 195 [.fn 123 [.ptr J.b5 0,.ptr J.b3 0,.ptr J.b8 0]]
 o11:s J.b11=.obj 146 [.mp J.m2]
 o12:s J.b12=.obj 195 [.fn 124 [.ptr J.b11 0,.ptr J.b3 0,.ptr J.b10 0,.ptr J.b12 0]]
 c:s J.m=.map (mpZ encI PZ)
 c2:s J.m2=.map (mpZ encI me)
 ne:J.m≠J.m2
theorem SatS.put {s u:St}{J:SatB}{n B:Nat}{ns:List Tr}{mk:Int}{V:List (List VV)}{PZ me me':List (Int×Int)}(h:SatS s J n B ns mk V PZ me)(hu:∀z,z≠J.m2→u z=s z)(hm:u J.m2=.map (mpZ encI me')):SatS u J n B ns mk V PZ me':=by
 have key:∀z,(∀es,s z≠.map es)→u z=s z:=fun z hz=>hu _ fun e=>hz _ (e ▸ h.c2)
 refine⟨⟨?_,?_⟩,?_,?_,?_,?_,?_,?_,?_,hm,h.ne⟩
 ·rw[key _ (fun es e=>by rw[h.nm.o]at e;cases e)];exact h.nm.o
 ·rw[key _ (fun es e=>by rw[h.nm.r]at e;cases e)];exact h.nm.r
 ·rw[key _ (fun es e=>by rw[h.o5]at e;cases e)];exact h.o5
 ·rw[key _ (fun es e=>by rw[h.o3]at e;cases e)];exact h.o3
 ·rw[key _ (fun es e=>by rw[h.o8]at e;cases e)];exact h.o8
 ·rw[key _ (fun es e=>by rw[h.o10]at e;cases e)];exact h.o10
 ·rw[key _ (fun es e=>by rw[h.o11]at e;cases e)];exact h.o11
 ·rw[key _ (fun es e=>by rw[h.o12]at e;cases e)];exact h.o12
 ·rw[hu _ h.ne];exact h.c
set_option maxHeartbeats 2000000 in
theorem Sat1_S {s:St}{J:SatB}{n B:Nat}{ns:List Tr}{mk:Int}{V:List (List VV)}{PZ me:List (Int×Int)}(h:SatS s J n B ns mk V PZ me)(hN:NsOk n ns){t:Tr}(ht:t∈ns)(pos:Nat→Nat)(hp:∀v,occT v t=true→lkZ (v:Int) PZ=some ((pos v:Nat):Int)) :
  SRet Tryz.prog 123 [.int .i64 (ixN ns t:Nat),.ptr J.b5 0,.ptr J.b3 0,.ptr J.b8 0] s (.int .i64 (levT pos V.length t:Nat)) s:=by
 cases t with
 |lf b=>
  have hk:ixN ns (.lf b)<2:=by rw[(hN.lf b).2];cases b<;>decide
  have h1:((ixN ns (.lf b):Nat):Int)<2:=by omega
  have o5:=h.o5
  generalize ixN ns (.lf b)=k at *
  simp only[levT]
  clear hN hk h hp ht
  refine G_enter Tryz.func123 rfl Tryz.ntmps123 rfl fun Q hQ hQe=>?_
  (repeat'(first|refine Ctl ?_|((with_reducible refine Kof.use hK ?_);clear hK hE K E)|((with_reducible refine W_cond (fun h=>?_) (fun h=>?_))<;>(try(exfalso;assumption)))|(((with_reducible refine G_region fun K E hK hE=>?_))<;>(try simp(disch:=omega) only[go_sem,seval,h1, *]))))
  all_goals(refine W_ret res123 hQ ?_)
  all_goals exact⟨_,_,Wk.refl _,Fg.refl _,rfl,rfl⟩
 |nd v l r=>
  have h1:¬ ((ixN ns (.nd v l r):Nat):Int)<2:=by have:=hN.two ht;omega
  have w1:=Nnode_S s J.p J.g J.q n B (ixN ns (.nd v l r)) ns (.nd v l r) mk 0 h.nm (ixN_get ht)
  have h2:=hp v (by simp[occT])
  have o5:=h.o5
  have o3:=h.o3
  have o8:=h.o8
  have c:=h.c
  simp only[varN,lowN,highN]at w1
  generalize ixN ns (.nd v l r)=k at *
  generalize ixN ns l=kl at *
  generalize ixN ns r=kr at *
  simp only[levT]
  clear hN h hp ht
  refine G_enter Tryz.func123 rfl Tryz.ntmps123 rfl fun Q hQ hQe=>?_
  (repeat'(first|refine Ctl ?_|((with_reducible refine Kof.use hK ?_);clear hK hE K E)|((with_reducible refine W_cond (fun h=>?_) (fun h=>?_))<;>(try(exfalso;assumption)))|(((with_reducible first|refine G_region fun K E hK hE=>?_|refine call_ret can98 (w1) ?_))<;>(try simp(disch:=omega) only[go_sem,seval,h1,h2, *]))))
  all_goals(refine W_ret res123 hQ ?_)
  all_goals exact⟨_,_,Wk.refl _,Fg.refl _,by simp[h2],rfl⟩
def askN:Tr→Nat
 |.lf _=>0
 |.nd v l h=>(askN l ||| askN h) ||| 2 ^ v
theorem askN_bit {i:Nat}:∀{t:Tr},(askN t).testBit i=occT i t
 |.lf _=>by simp[askN,occT]
 |.nd v l h=>by
  simp only[askN,occT,Nat.testBit_or,askN_bit,Nat.testBit_two_pow]
  by_cases e:v=i
  ·subst e;simp
  ·have e2:¬ i=v:=fun h=>e h.symm
   have e3:(i == v)=false:=by simpa using e2
   simp[e,e3]
theorem askN_lt {n:Nat}:∀{t:Tr} {m:Nat},OkT n m t→askN t<2 ^ n
 |.lf _,_,_=>Nat.two_pow_pos n
 |.nd v l h,m,⟨h1,h2,h3,h4,h5⟩=>Nat.or_lt_two_pow (Nat.or_lt_two_pow (askN_lt h4) (askN_lt h5)) (Nat.pow_lt_pow_right (by omega) h2)
def clrN (a v:Nat):Nat:=a ^^^ (a &&& 2 ^ v)
theorem clrN_bit {a v i:Nat}:(clrN a v).testBit i=(a.testBit i && decide (i≠v)):=by
 simp only[clrN,Nat.testBit_xor,Nat.testBit_and,Nat.testBit_two_pow]
 by_cases e:v=i
 ·subst e;cases a.testBit v<;>simp
 ·have e2:¬ i=v:=fun h=>e h.symm
  simp[e,e2]
theorem clrN_lt {a v n:Nat}(h:a<2 ^ n):clrN a v<2 ^ n:=Nat.xor_lt_two_pow h (Nat.lt_of_le_of_lt Nat.and_le_left h)
theorem clrs_bit {i:Nat}:∀{vs:List Nat} {a:Nat},(vs.foldl clrN a).testBit i=(a.testBit i && decide (i∉vs))
 |[],a=>by simp
 |v::vs,a=>by
  rw[List.foldl_cons,clrs_bit,clrN_bit]
  by_cases e:i=v
  ·subst e;simp
  ·simp[e]
theorem clrs_lt {n:Nat}:∀{vs:List Nat} {a:Nat},a<2 ^ n→vs.foldl clrN a<2 ^ n
 |[],a,h=>h
 |v::vs,a,h=>clrs_lt (vs:=vs) (clrN_lt h)
theorem clrs_ask {t:Tr}{vs:List Nat}(h:InV vs t):vs.foldl clrN (askN t)=0:=by
 apply Nat.eq_of_testBit_eq
 intro i
 rw[clrs_bit,askN_bit,Nat.zero_testBit]
 cases e:occT i t
 ·rfl
 ·simp[occ_inV h e]
theorem wrap_u64 {a:Nat}(h:a<2 ^ 64):IntKind.u64.wrap (a:Int)=(a:Int):=by
 simp only[IntKind.wrap,IntKind.bits,IntKind.signed]
 simp
 omega
theorem ofInt_u64 {a:Nat}(h:a<2 ^ 64):(BitVec.ofInt IntKind.u64.bits (a:Int)).toNat=a:=by
 rw[BitVec.toNat_ofInt]
 have e:((2 ^ IntKind.u64.bits:Nat):Int)=18446744073709551616:=by decide
 rw[e]
 omega
theorem or_u64 {a b:Nat}(ha:a<2 ^ 64)(hb:b<2 ^ 64):bOr .u64 (a:Int) (b:Int)=((a ||| b:Nat):Int):=by
 unfold bOr
 rw[BitVec.toNat_or,ofInt_u64 ha,ofInt_u64 hb]
 exact wrap_u64 (Nat.or_lt_two_pow ha hb)
theorem andNot_u64 {a v:Nat}(ha:a<2 ^ 64)(hv:v<64):bAndNot .u64 (a:Int) ((2 ^ v:Nat):Int)=((clrN a v:Nat):Int):=by
 have hp:2 ^ v<2 ^ 64:=Nat.pow_lt_pow_right (by omega) hv
 unfold bAndNot
 have e:(BitVec.ofInt IntKind.u64.bits (a:Int) &&& ~~~ BitVec.ofInt IntKind.u64.bits ((2 ^ v:Nat):Int)).toNat=clrN a v:=by
  apply Nat.eq_of_testBit_eq
  intro i
  rw[BitVec.testBit_toNat,BitVec.getLsbD_and,BitVec.getLsbD_not,← BitVec.testBit_toNat,← BitVec.testBit_toNat,ofInt_u64 ha,ofInt_u64 hp,clrN_bit,Nat.testBit_two_pow]
  by_cases hi:i<64
  ·have e3:decide (i<IntKind.u64.bits)=true:=decide_eq_true (by simpa [IntKind.bits]using hi)
   rw[e3,Bool.true_and]
   by_cases h2:v=i
   ·subst h2;simp
   ·have h3:¬ i=v:=fun h=>h2 h.symm
    simp[h2,h3]
  ·have:a.testBit i=false:=Nat.testBit_lt_two_pow (Nat.lt_of_lt_of_le ha (Nat.pow_le_pow_right (by omega) (by omega)))
   rw[this];rfl
 rw[e]
 exact wrap_u64 (clrN_lt ha)
end Go.Proofs.YtohnaepcgnbaiaaGreatDoor
