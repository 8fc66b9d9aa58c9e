/- Walks of functions that the claim reaches, and plain facts of them. Conditions: those in the statements. -/
import Derived.Test.YtohnaepcgnbaiaaGreatDoorJkQej
import Derived.Test.YtohnaepcgnbaiaaGreatDoorJkQj
import Derived.Test.YtohnaepcgnbaiaaGreatDoorJkRa
import Derived.Test.YtohnaepcgnbaiaaGreatDoorJkHej
import Derived.Test.YtohnaepcgnbaiaaGreatDoorJkRunj
set_option linter.unusedSimpArgs false
set_option linter.unusedVariables false
set_option maxRecDepth 100000
namespace Go.Proofs.YtohnaepcgnbaiaaGreatDoor
open Go.RowKit
def aj (at_:List (List Nat))(ks:List Nat):List Nat:=ks.flatMap fun k=>at_.getD k []
def aS (ks:List Nat):List (Int×Bool):=ks.map fun(k:Nat)=>((k:Int),true)
theorem fO {k:Nat}:∀{ks:List Nat},(lkZ (k:Int) (aS ks)).getD false=decide (k∈ks)
 |[]=>rfl
 |a::ks=>by
  have ih:=fO (k:=k) (ks:=ks)
  simp only[aS,List.map_cons,lkZ]at ih ⊢
  by_cases h:k=a
  ·subst h;simp
  ·rw[if_neg (by omega),ih]
   simp[h]
theorem jE {k:Nat}{ks:List Nat}(h:k∉ks):ptZ (k:Int) true (aS ks)=aS (ks++[k]):=by
 have:lkZ (k:Int) (aS ks)=none:=by
  rw[fV]
  intro h2
  simp only[aS,List.map_map,A_,Function.comp]at h2
  obtain⟨a,ha,e⟩:=h2
  have:a=k:=by omega
  exact h (this ▸ ha)
 rw[jI this]
 simp[aS]
theorem Wk.tupQ {xs:List (List VV)}{o:Own}{a:VV}:Wk (.tup [.lst xs o,a]) (.tup [.lst xs .no,a]):=
 .tup rfl fun j x y hx hy=>by
  match j with
  |0=>simp at hx hy;subst hx;subst hy;exact .lst _ _
  |1=>simp at hx hy;subst hx;subst hy;exact .refl _
  |j+2=>simp at hx
set_option maxHeartbeats 8000000 in
theorem gK {s:St}{KK:OB}{q c n B:Nat}{ns:List Tr}{ds:List (List UInt8×Nat)}{at_:List (List Nat)}(hC:CMem s KK q c n B ns ds at_)(hD:DOk n ds at_)(ks:List Nat)(ow:Own)(hks:∀k,k∈ks->k<ds.length)(hl:ks.length<=32) :
  SRet Tryz.prog 41 [.ptr c 0,.lst (ak ks) ow] s (.tup (if ks.Nodup then [.lst (ak (aj at_ ks)) .no,.int .i64 0] else [.lst [] .no,.int .i64 1])) s:=by
 have wh:=Cx s c _ _ _ _ _ ow (ks.map fun(k:Nat)=>(k:Int)) (by rw[z_];omega) hC.co
 have hany:(ks.map fun(k:Nat)=>(k:Int)).any (o9 (dx ds).length)=false:=by
  rw[fZ,List.any_eq_false]
  intro z hz
  obtain⟨k,hk,rfl⟩:=A_.1 hz
  rw[tN]
  simp[hks k hk]
 rw[hany,<- cA]at wh
 simp only[Bool.not_false]at wh
 have hco:=hC.co
 have hcf:s c≠.free:=by rw[hco];simp
 have hln:(ak ks).length=ks.length:=natsL_len
 have hat:=fun(i k:Nat) (h:ks[i]?=some k)=>aH h
 have hA2:∀k,k∈ks->(atC at_)[k]?=some [.lst (ak (at_.getD k [])) .no]/\(at_.getD k []).length<=30:=fun k hk=>by
  obtain⟨nm,sz,l,h1,h2,h3,h4,h5,h6,h7⟩:=hD.get (hks k hk)
  have e:at_.getD k []=l:=by rw[List.getD_eq_getElem?_getD,h2];rfl
  rw[e]
  exact⟨pc h2,h6⟩
 have HAT:=o_ hat
 have HA2:=o_ hA2
 obtain⟨R,hR⟩:∃R,(if ks.Nodup then [VV.lst (ak (aj at_ ks)) .no,.int .i64 0] else [.lst [] .no,.int .i64 1])=R:=⟨_,rfl⟩
 rw[hR]
 have HR:=o_ hR
 clear hC hD hks hany hat hA2 hR
 generalize hV:ak ks=V at *
 clear hV
 obtain⟨A,hAA⟩:∃A,A=atC at_:=⟨_,rfl⟩
 obtain⟨D,hDD⟩:∃D,D=dx ds:=⟨_,rfl⟩
 rw[<- hAA,<- hDD]at hco
 have HAA:=o_ hAA
 clear hAA hDD
 have hl2:¬ (ks.length:Int) > 32:=by omega
 refine am Tryz.func41 rfl Tryz.ntmps41 rfl fun Q hQ hQe=>?_
 (repeat'(first|refine Ctl ?_|((with_reducible refine k_ hK ?_);clear hK hE K E)|((with_reducible refine ah (fun h=>?_) (fun h=>?_))<;>(try(exfalso;assumption)))|((first|(with_reducible first|refine ab fun K E hK hE=>?_|refine ae GK (wh) ?_)|((with_reducible refine au (fun b hb=>?_));(try(obtain⟨_,_⟩:=nef hb hcf))))<;>(try simp(disch:=assumption) only[go_sem,seval,hln, *]))))
 obtain⟨bm,hbm⟩:∃z,z=b:=⟨_,rfl⟩
 subst hbm
 have HBM:=o_ hb
 refine bV (fun m env s'=>∃(i:Nat) (o:Own),i<=ks.length/\m+i=ks.length/\Hid ((ks.take i).Nodup/\(aj at_ (ks.take i)).length<=30 * i)/\OwnOk s o (aj at_ (ks.take i)).length/\cq o bm/\s'=(s.own o 3 1 (aj at_ (ks.take i)).length).set bm (.map (mpZ bP (aS (ks.take i))))/\env 0=.ptr c 0/\env 6=.lst (ak (aj at_ (ks.take i))) o/\env 7=.mp bm/\env 31=.lst V ow/\env 32=.int .i64 ks.length/\env 33=.int .i64 i) ks.length ?_ ?_
 ·exact⟨_,Fg.refl _,0,.full,by omega,by omega,o_ ⟨by simp,by simp[aj]⟩,rfl,trivial,rfl,ac,ac,ac,ac,ac,ac⟩
 rintro m env s' ⟨i,o,hi,hm,HN,hO,hno,rfl,e0,e6,e7,e31,e32,e33⟩
 have p2:=hO.not hcf
 by_cases h7:i<ks.length
 ·have hk:=m_ h7
  have hkm:=List.getElem_mem h7
  generalize ks[i]=k at hk hkm
  have hx:=HAT.out i k hk
  obtain⟨ha,hal⟩:=HA2.out k hkm
  rw[<- HAA.out]at ha
  have hsk:=fO (k:=k) (ks:=ks.take i)
  have htk:ks.take (i+1)=ks.take i++[k]:=by rw[List.take_add_one,hk];rfl
  by_cases hin:k∈ks.take i
  ·have hR:R=[.lst [] .no,.int .i64 1]:=by
    rw[<- HR.out,if_neg]
    intro hnd
    have h1:(ks.take (i+1)).Nodup:=hnd.sublist (List.take_sublist _ _)
    rw[htk,List.nodup_append]at h1
    exact h1.2.2 k hin k (by simp) rfl
   rw[decide_eq_true hin]at hsk
   subst hR
   clear htk hin hk hkm HR
   generalize hvv:aj at_ (ks.take i)=W at *
   generalize aS (ks.take i)=Sn at *
   (repeat'(first|refine Ctl ?_|((with_reducible refine k_ hK ?_);clear hK hE K E)|((with_reducible refine ah (fun h=>?_) (fun h=>?_))<;>(try(exfalso;assumption)))|(((with_reducible refine ab fun K E hK hE=>?_))<;>(try simp(disch:=assumption) only[go_sem,seval,hx,hsk, *]))))
   (refine aq z7 hQ ?_)
   refine⟨_,_,Wk.tupQ,?_,rfl,rfl⟩
   exact Fg.setA (Fg.own hO) HBM.out
  ·have hnd:(ks.take (i+1)).Nodup:=by
    rw[htk,List.nodup_append]
    exact⟨HN.out.1,by simp,fun a ha3 b hb3 e=>by rw[a_]at hb3;subst hb3;subst e;exact hin ha3⟩
   have hva:aj at_ (ks.take (i+1))=aj at_ (ks.take i)++at_.getD k []:=by rw[htk];simp[aj]
   have hlv:(ak (aj at_ (ks.take i))).length=(aj at_ (ks.take i)).length:=natsL_len
   have hlw:(ak (at_.getD k [])).length=(at_.getD k []).length:=natsL_len
   have hnn:ak (aj at_ (ks.take (i+1)))=ak (aj at_ (ks.take i))++ak (at_.getD k []):=by rw[hva];simp[ak]
   have hy:∀y,y∈ak (at_.getD k [])->y.length=1:=fun y hy=>by
    obtain⟨z,_,rfl⟩:=A_.1 hy
    rfl
   have hsp:=jE hin
   rw[<- htk]at hsp
   rw[decide_eq_false hin]at hsk
   have hvl:(aj at_ (ks.take (i+1))).length=(aj at_ (ks.take i)).length+(at_.getD k []).length:=by rw[hva,p_]
   have hb1:=HN.out.2
   have HF:=o_ (And.intro hnd (And.intro hvl hnn))
   clear htk hin hk hkm hnd hva hvl hnn HN
   generalize hSn:aS (ks.take (i+1))=Sn2 at *
   have HSN:=o_ hSn
   clear hSn
   generalize aS (ks.take i)=Sn at *
   generalize ak (aj at_ (ks.take i))=L1 at *
   generalize ak (at_.getD k [])=L2 at *
   generalize hq1:(aj at_ (ks.take i)).length=q1 at *
   generalize hq2:(at_.getD k []).length=q2 at *
   clear hq1 hq2
   (repeat'(first|refine Ctl ?_|((with_reducible refine k_ hK ?_);clear hK hE K E)|((with_reducible refine ah (fun h=>?_) (fun h=>?_))<;>(try(exfalso;assumption)))|((first|(with_reducible refine ab fun K E hK hE=>?_)|((with_reducible refine fC (fun o2 ho=>?_));(try simp(disch:=assumption) only[bz,bB,cZ,c6,z_,List.length_cons,List.length_nil,Nat.zero_add,hx,hsk,ha,hlv,hlw,hsp]at ho);(repeat(obtain⟨_,ho⟩:=ho))))<;>(try simp(disch:=first|assumption|omega) only[go_sem,seval,hx,hsk,ha,hlv,hlw,hsp, *]))))
   exact⟨_,Fg.refl _,m - 1,by omega,i+1,o2,by omega,by omega,o_ ⟨HF.out.1,by rw[HF.out.2.1];omega⟩,by rw[HF.out.2.1];exact ho,by assumption,by rw[HF.out.2.1,HSN.out],ac,by(rw[HF.out.2.2];((try simp(disch:=assumption) only[go_sem,seval, *])<;>rfl)),ac,ac,ac,ac⟩
 ·have hie:i=ks.length:=by omega
  have ht:ks.take i=ks:=s_ (by omega)
  rw[ht]at e6 hO HN
  have hR:R=[.lst (ak (aj at_ ks)) .no,.int .i64 0]:=by rw[<- HR.out,if_pos HN.out.1]
  subst hR
  rw[ht]
  clear ht HR HN
  generalize hq:(aj at_ ks).length=q1 at *
  generalize ak (aj at_ ks)=W at *
  generalize aS ks=Sn at *
  clear hq
  (repeat'(first|refine Ctl ?_|((with_reducible refine k_ hK ?_);clear hK hE K E)|((with_reducible refine ah (fun h=>?_) (fun h=>?_))<;>(try(exfalso;omega)))|(((with_reducible refine ab fun K E hK hE=>?_))<;>(try simp(disch:=assumption) only[go_sem,seval, *]))))
  (refine aq z7 hQ ?_)
  refine⟨_,_,Wk.tupQ,?_,rfl,rfl⟩
  exact Fg.setA (Fg.own hO) HBM.out
def iU (q:List Nat)(k:Nat):List Nat:=if k∈q then q else q++[k]
theorem el {q:List Nat}{k z:Nat}:z∈iU q k↔z∈q\/z=k:=by
 unfold iU
 split
 ·constructor
  ·exact .inl
  ·rintro(h|rfl)
   ·exact h
   ·assumption
 ·simp
theorem oC {q:List Nat}{k:Nat}(h:q.Nodup):(iU q k).Nodup:=by
 unfold iU
 split
 ·exact h
 ·rw[List.nodup_append]
  refine⟨h,by simp,fun a ha b hb=>?_⟩
  rw[a_]at hb
  subst hb
  intro e
  subst e
  contradiction
theorem lK {k:Nat}:∀{ks:List Nat},k∈ks->ptZ (k:Int) true (aS ks)=aS ks
 |[],h=>by simp at h
 |a::ks,h=>by
  simp only[aS,List.map_cons,ptZ]
  by_cases e:k=a
  ·subst e;simp
  ·rw[if_neg (by omega)]
   have:=lK (ks:=ks) (by simpa [e]using h)
   simp only[aS]at this
   rw[this]
theorem yc {k:Nat}{ks:List Nat}:ptZ (k:Int) true (aS ks)=aS (iU ks k):=by
 unfold iU
 split
 ·exact lK (by assumption)
 ·exact jE (by assumption)
def vrT:Tr->Nat
 |.lf _=>0
 |.nd v _ _=>v
structure AskB where
 p:Nat
 g:Nat
 q:Nat
 b1:Nat
 b2:Nat
 b3:Nat
 b4:Nat
 m1:Nat
 m2:Nat
structure AskS (s:St) (J:AskB) (n B:Nat) (ns:List Tr) (mk:Int) (sn vs:List Nat):Prop where
 nm:NMem s J.p J.g J.q n B ns mk 0
 o1:s J.b1=.obj 83 [.mp J.m1]
 o2:s J.b2=.obj 54 [.ptr J.p 0]
 o3:s J.b3=.obj 83 [.mp J.m2]
 o4:s J.b4=.obj 197 [.fn 186 [.ptr J.b1 0,.ptr J.b2 0,.ptr J.b3 0,.ptr J.b4 0]]
 c1:s J.m1=.map (mpZ bP (aS sn))
 c2:s J.m2=.map (mpZ bP (aS vs))
 ne:J.m1≠J.m2
structure AskI (ns:List Tr) (sn vs:List Nat) (t:Tr):Prop where
 n1:sn.Nodup
 n2:vs.Nodup
 dn:∀u,u∈aL t->ixN ns u∈sn->∀z,z∈aL u->ixN ns z∈sn/\vrT z∈vs
structure AskW (ns:List Tr) (sn vs:List Nat) (t:Tr) (sn' vs':List Nat):Prop where
 n1:sn'.Nodup
 n2:vs'.Nodup
 m1:∀k,k∈sn'↔k∈sn\/∃u,u∈aL t/\k=ixN ns u
 m2:∀v,v∈vs'↔v∈vs\/∃u,u∈aL t/\v=vrT u
theorem AskS.put1 {s:St}{J:AskB}{n B:Nat}{ns:List Tr}{mk:Int}{sn vs:List Nat}(h:AskS s J n B ns mk sn vs)(sn':List Nat):AskS (s.set J.m1 (.map (mpZ bP (aS sn')))) J n B ns mk sn' vs:=by
 have key:∀z,(∀es,s z≠.map es)->(s.set J.m1 (.map (mpZ bP (aS sn')))) z=s z:=fun z hz=>j_ _ _ fun e=>hz _ (e ▸ h.c1)
 refine⟨⟨?_,?_⟩,?_,?_,?_,?_,q_ _ _ _,?_,h.ne⟩
 ·rw[key _ (fun es e=>by rw[h.nm.o]at e;cases e)];exact h.nm.o
 ·rw[key _ (fun es e=>by rw[h.nm.r]at e;cases e)];exact h.nm.r
 ·rw[key _ (fun es e=>by rw[h.o1]at e;cases e)];exact h.o1
 ·rw[key _ (fun es e=>by rw[h.o2]at e;cases e)];exact h.o2
 ·rw[key _ (fun es e=>by rw[h.o3]at e;cases e)];exact h.o3
 ·rw[key _ (fun es e=>by rw[h.o4]at e;cases e)];exact h.o4
 ·rw[j_ _ _ (Ne.symm h.ne)];exact h.c2
theorem AskS.put2 {s:St}{J:AskB}{n B:Nat}{ns:List Tr}{mk:Int}{sn vs:List Nat}(h:AskS s J n B ns mk sn vs)(vs':List Nat):AskS (s.set J.m2 (.map (mpZ bP (aS vs')))) J n B ns mk sn vs':=by
 have key:∀z,(∀es,s z≠.map es)->(s.set J.m2 (.map (mpZ bP (aS vs')))) z=s z:=fun z hz=>j_ _ _ fun e=>hz _ (e ▸ h.c2)
 refine⟨⟨?_,?_⟩,?_,?_,?_,?_,?_,q_ _ _ _,h.ne⟩
 ·rw[key _ (fun es e=>by rw[h.nm.o]at e;cases e)];exact h.nm.o
 ·rw[key _ (fun es e=>by rw[h.nm.r]at e;cases e)];exact h.nm.r
 ·rw[key _ (fun es e=>by rw[h.o1]at e;cases e)];exact h.o1
 ·rw[key _ (fun es e=>by rw[h.o2]at e;cases e)];exact h.o2
 ·rw[key _ (fun es e=>by rw[h.o3]at e;cases e)];exact h.o3
 ·rw[key _ (fun es e=>by rw[h.o4]at e;cases e)];exact h.o4
 ·rw[j_ _ _ h.ne];exact h.c1
theorem jC:∀{t u:Tr},u∈aL t->(aL u).length<=(aL t).length
 |.lf _,u,h=>by simp[aL]at h
 |.nd v l r,u,h=>by
  simp only[aL,AT,f_]at h
  rcases h with rfl|h|h
  ·exact Nat.le_refl _
  ·have:=jC h;simp only[aL,List.length_cons,p_];omega
  ·have:=jC h;simp only[aL,List.length_cons,p_];omega
theorem sub_self {v:Nat}{l r:Tr}:.nd v l r∈aL (.nd v l r):=by simp[aL]
theorem AP {v:Nat}{l r:Tr}:.nd v l r∉aL l:=fun h=>by
 have:=jC h
 simp only[aL,List.length_cons,p_]at this;omega
theorem AM {v:Nat}{l r:Tr}:.nd v l r∉aL r:=fun h=>by
 have:=jC h
 simp only[aL,List.length_cons,p_]at this;omega
theorem cY {v:Nat}{l r u:Tr}:u∈aL (.nd v l r)↔u=.nd v l r\/u∈aL l\/u∈aL r:=by simp[aL]
theorem AskI.low {n:Nat}{ns:List Tr}{sn vs:List Nat}{v:Nat}{l r:Tr}(h:AskI ns sn vs (.nd v l r))(hN:NsOk n ns)(hm:.nd v l r∈ns):AskI ns (iU sn (ixN ns (.nd v l r))) (iU vs v) l:=by
 refine⟨oC h.n1,oC h.n2,fun u hu hs z hz=>?_⟩
 have hul:=cY.2 (.inr (.inl hu):u=.nd v l r\/_)
 rcases el.1 hs with e|e
 ·obtain⟨a,b⟩:=h.dn u hul e z hz
  exact⟨el.2 (.inl a),el.2 (.inl b)⟩
 ·have:=cw (hN.subs hm hul) hm e
  subst this
  exact absurd hu AP
theorem AskI.high {n:Nat}{ns:List Tr}{sn vs sn1 vs1:List Nat}{v:Nat}{l r:Tr}(h:AskI ns sn vs (.nd v l r))(hN:NsOk n ns)(hm:.nd v l r∈ns)
  (w:AskW ns (iU sn (ixN ns (.nd v l r))) (iU vs v) l sn1 vs1):AskI ns sn1 vs1 r:=by
 refine⟨w.n1,w.n2,fun u hu hs z hz=>?_⟩
 have hur:=cY.2 (.inr (.inr hu):u=.nd v l r\/_)
 rcases(w.m1 _).1 hs with e|⟨u2,hu2,e⟩
 ·rcases el.1 e with e|e
  ·obtain⟨a,b⟩:=h.dn u hur e z hz
   exact⟨(w.m1 _).2 (.inl (el.2 (.inl a))),(w.m2 _).2 (.inl (el.2 (.inl b)))⟩
  ·have:=cw (hN.subs hm hur) hm e
   subst this
   exact absurd hu AM
 ·have:=cw (hN.subs hm hur) (hN.subs hm (cY.2 (.inr (.inl hu2)))) e
  subst this
  exact⟨(w.m1 _).2 (.inr ⟨z,gu hu2 hz,rfl⟩),(w.m2 _).2 (.inr ⟨z,gu hu2 hz,rfl⟩)⟩
theorem AskW.all {ns:List Tr}{sn vs sn1 vs1 sn2 vs2:List Nat}{v:Nat}{l r:Tr}
  (w:AskW ns (iU sn (ixN ns (.nd v l r))) (iU vs v) l sn1 vs1) (w2:AskW ns sn1 vs1 r sn2 vs2):AskW ns sn vs (.nd v l r) sn2 vs2:=by
 refine⟨w2.n1,w2.n2,fun k=>?_,fun x=>?_⟩
 ·rw[w2.m1,w.m1,el]
  constructor
  ·rintro(((e|e)|⟨u,hu,e⟩)|⟨u,hu,e⟩)
   ·exact .inl e
   ·exact .inr ⟨_,cY.2 (.inl rfl),e⟩
   ·exact .inr ⟨u,cY.2 (.inr (.inl hu)),e⟩
   ·exact .inr ⟨u,cY.2 (.inr (.inr hu)),e⟩
  ·rintro(e|⟨u,hu,e⟩)
   ·exact .inl (.inl (.inl e))
   ·rcases cY.1 hu with rfl|hu|hu
    ·exact .inl (.inl (.inr e))
    ·exact .inl (.inr ⟨u,hu,e⟩)
    ·exact .inr ⟨u,hu,e⟩
 ·rw[w2.m2,w.m2,el]
  constructor
  ·rintro(((e|e)|⟨u,hu,e⟩)|⟨u,hu,e⟩)
   ·exact .inl e
   ·exact .inr ⟨_,cY.2 (.inl rfl),e⟩
   ·exact .inr ⟨u,cY.2 (.inr (.inl hu)),e⟩
   ·exact .inr ⟨u,cY.2 (.inr (.inr hu)),e⟩
  ·rintro(e|⟨u,hu,e⟩)
   ·exact .inl (.inl (.inl e))
   ·rcases cY.1 hu with rfl|hu|hu
    ·exact .inl (.inl (.inr e))
    ·exact .inl (.inr ⟨u,hu,e⟩)
    ·exact .inr ⟨u,hu,e⟩
theorem AskW.none {ns:List Tr}{sn vs:List Nat}{t:Tr}(h:AskI ns sn vs t)(hs:∀u,u∈aL t->ixN ns u∈sn/\vrT u∈vs):AskW ns sn vs t sn vs:=
 ⟨h.n1,h.n2,fun k=>⟨.inl,fun e=>e.elim id fun⟨u,hu,e⟩=>e ▸ (hs u hu).1⟩,fun k=>⟨.inl,fun e=>e.elim id fun⟨u,hu,e⟩=>e ▸ (hs u hu).2⟩⟩
set_option maxHeartbeats 1000000 in
theorem Cl (s:St)(p g q n B k:Nat)(ns:List Tr)(t:Tr)(mk sw:Int)(hN:NMem s p g q n B ns mk sw)(hk:ns[k]?=some t):SRet Tryz.prog 128 [.ptr p 0,.int .i64 k] s (.int .i64 0) s:=by
 have w1:=c8 s p g q n B k ns t mk sw hN hk
 obtain⟨h,_⟩:=hN
 have hpf:s p≠.free:=by rw[h];simp
 clear h hk
 generalize ((aW n t:Nat):Int)=z1 at *
 refine am Tryz.func128 rfl Tryz.ntmps128 rfl fun Q hQ hQe=>?_
 (repeat'(first|refine Ctl ?_|((with_reducible refine k_ hK ?_);clear hK hE K E)|(((with_reducible first|refine ab fun K E hK hE=>?_|refine ae ey (w1) ?_))<;>(try simp(disch:=omega) only[go_sem,seval, *]))))
 (refine aq Ak hQ ?_)
 exact⟨_,_,Wk.refl _,Fg.refl _,rfl,rfl⟩
abbrev AskA:=St×List Nat×List Nat
def AskC (s:St)(J:AskB)(n B:Nat)(ns:List Tr)(mk:Int)(sn vs:List Nat)(t:Tr):Prop:=
 SCalls Tryz.prog 186 [.int .i64 (ixN ns t:Nat),.ptr J.b1 0,.ptr J.b2 0,.ptr J.b3 0,.ptr J.b4 0] s fun w u=>∃a:AskA,w=.ret (.tup [])/\u=a.1/\AskS a.1 J n B ns mk a.2.1 a.2.2/\AskW ns sn vs t a.2.1 a.2.2/\∀z,z≠J.m1->z≠J.m2->a.1 z=s z
theorem AskC.ret {s:St}{J:AskB}{n B:Nat}{ns:List Tr}{mk:Int}{sn vs:List Nat}{t:Tr}(hA:AskS s J n B ns mk sn vs)(hW:AskW ns sn vs t sn vs)
  (h:SRet Tryz.prog 186 [.int .i64 (ixN ns t:Nat),.ptr J.b1 0,.ptr J.b2 0,.ptr J.b3 0,.ptr J.b4 0] s (.tup []) s):AskC s J n B ns mk sn vs t:=by
 refine SCalls.mono (h:=h) ?_
 rintro w u ⟨rfl,rfl⟩
 exact⟨(u,sn,vs),rfl,rfl,hA,hW,fun _ _ _=>rfl⟩
set_option maxHeartbeats 4000000 in
theorem CB {s:St}{J:AskB}{n B:Nat}{ns:List Tr}{mk:Int}{sn vs:List Nat}{b:Bool}(hA:AskS s J n B ns mk sn vs)(hN:NsOk n ns)(hI:AskI ns sn vs (.lf b)):AskC s J n B ns mk sn vs (.lf b):=by
 refine AskC.ret hA (AskW.none hI fun u hu=>by simp[aL]at hu) ?_
 have hk:ixN ns (.lf b)<2:=by rw[(hN.lf b).2];cases b<;>decide
 have h1:((ixN ns (.lf b):Nat):Int)<2:=by omega
 generalize ixN ns (.lf b)=k at *
 clear hI hN hk
 obtain⟨⟨hp,hg⟩,o1,o2,o3,o4,c1,c2,hne⟩:=hA
 obtain⟨p,g,q,b1,b2,b3,b4,m1,m2⟩:=J
 dsimp only at *
 clear hp hg o2 o3 o4 c2
 refine am Tryz.func186 rfl Tryz.ntmps186 rfl fun Q hQ hQe=>?_
 (repeat'(first|refine Ctl ?_|((with_reducible refine k_ hK ?_);clear hK hE K E)|((with_reducible refine ah (fun h=>?_) (fun h=>?_))<;>(try(exfalso;assumption)))|(((with_reducible refine ab fun K E hK hE=>?_))<;>(try simp(disch:=omega) only[go_sem,seval,h1, *]))))
 all_goals(refine aq qU hQ ?_)
 all_goals exact⟨_,_,Wk.refl _,Fg.refl _,rfl,rfl⟩
set_option maxHeartbeats 4000000 in
theorem vY {s:St}{J:AskB}{n B:Nat}{ns:List Tr}{mk:Int}{sn vs:List Nat}{v:Nat}{l r:Tr}(hA:AskS s J n B ns mk sn vs)(hN:NsOk n ns)(hI:AskI ns sn vs (.nd v l r))(hm:.nd v l r∈ns)(hs:ixN ns (.nd v l r)∈sn):AskC s J n B ns mk sn vs (.nd v l r):=by
 refine AskC.ret hA (AskW.none hI fun u hu=>hI.dn _ sub_self hs u hu) ?_
 have h1:¬ ((ixN ns (.nd v l r):Nat):Int)<2:=by have:=hN.two hm;omega
 have h2:(lkZ ((ixN ns (.nd v l r):Nat):Int) (aS sn)).getD false=true:=by rw[fO];simp[hs]
 generalize ixN ns (.nd v l r)=k at *
 clear hI hN hm hs
 obtain⟨⟨hp,hg⟩,o1,o2,o3,o4,c1,c2,hne⟩:=hA
 obtain⟨p,g,q,b1,b2,b3,b4,m1,m2⟩:=J
 dsimp only at *
 clear hp hg o2 o3 o4 c2
 refine am Tryz.func186 rfl Tryz.ntmps186 rfl fun Q hQ hQe=>?_
 (repeat'(first|refine Ctl ?_|((with_reducible refine k_ hK ?_);clear hK hE K E)|((with_reducible refine ah (fun h=>?_) (fun h=>?_))<;>(try(exfalso;assumption)))|(((with_reducible refine ab fun K E hK hE=>?_))<;>(try simp(disch:=omega) only[go_sem,seval,h1,h2, *]))))
 all_goals(refine aq qU hQ ?_)
 all_goals exact⟨_,_,Wk.refl _,Fg.refl _,rfl,rfl⟩
set_option maxHeartbeats 4000000 in
theorem CA {s:St}{J:AskB}{n B:Nat}{ns:List Tr}{mk:Int}{sn vs:List Nat}{v:Nat}{l r:Tr}(hA:AskS s J n B ns mk sn vs)(hN:NsOk n ns)(hI:AskI ns sn vs (.nd v l r))(hm:.nd v l r∈ns)(hs:ixN ns (.nd v l r)∉sn)
  (ihl:∀{s:St} {sn vs:List Nat},AskS s J n B ns mk sn vs->AskI ns sn vs l->AskC s J n B ns mk sn vs l) (ihr:∀{s:St} {sn vs:List Nat},AskS s J n B ns mk sn vs->AskI ns sn vs r->AskC s J n B ns mk sn vs r):AskC s J n B ns mk sn vs (.nd v l r):=by
 have h1:¬ ((ixN ns (.nd v l r):Nat):Int)<2:=by have:=hN.two hm;omega
 have h2:(lkZ ((ixN ns (.nd v l r):Nat):Int) (aS sn)).getD false=false:=by rw[fO];simp[hs]
 have w1:=fun(u:St) (sn' vs':List Nat) (h:AskS u J n B ns mk sn' vs')=>c8 u J.p J.g J.q n B (ixN ns (.nd v l r)) ns (.nd v l r) mk 0 h.nm (bS hm)
 have hA1:=hA.put1 (iU sn (ixN ns (.nd v l r)))
 have hA2:=hA1.put2 (iU vs v)
 have hI1:=hI.low hN hm
 have hI2:=fun(sn1 vs1:List Nat)=>hI.high (sn1:=sn1) (vs1:=vs1) hN hm
 have w2:=ihl hA2 hI1
 have w1:=w1 _ _ _ hA1
 have hfr:∀z,z≠J.m1->z≠J.m2->((s.set J.m1 (.map (mpZ bP (aS (iU sn (ixN ns (.nd v l r))))))).set J.m2 (.map (mpZ bP (aS (iU vs v))))) z=s z:=fun z h1 h2=>by rw[j_ _ _ h2,j_ _ _ h1]
 have hall:=fun(sn1 vs1 sn2 vs2:List Nat)=>AskW.all (ns:=ns) (sn:=sn) (vs:=vs) (v:=v) (l:=l) (r:=r) (sn1:=sn1) (vs1:=vs1) (sn2:=sn2) (vs2:=vs2)
 unfold AskC at w2 ihr ⊢
 simp only[aW,lowN,highN]at w1
 obtain⟨J1,hJ⟩:∃J1,J1=J:=⟨_,rfl⟩
 have HJ:=o_ hJ
 clear hJ
 have HI2:=o_ hI2
 have HFR:=o_ hfr
 have HALL:=o_ hall
 have HR:=o_ (fun(s:St) (sn vs:List Nat)=>@ihr s sn vs)
 have HA2:=o_ hA2
 clear hI hN hm hs ihl ihr hA1 hA2 hI1 hI2 hfr hall
 generalize ixN ns (.nd v l r)=k at *
 generalize ixN ns l=kl at *
 obtain⟨⟨hp,hg⟩,o1,o2,o3,o4,c1,c2,hne⟩:=hA
 have d11:J.m1≠J.b1:=fun e=>by rw[e,o1]at c1;cases c1
 have d12:J.m1≠J.b2:=fun e=>by rw[e,o2]at c1;cases c1
 have d13:J.m1≠J.b3:=fun e=>by rw[e,o3]at c1;cases c1
 have d14:J.m1≠J.b4:=fun e=>by rw[e,o4]at c1;cases c1
 have d21:J.m2≠J.b1:=fun e=>by rw[e,o1]at c2;cases c2
 have d22:J.m2≠J.b2:=fun e=>by rw[e,o2]at c2;cases c2
 have d23:J.m2≠J.b3:=fun e=>by rw[e,o3]at c2;cases c2
 have d24:J.m2≠J.b4:=fun e=>by rw[e,o4]at c2;cases c2
 have g11:=Ne.symm d11
 have g12:=Ne.symm d12
 have g13:=Ne.symm d13
 have g14:=Ne.symm d14
 have g21:=Ne.symm d21
 have g22:=Ne.symm d22
 have g23:=Ne.symm d23
 have g24:=Ne.symm d24
 have hne2:=Ne.symm hne
 clear hp hg
 refine am Tryz.func186 rfl Tryz.ntmps186 rfl fun Q hQ hQe=>?_
 (repeat'(first|refine Ctl ?_|((with_reducible refine k_ hK ?_);clear hK hE K E)|((with_reducible refine ah (fun h=>?_) (fun h=>?_))<;>(try(exfalso;assumption)))|(((with_reducible first|refine ab fun K E hK hE=>?_|refine ae ey (w1) ?_))<;>(try simp(disch:=omega) only[go_sem,seval,h1,h2,yc, *]))))
 refine ao vA w2 (fun a h=>?_)
 obtain⟨u1,sn1,vs1⟩:=a
 obtain⟨hA3,hW3,hF3⟩:=h
 dsimp only at hA3 hW3 hF3 ⊢
 have w3:=HR.out _ _ _ hA3 (HI2.out _ _ hW3)
 have q4:=hA3.o4
 have HF3:=o_ hF3
 have HW3:=o_ hW3
 clear w1 w2 o1 o2 o3 o4 c1 c2 hA3 hF3 hW3 d11 d12 d13 d14 d21 d22 d23 d24 g11 g12 g13 g14 g21 g22 g23 g24
 simp only[go_sem,seval]
 (repeat'(first|((with_reducible refine k_ hK ?_);clear hK hE K E)|(((with_reducible refine ab fun K E hK hE=>?_))<;>(try simp(disch:=omega) only[go_sem,seval, *]))))
 refine ao vA w3 (fun a h=>?_)
 obtain⟨u2,sn2,vs2⟩:=a
 obtain⟨hA4,hW4,hF4⟩:=h
 dsimp only at hA4 hW4 hF4 ⊢
 have HF4:=o_ hF4
 have HW4:=o_ hW4
 have HA4:=o_ hA4
 clear w3 q4 hA4 hF4 hW4
 simp only[go_sem,seval]
 (repeat'(((with_reducible refine k_ hK ?_);clear hK hE K E)))
 (refine d5 qU hQ ?_)
 refine⟨_,_,Wk.refl _,Fg.refl _,(u2,sn2,vs2),rfl,rfl,HA4.out,HALL.out _ _ _ _ HW3.out HW4.out,fun z h1 h2=>?_⟩
 dsimp only
 rw[HF4.out z h1 h2,HF3.out z h1 h2,HFR.out z h1 h2]
theorem rS {n B:Nat}{ns:List Tr}{mk:Int}{J:AskB}(hN:NsOk n ns):∀(t:Tr) {s:St} {sn vs:List Nat},t∈ns->AskS s J n B ns mk sn vs->AskI ns sn vs t->AskC s J n B ns mk sn vs t
 |.lf b,s,sn,vs,hm,hA,hI=>CB hA hN hI
 |.nd v l r,s,sn,vs,hm,hA,hI=>by
  by_cases hs:ixN ns (.nd v l r)∈sn
  ·exact vY hA hN hI hm hs
  ·obtain⟨hl,hr⟩:=hN.ch _ _ _ hm
   exact CA hA hN hI hm hs (fun hA hI=>rS hN l hl hA hI) (fun hA hI=>rS hN r hr hA hI)
abbrev zn:=St×Nat
set_option maxHeartbeats 1000000 in
theorem MX (s:St)(m:Nat):SCalls Tryz.prog 187 [.mp m] s fun w u=>∃a:zn,w=.ret (.fn 198 [.ptr a.2 0])/\u=a.1/\s a.2=.free/\a.1=s.set a.2 (.obj 83 [.mp m]):=by
 refine am Tryz.func187 rfl Tryz.ntmps187 rfl fun Q hQ hQe=>?_
 (repeat'(first|refine Ctl ?_|((with_reducible refine k_ hK ?_);clear hK hE K E)|((first|(with_reducible refine ab fun K E hK hE=>?_)|((with_reducible refine au (fun b hb=>?_))))<;>(try simp(disch:=omega) only[go_sem,seval, *]))))
 (refine aq Ad hQ ?_)
 exact⟨_,_,Wk.refl _,Fg.refl _,mkA b rfl ⟨hb,rfl⟩⟩
set_option maxHeartbeats 1000000 in
theorem BY (s:St)(L:List (List VV)):SCalls Tryz.prog 165 [.lst L .no] s fun w u=>∃a:zn,w=.ret (.fn 185 [.ptr a.2 0])/\u=a.1/\s a.2=.free/\a.1=s.set a.2 (.obj 28 [.lst L .no]):=by
 refine am Tryz.func165 rfl Tryz.ntmps165 rfl fun Q hQ hQe=>?_
 (repeat'(first|refine Ctl ?_|((with_reducible refine k_ hK ?_);clear hK hE K E)|((first|(with_reducible refine ab fun K E hK hE=>?_)|((with_reducible refine au (fun b hb=>?_))))<;>(try simp(disch:=omega) only[go_sem,seval, *]))))
 (refine aq Ah hQ ?_)
 exact⟨_,_,Wk.refl _,Fg.refl _,mkA b rfl ⟨hb,rfl⟩⟩
def dh (v:Nat):Tr->Bool
 |.lf _=>false
 |.nd w l r=>(v == w) || dh v l || dh v r
theorem jN {v:Nat}:∀{t:Tr},dh v t=true↔∃u,u∈aL t/\v=vrT u
 |.lf b=>by simp[dh,aL]
 |.nd w l r=>by
  simp only[dh,Bool.or_eq_true,beq_iff_eq,jN (t:=l),jN (t:=r)]
  constructor
  ·rintro((e|⟨u,hu,e⟩)|⟨u,hu,e⟩)
   ·exact⟨_,sub_self,e⟩
   ·exact⟨u,cY.2 (.inr (.inl hu)),e⟩
   ·exact⟨u,cY.2 (.inr (.inr hu)),e⟩
  ·rintro⟨u,hu,e⟩
   rcases cY.1 hu with rfl|hu|hu
   ·exact .inl (.inl e)
   ·exact .inl (.inr ⟨u,hu,e⟩)
   ·exact .inr ⟨u,hu,e⟩
theorem mF {n v:Nat}:∀{t:Tr} {m:Nat},OkT n m t->dh v t=true->v<n
 |.lf b,m,_,h=>by simp[dh]at h
 |.nd w l r,m,⟨h1,h2,h3,h4,h5⟩,h=>by
  simp only[dh,Bool.or_eq_true,beq_iff_eq]at h
  rcases h with (rfl|h)|h
  ·exact h2
  ·exact mF h4 h
  ·exact mF h5 h
def kD (n:Nat)(t:Tr):List Nat:=(List.range n).filter fun v=>dh v t
theorem qJ {n v:Nat}{t:Tr}(h:OkT n 0 t):v∈kD n t↔dh v t=true:=by
 simp only[kD,List.mem_filter,List.mem_range]
 exact⟨fun h=>h.2,fun e=>⟨mF h e,e⟩⟩
theorem sE {l:List Int}(h:l.Pairwise (·<=·)):cR l=l:=List.mergeSort_of_pairwise (h.imp fun h=>by simpa using h)
theorem pY {l S:List Nat}(hl:l.Nodup)(hS:S.Pairwise (·<·))(h:∀v,v∈l↔v∈S):cR (l.map fun(k:Nat)=>(k:Int))=S.map fun(k:Nat)=>(k:Int):=by
 have hp:l.Perm S:=(List.perm_ext_iff_of_nodup hl (hS.imp fun h=>by omega)).2 h
 rw[ii (hp.map _)]
 apply sE
 rw[List.pairwise_map]
 exact hS.imp fun h=>by omega
theorem pd (n:Nat)(t:Tr):(kD n t).Pairwise (·<·):=List.Pairwise.filter _ List.pairwise_lt_range
theorem vL {n:Nat}{t:Tr}(h:OkT n 0 t){vs:List Nat}(hn:vs.Nodup)(hm:∀v,v∈vs↔v∈([]:List Nat)\/∃u,u∈aL t/\v=vrT u):cK (cR ((aS vs).map (·.1)))=.lst (ak (kD n t)) .no:=by
 have e:(aS vs).map (·.1)=vs.map fun(k:Nat)=>(k:Int):=by simp[aS,Function.comp]
 rw[e,pY hn (pd n t) fun v=>by rw[hm,qJ h,jN];simp,cA]
 rfl
set_option maxHeartbeats 8000000 in
theorem FA {s:St}{p g q n B:Nat}{ns:List Tr}{mk:Int}(hM:NMem s p g q n B ns mk 0)(hN:NsOk n ns)(hn:n<=256){t:Tr}(ht:t∈ns) :
  SRet Tryz.prog 166 [.ptr p 0,.int .i64 (ixN ns t:Nat)] s (.tup [.lst (ak (kD n t)) .no,.int .i64 0]) s:=by
 have w1:=fun(u:St) (h:NMem u p g q n B ns mk 0)=>Cl u p g q n B (ixN ns t) ns t mk 0 h (bS ht)
 have hpf:s p≠.free:=by rw[hM.o];simp
 have hgf:s g≠.free:=by rw[hM.r];simp
 have hoff:∀(x:Nat) (c:Cell),s x=.free->NMem (s.set x c) p g q n B ns mk 0:=fun x c hx=>⟨by rw[j_ _ _ (nef hx hpf).1];exact hM.o,by rw[j_ _ _ (nef hx hgf).1];exact hM.r⟩
 have w3:=fun(u:St) (J:AskB) (h:AskS u J n B ns mk [] [])=>rS hN t ht h ⟨List.nodup_nil,List.nodup_nil,fun _ _ h=>by simp at h⟩
 have hso:=fun vs h1 h2=>vL (n:=n) (t:=t) (hN.ok t ht) (vs:=vs) h1 h2
 have hbd:=fun v (h:∃u,u∈aL t/\v=vrT u)=>mF (hN.ok t ht) (jN.2 h)
 unfold AskC at w3
 have HM:=o_ hM
 have W1:=o_ w1
 have W3:=o_ w3
 have HSO:=o_ hso
 have HBD:=o_ hbd
 have HOFF:=o_ hoff
 clear hM hN ht w1 w3 hso hbd hoff
 generalize ixN ns t=k at *
 refine am Tryz.func166 rfl Tryz.ntmps166 rfl fun Q hQ hQe=>?_
 (repeat'(first|refine Ctl ?_|((with_reducible refine k_ hK ?_);clear hK hE K E)|((first|(with_reducible refine ab fun K E hK hE=>?_)|((with_reducible refine au (fun b hb=>?_))))<;>(try simp(disch:=omega) only[go_sem,seval, *]))))
 have w1:=W1.out _ (HOFF.out b (.obj 54 [.ptr p 0]) hb)
 refine ae BN w1 ?_
 clear w1
 obtain⟨b2,hb2⟩:∃z,z=b:=⟨_,rfl⟩
 subst hb2
 simp only[go_sem,seval]
 (repeat'(first|(with_reducible refine aR 7 ?_)|refine Ctl ?_|((with_reducible refine k_ hK ?_);clear hK hE K E)|((with_reducible refine ah (fun h=>?_) (fun h=>?_))<;>(try(exfalso;assumption)))|((first|(with_reducible refine ab fun K E hK hE=>?_)|((with_reducible refine au (fun b hb=>?_));(repeat(obtain⟨_,hb⟩:=hb))))<;>(try simp(disch:=first|assumption|omega) only[go_sem,seval, *]))))
 unfold bC
 refine bE fun S hS=>?_
 rename_i hb2 m1 _ _ hm1 m2 _ _ _ _ hm2 b7 _ _ _ _ _ _ hb7 b8 _ _ _ _ _ _ _ _ hb8 _ _ _ _ _ _ _ _ _ _
 have hSf:∀z,s z≠.free->S z=s z:=fun z hz=>by
  rw[hS,j_ _ _ (nef hb hz).1,j_ _ _ (nef hb8 hz).1,j_ _ _ (nef hb7 hz).1,j_ _ _ (nef hm2 hz).1,j_ _ _ (nef hm1 hz).1,j_ _ _ (nef hb2 hz).1]
 have hA:AskS S ⟨p,g,q,b7,b2,b8,b,m1,m2⟩ n B ns mk [] []:=by
  refine⟨⟨by rw[hSf _ hpf];exact HM.out.o,by rw[hSf _ hgf];exact HM.out.r⟩,?_,?_,?_,?_,?_,?_,?_⟩
  ·rw[hS];simp only[St.set,if_true,if_false, *]
  ·rw[hS];simp only[St.set,if_true,if_false, *]
  ·rw[hS];simp only[St.set,if_true,if_false, *]
  ·rw[hS];simp only[St.set,if_true,if_false, *]
  ·rw[hS];simp only[St.set,if_true,if_false, *];rfl
  ·rw[hS];simp only[St.set,if_true,if_false, *];rfl
  ·intro e;dsimp only at e;rename_i h1 _;exact absurd e.symm (by assumption)
 have w3:=W3.out _ _ hA
 have q4:=hA.o4
 dsimp only at w3 q4
 have HSF:=o_ hSf
 have HM1:=o_ hm1
 have HM2:=o_ hm2
 clear hS hSf hA hb hb2 hb7 hb8 hm1 hm2
 (repeat'((((with_reducible refine ab fun K E hK hE=>?_))<;>(try simp(disch:=omega) only[go_sem,seval, *]))))
 refine ao vA w3 (fun a h=>?_)
 obtain⟨u1,sn1,vs1⟩:=a
 obtain⟨hA3,hW3,hF3⟩:=h
 dsimp only at hA3 hW3 hF3 ⊢
 have o3:=hA3.o3
 have c2:=hA3.c2
 dsimp only at o3 c2
 have wk:=MX u1 m2
 have HF3:=o_ hF3
 have HW3:=o_ hW3
 have h3f:u1 m2≠.free:=by rw[c2];simp
 clear w3 q4 hA3 hF3 hW3
 simp only[go_sem,seval]
 (repeat'(first|refine Ctl ?_|((with_reducible refine k_ hK ?_);clear hK hE K E)|(((with_reducible refine ab fun K E hK hE=>?_))<;>(try simp(disch:=omega) only[go_sem,seval, *]))))
 refine ao Mb wk (fun a h=>?_)
 obtain⟨v,X⟩:=a
 obtain⟨hX,hv⟩:=h
 dsimp only at hX hv ⊢
 have hvl:vs1.length<=256:=by
  have h1:=ed (X:=vs1) (Y:=List.range n) HW3.out.n2 fun x hx=>by
   rcases(HW3.out.m2 x).1 hx with e|e
   ·simp at e
   ·exact List.mem_range.2 (HBD.out _ e)
  rw[List.length_range]at h1
  omega
 have w5:=yZ v X m2 83 (aS vs1) (by simp[aS];omega) (fun z hz=>by
  obtain⟨k,hk,rfl⟩:=A_.1 hz
  have hkn:k<n:=by
   rcases(HW3.out.m2 k).1 hk with e|e
   ·simp at e
   ·exact HBD.out _ e
  dsimp only
  omega) (by rw[hv,q_]) (by rw[hv,j_ _ _ (nef hX h3f).1];exact c2)
 rw[HSO.out _ HW3.out.n2 HW3.out.m2]at w5
 have hfin:Fg v s:=fun z=>by
  by_cases hz:s z=.free
  ·exact .inl hz
  ·refine .inr ?_
   have h1:z≠m1:=fun e=>hz (e ▸ HM1.out)
   have h2:z≠m2:=fun e=>hz (e ▸ HM2.out)
   have h4:=HF3.out z h1 h2
   have h5:=HSF.out z hz
   have h6:u1 z≠.free:=by rw[h4,h5];exact hz
   rw[hv,j_ _ _ (nef hX h6).1,h4,h5]
 have HFIN:=o_ hfin
 clear wk o3 c2 hX hv hvl hfin
 simp only[go_sem,seval]
 (repeat'(first|refine Ctl ?_|((with_reducible refine k_ hK ?_);clear hK hE K E)|(((with_reducible refine ae BM (w5) ?_))<;>(try simp(disch:=omega) only[go_sem,seval, *]))))
 (refine aq Ag hQ ?_)
 exact⟨_,_,Wk.refl _,HFIN.out,rfl,rfl⟩
def dR (n:Nat)(vs:List Nat):List Nat:=(List.range n).filter fun v=>decide (v∈vs)
theorem kU (n:Nat)(vs:List Nat):(dR n vs).Pairwise (·<·):=List.Pairwise.filter _ List.pairwise_lt_range
theorem fN {n:Nat}{vs:List Nat}(h:∀v,v∈vs->v<n){v:Nat}:v∈dR n vs↔v∈vs:=by
 simp only[dR,List.mem_filter,List.mem_range,decide_eq_true_eq]
 exact⟨fun h=>h.2,fun e=>⟨h v e,e⟩⟩
theorem je (n:Nat)(vs:List Nat):(dR n vs).Nodup:=(kU n vs).imp fun h=>by omega
theorem kV {n:Nat}{vs:List Nat}(hn:vs.Nodup)(h:∀v,v∈vs->v<n):vs.Perm (dR n vs):=(List.perm_ext_iff_of_nodup hn (je n vs)).2 fun v=>(fN h).symm
def eF (S:List Nat):List (Int×Int):=S.zipIdx.map fun p=>((p.1:Int),(p.2:Int))
theorem yl {S:List Nat}{i:Nat}(h:i<S.length):eF (S.take (i+1))=eF (S.take i)++[((S[i]:Int),(i:Int))]:=by
 rw[List.take_add_one,m_ h]
 simp only[eF,Option.toList,List.zipIdx_append,List.map_append]
 simp[Nat.min_eq_left (Nat.le_of_lt h)]
theorem AB {S:List Nat}:(eF S).length=S.length:=by simp[eF]
theorem sL {S:List Nat}:(eF S).map (·.1)=S.map fun(k:Nat)=>(k:Int):=by
 simp only[eF,List.map_map]
 apply List.ext_getElem
 ·simp
 ·intro i h1 h2;simp
theorem p7 {S:List Nat}{v:Nat}:lkZ (v:Int) (eF S)=none↔v∉S:=by
 rw[fV,sL]
 simp only[A_]
 constructor
 ·intro h hv;exact h ⟨v,hv,rfl⟩
 ·rintro h ⟨a,ha,e⟩
  have:a=v:=by omega
  exact h (this ▸ ha)
theorem xe {α:Type}{k:Int}{x:α}:∀{l:List (Int×α)},(l.map (·.1)).Nodup->(k,x)∈l->lkZ k l=some x
 |[],_,h=>by simp at h
 |(a,y)::l,hn,h=>by
  simp only[List.map_cons,List.nodup_cons]at hn
  simp only[lkZ]
  rcases AT.1 h with e|e
  ·injection e with e1 e2;rw[if_pos e1,e2]
  ·rw[if_neg,xe hn.2 e]
   rintro rfl
   exact hn.1 (A_.2 ⟨_,e,rfl⟩)
theorem w8 {S:List Nat}{i v:Nat}(hn:S.Nodup)(h:S[i]?=some v):lkZ (v:Int) (eF S)=some (i:Int):=by
 refine xe ?_ ?_
 ·rw[sL,List.nodup_iff_pairwise_ne,List.pairwise_map]
  exact hn.imp fun h e=>h (by omega)
 ·refine A_.2 ⟨(v,i),?_,rfl⟩
  rw[List.mem_zipIdx_iff_getElem?]
  exact h
set_option maxHeartbeats 8000000 in
theorem ze {s:St}{p g q n B:Nat}{ns:List Tr}{mk:Int}(hM:NMem s p g q n B ns mk 0)(hN:NsOk n ns)(hn:n<=256)(hBs:ns.length<=1048576){t:Tr}(ht:t∈ns){vs:List Nat}(hv:vs.Nodup)(hlt:∀v,v∈vs->v<n)(hoc:∀v,dh v t=true->v∈vs) :
  SCalls Tryz.prog 122 [.ptr p 0,.int .i64 (ixN ns t:Nat),.lst (ak vs) .no] s fun w u=>∃a:zn,w=.ret (.tup [.mp a.2,.int .i64 0])/\u=a.1/\s a.2=.free/\a.1=s.set a.2 (.map (mpZ cL (eF (dR n vs)))):=by
 have wl:=vT s p g q n B ns mk 0 hM
 have hlen2:=hN.len
 have hz:¬ ((ns.length:Nat):Int)=0:=by omega
 have hpf:s p≠.free:=by rw[hM.o];simp
 have hgf:s g≠.free:=by rw[hM.r];simp
 have wv:=BY s (ak vs)
 have hS:cK (cR (vs.map fun(k:Nat)=>(k:Int)))=.lst (ak (dR n vs)) .no:=by
  rw[pY hv (kU n vs) fun v=>(fN hlt).symm,cA]
  rfl
 have hvl:vs.length<=256:=by
  have:=ed (X:=vs) (Y:=List.range n) hv fun x hx=>List.mem_range.2 (hlt x hx)
  rw[List.length_range]at this
  omega
 have hSl:(dR n vs).length=vs.length:=(kV hv hlt).length_eq.symm
 have hSn:=je n vs
 have hSm:∀v,v∈dR n vs->v<n:=fun v h=>hlt v ((fN hlt).1 h)
 have hoc2:∀v,v∈kD n t->v∈dR n vs:=fun v h=>(fN hlt).2 (hoc v ((qJ (hN.ok t ht)).1 h))
 have hoff:∀(u:St),(∀z,s z≠.free->u z=s z)->NMem u p g q n B ns mk 0:=fun u hu=>⟨by rw[hu p hpf];exact hM.o,by rw[hu g hgf];exact hM.r⟩
 have wa:=fun(u:St) (h:NMem u p g q n B ns mk 0)=>FA h hN hn ht
 have wn:=fun(u:St) (h:NMem u p g q n B ns mk 0)=>kI u p g q n B ns mk 0 h
 have ws:=fun(u:St) (X:Nat) (h:u X=.obj 28 [.lst (ak vs) .no])=>yY u X 28 (vs.map fun(k:Nat)=>(k:Int)) .no (by simp;omega) (by rw[<- cA];exact h)
 rw[hS]at ws
 have haskl:(kD n t).length<=256:=by
  have:=ed (X:=kD n t) (Y:=List.range n) ((pd n t).imp fun h=>by omega) fun x hx=>List.mem_range.2 (by
   have:=(List.mem_filter.1 hx).1
   exact List.mem_range.1 this)
  rw[List.length_range]at this
  omega
 have hln:(ak vs).length=vs.length:=natsL_len
 have HOFF:=o_ hoff
 have WA:=o_ wa
 have WN:=o_ wn
 have WS:=o_ ws
 have HSN:=o_ hSn
 have HSM:=o_ hSm
 have HOC:=o_ hoc2
 clear hM hN ht hv hlt hoc hS hSn hSm hoc2 hoff wa wn ws hlen2 hgf
 generalize ak vs=V at *
 generalize dR n vs=S at *
 generalize kD n t=T at *
 generalize ixN ns t=k at *
 refine am Tryz.func122 rfl Tryz.ntmps122 rfl fun Q hQ hQe=>?_
 (repeat'(first|refine Ctl ?_|((with_reducible refine k_ hK ?_);clear hK hE K E)|((with_reducible refine ah (fun h=>?_) (fun h=>?_))<;>(try(exfalso;assumption)))|(((with_reducible first|refine ab fun K E hK hE=>?_|refine ae BG (wl) ?_))<;>(try simp(disch:=omega) only[go_sem,seval,hz, *]))))
 refine ao Me wv (fun a h=>?_)
 obtain⟨v,X⟩:=a
 obtain⟨hX,hv⟩:=h
 dsimp only at hX hv ⊢
 have w5:=WS.out v X (by rw[hv,q_])
 have hvs:∀z,s z≠.free->v z=s z:=fun z hz=>by rw[hv,j_ _ _ (nef hX hz).1]
 have HVS:=o_ hvs
 have hpv:v p≠.free:=by rw[hvs p hpf];exact hpf
 clear wl wv hz hX hv hvs
 simp only[go_sem,seval]
 (repeat'(first|refine Ctl ?_|((with_reducible refine k_ hK ?_);clear hK hE K E)|((first|(with_reducible first|refine ab fun K E hK hE=>?_|refine ae BM (w5) ?_)|((with_reducible refine au (fun b hb=>?_));(try(obtain⟨_,_⟩:=nef hb hpv))))<;>(try simp(disch:=omega) only[go_sem,seval, *]))))
 obtain⟨bm,hbm⟩:∃z,z=b:=⟨_,rfl⟩
 subst hbm
 have hsb:s bm=.free:=by
  by_cases h:s bm=.free
  ·exact h
  ·exact absurd ((HVS.out bm h).symm.trans hb) h
 have hfg:Fg v s:=fun z=>by
  by_cases h:s z=.free
  ·exact .inl h
  ·exact .inr (HVS.out z h).symm
 have hfg2:=hfg.set bm (.map [])
 have hpb:¬ p=bm:=fun e=>hpf (e ▸ hsb)
 have hbp:¬ bm=p:=fun e=>hpb e.symm
 have HSB:=o_ hsb
 have wm:∀c:Cell,NMem (s.set bm c) p g q n B ns mk 0:=fun c=>HOFF.out _ fun z hz=>j_ _ _ (nef hsb hz).1
 have WM:=o_ wm
 have HFG:=o_ hfg2
 have hnl:(ak S).length=S.length:=natsL_len
 have hnl2:(ak T).length=T.length:=natsL_len
 have hat:=fun(i k:Nat) (h:S[i]?=some k)=>aH h
 have hat2:=fun(i k:Nat) (h:T[i]?=some k)=>aH h
 generalize hNS:ak S=SL at *
 generalize hNT:ak T=TL at *
 have HAT:=o_ hat
 have HAT2:=o_ hat2
 clear hNS hNT hat hat2 hb hsb hfg hfg2 wm HVS hpv w5
 refine bV (fun m env s'=>∃(i:Nat),i<=S.length/\m+i=S.length/\s'=s.set bm (.map (mpZ cL (eF (S.take i))))/\env 0=.ptr p 0/\env 1=.int .i64 k/\env 2=.lst V .no/\env 8=.lst SL .no/\env 9=.mp bm/\env 25=.lst SL .no/\env 26=.int .i64 S.length/\env 27=.int .i64 i) S.length ?_ ?_
 ·exact⟨_,HFG.out,0,by omega,by omega,rfl,ac,ac,ac,ac,ac,ac,ac,ac⟩
 clear HFG
 rintro m env s' ⟨i,hi,hmi,rfl,e0,e1,e2,e8,e9,e25,e26,e27⟩
 by_cases h2:i<S.length
 ·have hx:=HAT.out i _ (m_ h2)
  have hlt:=HSM.out _ (List.getElem_mem h2)
  have hpt:ptZ ((S[i]:Nat):Int) ((i:Nat):Int) (eF (S.take i))=eF (S.take (i+1)):=by
   rw[jI,yl h2]
   rw[p7]
   intro h3
   obtain⟨j,hj,e⟩:=List.mem_take_iff_getElem.1 h3
   exact(List.pairwise_iff_getElem.1 HSN.out) j i (by omega) h2 (by omega) e
  have wn:=WN.out _ (WM.out (.map (mpZ cL (eF (S.take (i+1))))))
  have q1:¬ ((S[i]:Nat):Int)<0:=by omega
  have q2:¬ ((S[i]:Nat):Int)>=(n:Int):=by omega
  have q3:¬ (n:Int)<=((S[i]:Nat):Int):=by omega
  generalize S[i]=x at *
  generalize eF (S.take i)=P0 at *
  obtain⟨P1,hP1⟩:∃P1,P1=eF (S.take (i+1)):=⟨_,rfl⟩
  rw[<- hP1]at hpt wn
  have HP1:=o_ hP1
  clear hP1
  (repeat'(first|refine Ctl ?_|((with_reducible refine k_ hK ?_);clear hK hE K E)|((with_reducible refine ah (fun h=>?_) (fun h=>?_))<;>(try(exfalso;first|assumption|omega)))|(((with_reducible first|refine ab fun K E hK hE=>?_|refine ae oX (wn) ?_))<;>(try simp(disch:=omega) only[go_sem,seval,hx,hpt,q1,q2,q3, *]))))
  all_goals exact⟨_,Fg.refl _,m - 1,by omega,i+1,by omega,by omega,by rw[<- HP1.out],ac,ac,ac,ac,ac,ac,ac,ac⟩
 ·obtain rfl:i=S.length:=by omega
  rw[b_]
  have wa:=WA.out _ (WM.out (.map (mpZ cL (eF S))))
  have hpl:=AB (S:=S)
  obtain⟨P1,hP1⟩:∃P1,P1=eF S:=⟨_,rfl⟩
  rw[<- hP1]at wa hpl ⊢
  have HP1:=o_ hP1
  clear hP1 h2 hmi
  have hlv:((P1.length:Nat):Int)=((V.length:Nat):Int):=by omega
  (repeat'(first|refine Ctl ?_|((with_reducible refine k_ hK ?_);clear hK hE K E)|((with_reducible refine ah (fun h=>?_) (fun h=>?_))<;>(try(exfalso;first|assumption|omega)))|(((with_reducible first|refine ab fun K E hK hE=>?_|refine ae Md (wa) ?_))<;>(try simp(disch:=omega) only[go_sem,seval,hlv,hnl2, *]))))
  refine bV (fun m env s'=>∃(i:Nat),i<=T.length/\m+i=T.length/\s'=s.set bm (.map (mpZ cL P1))/\env 9=.mp bm/\env 58=.lst TL .no/\env 59=.int .i64 T.length/\env 60=.int .i64 i) T.length ?_ ?_
  ·exact⟨_,Fg.refl _,0,by omega,by omega,rfl,ac,ac,ac,ac⟩
  clear e0 e1 e2 e8 e9 e25 e26 e27 wa
  rintro m env s' ⟨i,hi,hmi,rfl,e9,e58,e59,e60⟩
  by_cases h2:i<T.length
  ·have hx:=HAT2.out i _ (m_ h2)
   have hin:=HOC.out _ (List.getElem_mem h2)
   have hlk:(lkZ ((T[i]:Nat):Int) P1).isSome=true:=by
    rw[Option.isSome_iff_ne_none,HP1.out]
    intro e
    exact p7.1 e hin
   clear hin
   generalize T[i]=x at *
   (repeat'(first|refine Ctl ?_|((with_reducible refine k_ hK ?_);clear hK hE K E)|((with_reducible refine ah (fun h=>?_) (fun h=>?_))<;>(try(exfalso;assumption)))|(((with_reducible refine ab fun K E hK hE=>?_))<;>(try simp(disch:=omega) only[go_sem,seval,hx,hlk, *]))))
   all_goals exact⟨_,Fg.refl _,m - 1,by omega,i+1,by omega,by omega,rfl,ac,ac,ac,ac⟩
  ·(repeat'(first|refine Ctl ?_|((with_reducible refine k_ hK ?_);clear hK hE K E)|((with_reducible refine ah (fun h=>?_) (fun h=>?_))<;>(try(exfalso;assumption)))|(((with_reducible refine ab fun K E hK hE=>?_))<;>(try simp(disch:=omega) only[go_sem,seval, *]))))
   all_goals(refine aq Al hQ ?_)
   exact⟨_,_,Wk.refl _,Fg.refl _,mkA bm rfl ⟨HSB.out,by rw[<- HP1.out]⟩⟩
def PosT (pos:Nat->Nat)(W:Nat):Tr->Prop
 |.lf _=>True
 |.nd v l h=>pos v<W/\pos v+1<=dm pos W l/\pos v+1<=dm pos W h/\PosT pos W l/\PosT pos W h
theorem PosT.lev {pos:Nat->Nat}{W:Nat}:∀{t:Tr},PosT pos W t->dm pos W t<=W
 |.lf _,_=>Nat.le_refl _
 |.nd v l h,⟨h1,_⟩=>Nat.le_of_lt h1
theorem PosT.cnt {pos:Nat->Nat}{W:Nat}:∀{t:Tr},PosT pos W t->dG pos W t<=2 ^ (W - dm pos W t)
 |.lf b,_=>by simp only[dG,dm,Nat.sub_self,Nat.pow_zero];split<;>omega
 |.nd v l h,⟨h1,h2,h3,h4,h5⟩=>by
  have key:∀x,PosT pos W x->pos v+1<=dm pos W x->dG pos W x<=2 ^ (W - dm pos W x)->dG pos W x * 2 ^ (dm pos W x - (pos v+1))<=2 ^ (W - (pos v+1)):=fun x hx hl hc=>by
   have e:W - (pos v+1)=(W - dm pos W x)+(dm pos W x - (pos v+1)):=by have:=hx.lev;omega
   rw[e,Nat.pow_add]
   exact Nat.mul_le_mul_right _ hc
  have a:=key l h4 h2 h4.cnt
  have b:=key h h5 h3 h5.cnt
  simp only[dG,dm]
  have e:W - pos v=(W - (pos v+1))+1:=by omega
  rw[e,Nat.pow_succ,Nat.mul_two]
  exact Nat.add_le_add a b
theorem rf {n:Nat}{pos:Nat->Nat}{W:Nat}{S:List Nat}(hS:∀v w,v∈S->w∈S->v<w->pos v<pos w)(hW:∀v,v∈S->pos v<W):∀{t:Tr} {m:Nat},OkT n m t->InV S t->PosT pos W t
 |.lf _,_,_,_=>trivial
 |.nd v l h,m,⟨h1,h2,h3,h4,h5⟩,⟨i1,i2,i3⟩=>by
  have key:∀x,OkT n (v+1) x->InV S x->pos v+1<=dm pos W x:=fun x hx hi=>by
   cases x with
   |lf b=>exact hW v i1
   |nd w a b=>exact hS v w i1 hi.1 hx.1
  exact⟨hW v i1,key l h4 i2,key h h5 i3,rf hS hW h4 i2,rf hS hW h5 i3⟩
theorem mK {S:List Nat}:∀{t:Tr},(∀v,dh v t=true->v∈S)->InV S t
 |.lf _,_=>trivial
 |.nd v l r,h=>⟨h v (by simp[dh]),mK fun w hw=>h w (by simp[dh,hw]),mK fun w hw=>h w (by simp[dh,hw])⟩
theorem mE {S:List Nat}{v:Nat}:∀{t:Tr},InV S t->dh v t=true->v∈S
 |.lf _,_,h=>by simp[dh]at h
 |.nd w l r,⟨h1,h2,h3⟩,h=>by
  simp only[dh,Bool.or_eq_true,beq_iff_eq]at h
  rcases h with (rfl|h)|h
  ·exact h1
  ·exact mE h2 h
  ·exact mE h3 h
def jk (S:List Nat)(v:Nat):Nat:=((lkZ (v:Int) (eF S)).getD 0).toNat
theorem jJ {S:List Nat}{i v:Nat}(hn:S.Nodup)(h:S[i]?=some v):jk S v=i:=by
 unfold jk
 rw[w8 hn h]
 simp
theorem D5 {S:List Nat}{v:Nat}(hn:S.Nodup)(h:v∈S):lkZ (v:Int) (eF S)=some ((jk S v:Nat):Int):=by
 obtain⟨i,hi⟩:=d_.1 h
 rw[jJ hn hi,w8 hn hi]
theorem D4 {S:List Nat}{v:Nat}(hn:S.Nodup)(h:v∈S):jk S v<S.length:=by
 obtain⟨i,hi⟩:=d_.1 h
 rw[jJ hn hi]
 exact(x_.1 hi).1
theorem ym {S:List Nat}(hs:S.Pairwise (·<·)){v w:Nat}(hv:v∈S)(hw:w∈S)(h:v<w):jk S v<jk S w:=by
 have hn:S.Nodup:=hs.imp fun h=>by omega
 obtain⟨i,hi⟩:=d_.1 hv
 obtain⟨j,hj⟩:=d_.1 hw
 rw[jJ hn hi,jJ hn hj]
 obtain⟨hi1,hi2⟩:=x_.1 hi
 obtain⟨hj1,hj2⟩:=x_.1 hj
 by_cases e:i<j
 ·exact e
 ·exfalso
  by_cases e2:i=j
  ·subst e2;rw[hi2]at hj2;omega
  ·have:=(List.pairwise_iff_getElem.1 hs) j i hj1 hi1 (by omega)
   rw[hi2,hj2]at this
   omega
structure SatB where
 p:Nat
 g:Nat
 q:Nat
 b5:Nat
 b3:Nat
 b8:Nat
 b10:Nat
 b11:Nat
 b12:Nat
 m:Nat
 m2:Nat
structure SatS (s:St) (J:SatB) (n B:Nat) (ns:List Tr) (mk:Int) (V:List (List VV)) (PZ:List (Int×Int)) (me:List (Int×Int)):Prop where
 nm:NMem s J.p J.g J.q n B ns mk 0
 o5:s J.b5=.obj 28 [.lst V .no]
 o3:s J.b3=.obj 54 [.ptr J.p 0]
 o8:s J.b8=.obj 146 [.mp J.m]
 o10:s J.b10=.obj 195 [.fn 123 [.ptr J.b5 0,.ptr J.b3 0,.ptr J.b8 0]]
 o11:s J.b11=.obj 146 [.mp J.m2]
 o12:s J.b12=.obj 195 [.fn 124 [.ptr J.b11 0,.ptr J.b3 0,.ptr J.b10 0,.ptr J.b12 0]]
 c:s J.m=.map (mpZ cL PZ)
 c2:s J.m2=.map (mpZ cL me)
 ne:J.m≠J.m2
theorem SatS.put {s u:St}{J:SatB}{n B:Nat}{ns:List Tr}{mk:Int}{V:List (List VV)}{PZ me me':List (Int×Int)}(h:SatS s J n B ns mk V PZ me)(hu:∀z,z≠J.m2->u z=s z)(hm:u J.m2=.map (mpZ cL me')):SatS u J n B ns mk V PZ me':=by
 have key:∀z,(∀es,s z≠.map es)->u z=s z:=fun z hz=>hu _ fun e=>hz _ (e ▸ h.c2)
 refine⟨⟨?_,?_⟩,?_,?_,?_,?_,?_,?_,?_,hm,h.ne⟩
 ·rw[key _ (fun es e=>by rw[h.nm.o]at e;cases e)];exact h.nm.o
 ·rw[key _ (fun es e=>by rw[h.nm.r]at e;cases e)];exact h.nm.r
 ·rw[key _ (fun es e=>by rw[h.o5]at e;cases e)];exact h.o5
 ·rw[key _ (fun es e=>by rw[h.o3]at e;cases e)];exact h.o3
 ·rw[key _ (fun es e=>by rw[h.o8]at e;cases e)];exact h.o8
 ·rw[key _ (fun es e=>by rw[h.o10]at e;cases e)];exact h.o10
 ·rw[key _ (fun es e=>by rw[h.o11]at e;cases e)];exact h.o11
 ·rw[key _ (fun es e=>by rw[h.o12]at e;cases e)];exact h.o12
 ·rw[hu _ h.ne];exact h.c
set_option maxHeartbeats 2000000 in
theorem rL {s:St}{J:SatB}{n B:Nat}{ns:List Tr}{mk:Int}{V:List (List VV)}{PZ me:List (Int×Int)}(h:SatS s J n B ns mk V PZ me)(hN:NsOk n ns){t:Tr}(ht:t∈ns)(pos:Nat->Nat)(hp:∀v,dh v t=true->lkZ (v:Int) PZ=some ((pos v:Nat):Int)) :
  SRet Tryz.prog 123 [.int .i64 (ixN ns t:Nat),.ptr J.b5 0,.ptr J.b3 0,.ptr J.b8 0] s (.int .i64 (dm pos V.length t:Nat)) s:=by
 cases t with
 |lf b=>
  have hk:ixN ns (.lf b)<2:=by rw[(hN.lf b).2];cases b<;>decide
  have h1:((ixN ns (.lf b):Nat):Int)<2:=by omega
  have o5:=h.o5
  generalize ixN ns (.lf b)=k at *
  simp only[dm]
  clear hN hk h hp ht
  refine am Tryz.func123 rfl Tryz.ntmps123 rfl fun Q hQ hQe=>?_
  (repeat'(first|refine Ctl ?_|((with_reducible refine k_ hK ?_);clear hK hE K E)|((with_reducible refine ah (fun h=>?_) (fun h=>?_))<;>(try(exfalso;assumption)))|(((with_reducible refine ab fun K E hK hE=>?_))<;>(try simp(disch:=omega) only[go_sem,seval,h1, *]))))
  all_goals(refine aq uE hQ ?_)
  all_goals exact⟨_,_,Wk.refl _,Fg.refl _,rfl,rfl⟩
 |nd v l r=>
  have h1:¬ ((ixN ns (.nd v l r):Nat):Int)<2:=by have:=hN.two ht;omega
  have w1:=c8 s J.p J.g J.q n B (ixN ns (.nd v l r)) ns (.nd v l r) mk 0 h.nm (bS ht)
  have h2:=hp v (by simp[dh])
  have o5:=h.o5
  have o3:=h.o3
  have o8:=h.o8
  have c:=h.c
  simp only[aW,lowN,highN]at w1
  generalize ixN ns (.nd v l r)=k at *
  generalize ixN ns l=kl at *
  generalize ixN ns r=kr at *
  simp only[dm]
  clear hN h hp ht
  refine am Tryz.func123 rfl Tryz.ntmps123 rfl fun Q hQ hQe=>?_
  (repeat'(first|refine Ctl ?_|((with_reducible refine k_ hK ?_);clear hK hE K E)|((with_reducible refine ah (fun h=>?_) (fun h=>?_))<;>(try(exfalso;assumption)))|(((with_reducible first|refine ab fun K E hK hE=>?_|refine ae ey (w1) ?_))<;>(try simp(disch:=omega) only[go_sem,seval,h1,h2, *]))))
  all_goals(refine aq uE hQ ?_)
  all_goals exact⟨_,_,Wk.refl _,Fg.refl _,by simp[h2],rfl⟩
def cM:Tr->Nat
 |.lf _=>0
 |.nd v l h=>(cM l ||| cM h) ||| 2 ^ v
theorem tP {i:Nat}:∀{t:Tr},(cM t).testBit i=dh i t
 |.lf _=>by simp[cM,dh]
 |.nd v l h=>by
  simp only[cM,dh,Nat.testBit_or,tP,Nat.testBit_two_pow]
  by_cases e:v=i
  ·subst e;simp
  ·have e2:¬ i=v:=fun h=>e h.symm
   have e3:(i == v)=false:=by simpa using e2
   simp[e,e3]
theorem kE {n:Nat}:∀{t:Tr} {m:Nat},OkT n m t->cM t<2 ^ n
 |.lf _,_,_=>Nat.two_pow_pos n
 |.nd v l h,m,⟨h1,h2,h3,h4,h5⟩=>Nat.or_lt_two_pow (Nat.or_lt_two_pow (kE h4) (kE h5)) (Nat.pow_lt_pow_right (by omega) h2)
def fF (a v:Nat):Nat:=a ^^^ (a &&& 2 ^ v)
theorem tI {a v i:Nat}:(fF a v).testBit i=(a.testBit i && decide (i≠v)):=by
 simp only[fF,Nat.testBit_xor,Nat.testBit_and,Nat.testBit_two_pow]
 by_cases e:v=i
 ·subst e;cases a.testBit v<;>simp
 ·have e2:¬ i=v:=fun h=>e h.symm
  simp[e,e2]
theorem xD {a v n:Nat}(h:a<2 ^ n):fF a v<2 ^ n:=Nat.xor_lt_two_pow h (Nat.lt_of_le_of_lt Nat.and_le_left h)
theorem tH {i:Nat}:∀{vs:List Nat} {a:Nat},(vs.foldl fF a).testBit i=(a.testBit i && decide (i∉vs))
 |[],a=>by simp
 |v::vs,a=>by
  rw[List.foldl_cons,tH,tI]
  by_cases e:i=v
  ·subst e;simp
  ·simp[e]
theorem xC {n:Nat}:∀{vs:List Nat} {a:Nat},a<2 ^ n->vs.foldl fF a<2 ^ n
 |[],a,h=>h
 |v::vs,a,h=>xC (vs:=vs) (xD h)
theorem By {t:Tr}{vs:List Nat}(h:InV vs t):vs.foldl fF (cM t)=0:=by
 apply Nat.eq_of_testBit_eq
 intro i
 rw[tH,tP,Nat.zero_testBit]
 cases e:dh i t
 ·rfl
 ·simp[mE h e]
theorem mR {a:Nat}(h:a<2 ^ 64):IntKind.u64.wrap (a:Int)=(a:Int):=by
 simp only[IntKind.wrap,IntKind.bits,IntKind.signed]
 simp
 omega
theorem iJ {a:Nat}(h:a<2 ^ 64):(BitVec.ofInt IntKind.u64.bits (a:Int)).toNat=a:=by
 rw[BitVec.toNat_ofInt]
 have e:((2 ^ IntKind.u64.bits:Nat):Int)=18446744073709551616:=by decide
 rw[e]
 omega
theorem Lq {a b:Nat}(ha:a<2 ^ 64)(hb:b<2 ^ 64):bOr .u64 (a:Int) (b:Int)=((a ||| b:Nat):Int):=by
 unfold bOr
 rw[BitVec.toNat_or,iJ ha,iJ hb]
 exact mR (Nat.or_lt_two_pow ha hb)
theorem vO {a v:Nat}(ha:a<2 ^ 64)(hv:v<64):iO .u64 (a:Int) ((2 ^ v:Nat):Int)=((fF a v:Nat):Int):=by
 have hp:2 ^ v<2 ^ 64:=Nat.pow_lt_pow_right (by omega) hv
 unfold iO
 have e:(BitVec.ofInt IntKind.u64.bits (a:Int) &&& ~~~ BitVec.ofInt IntKind.u64.bits ((2 ^ v:Nat):Int)).toNat=fF a v:=by
  apply Nat.eq_of_testBit_eq
  intro i
  rw[BitVec.testBit_toNat,BitVec.getLsbD_and,BitVec.getLsbD_not,<- BitVec.testBit_toNat,<- BitVec.testBit_toNat,iJ ha,iJ hp,tI,Nat.testBit_two_pow]
  by_cases hi:i<64
  ·have e3:decide (i<IntKind.u64.bits)=true:=decide_eq_true (by simpa [IntKind.bits]using hi)
   rw[e3,Bool.true_and]
   by_cases h2:v=i
   ·subst h2;simp
   ·have h3:¬ i=v:=fun h=>h2 h.symm
    simp[h2,h3]
  ·have:a.testBit i=false:=Nat.testBit_lt_two_pow (Nat.lt_of_lt_of_le ha (Nat.pow_le_pow_right (by omega) (by omega)))
   rw[this];rfl
 rw[e]
 exact mR (xD ha)
end Go.Proofs.YtohnaepcgnbaiaaGreatDoor
