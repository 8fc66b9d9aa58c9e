/- Walks. Conditions: in the statements. -/
import Derived.Test.YtohnaepcgnbaiaaGreatDoorJlQej
import Derived.Test.YtohnaepcgnbaiaaGreatDoorJlRa
set_option maxHeartbeats 32000000
set_option linter.unusedSimpArgs false
set_option linter.unusedVariables false
set_option maxRecDepth 100000
namespace Go.Proofs.YtohnaepcgnbaiaaGreatDoor
open Go.RowKit
def aj (at_:TU)(ks:TW):TW:=ks.flatMap fun k=>at_.getD k []
def aS (ks:TW):List (Int×Bool):=ks.map fun(k:Nat)=>((k:Int),true)
theorem fO {k:Nat}:∀{ks:TW},(lkZ (k:Int) (aS ks)).getD false=decide (k∈ks)
 |[]=>rfl
 |a::ks=>by
  have ih:=fO (k:=k) (ks:=ks)
  simp only[aS,List.map_cons,lkZ]at ih ⊢
  by_cases h:k=a
  ·subst h;simp
  ·rw[if_neg (by omega),ih]
   simp[h]
theorem jE {k:Nat}{ks:TW}(h:k∉ks):ptZ (k:Int) true (aS ks)=aS (ks++[k]):=by
 have:lkZ (k:Int) (aS ks)=none:=by
  rw[fV]
  intro h2
  simp only[aS,List.map_map,A_,Function.comp]at h2
  obtain⟨a,ha,e⟩:=h2
  have:a=k:=by omega
  exact h (this ▸ ha)
 rw[jI this]
 simp[aS]
theorem Wk.tupQ {xs:Ta}{o:Own}{a:VV}:Wk (.tup [.lst xs o,a]) (.tup [.lst xs .no,a]):=
 .tup rfl fun j x y hx hy=>by
  match j with
  |0=>simp at hx hy;subst hx;subst hy;exact .lst _ _
  |1=>simp at hx hy;subst hx;subst hy;exact .refl _
  |j+2=>simp at hx
theorem gK {s:St}{KK:OB}{q c n B:Nat}{ns:Td}{ds:TN}{at_:TU}(hC:CMem s KK q c n B ns ds at_)(hD:DOk n ds at_)(ks:TW)(ow:Own)(hks:∀k,k∈ks->k<ds.length)(hl:ks.length<=32) :
  SRet Tryz.prog 41 [.ptr c 0,.lst (ak ks) ow] s (.tup (if ks.Nodup then [.lst (ak (aj at_ ks)) .no,.int .i64 0] else [.lst [] .no,.int .i64 1])) s:=by
 have wh:=Cx s c _ _ _ _ _ ow (ks.map fun(k:Nat)=>(k:Int)) (by rw[z_];omega) hC.co
 have hany:(ks.map fun(k:Nat)=>(k:Int)).any (o9 (dx ds).length)=false:=by
  rw[fZ,List.any_eq_false]
  intro z hz
  obtain⟨k,hk,rfl⟩:=A_.1 hz
  rw[tN]
  simp[hks k hk]
 rw[hany,<- cA]at wh
 simp only[Bool.not_false]at wh
 have hco:=hC.co
 have hcf:s c≠.free:=by rw[hco];simp
 have hln:(ak ks).length=ks.length:=natsL_len
 have hat:=fun(i k:Nat) (h:ks[i]?=some k)=>aH h
 have hA2:∀k,k∈ks->(atC at_)[k]?=some [.lst (ak (at_.getD k [])) .no]/\(at_.getD k []).length<=30:=fun k hk=>by
  obtain⟨nm,sz,l,h1,h2,h3,h4,h5,h6,h7⟩:=hD.get (hks k hk)
  have e:at_.getD k []=l:=by rw[List.getD_eq_getElem?_getD,h2];rfl
  rw[e]
  exact⟨pc h2,h6⟩
 have HAT:=o_ hat
 have HA2:=o_ hA2
 obtain⟨R,hR⟩:∃R,(if ks.Nodup then [VV.lst (ak (aj at_ ks)) .no,.int .i64 0] else [.lst [] .no,.int .i64 1])=R:=⟨_,rfl⟩
 rw[hR]
 have HR:=o_ hR
 clear hC hD hks hany hat hA2 hR
 generalize hV:ak ks=V at *
 clear hV
 obtain⟨A,hAA⟩:∃A,A=atC at_:=⟨_,rfl⟩
 obtain⟨D,hDD⟩:∃D,D=dx ds:=⟨_,rfl⟩
 rw[<- hAA,<- hDD]at hco
 have HAA:=o_ hAA
 clear hAA hDD
 have hl2:¬ (ks.length:Int) > 32:=by omega
 refine am Tryz.func41 rfl Tryz.ntmps41 rfl fun Q hQ hQe=>?_
 (repeat'(first|refine Ctl ?_|((with_reducible refine k_ hK ?_);clear hK hE K E)|((with_reducible refine bZ (fun h=>?_) (fun h=>?_))<;>(try(exfalso;assumption)))|((first|(with_reducible first|refine ab fun K E hK hE=>?_|refine ae GK (wh) ?_)|((with_reducible refine au (fun b hb=>?_));(try(obtain⟨_,_⟩:=nef hb hcf))))<;>(try simp(disch:=assumption) only[go_sem,seval,hln, *]))))
 obtain⟨bm,hbm⟩:∃z,z=b:=⟨_,rfl⟩
 subst hbm
 have HBM:=o_ hb
 refine bV (fun m env s'=>∃(i:Nat) (o:Own),i<=ks.length/\m+i=ks.length/\Hid ((ks.take i).Nodup/\(aj at_ (ks.take i)).length<=30 * i)/\OwnOk s o (aj at_ (ks.take i)).length/\cq o bm/\s'=(s.own o 3 1 (aj at_ (ks.take i)).length).set bm (.map (mpZ bP (aS (ks.take i))))/\env 0=.ptr c 0/\env 6=.lst (ak (aj at_ (ks.take i))) o/\env 7=.mp bm/\env 31=.lst V ow/\env 32=.int .i64 ks.length/\env 33=.int .i64 i) ks.length ?_ ?_
 ·exact⟨_,Fg.refl _,0,.full,by omega,by omega,o_ ⟨by simp,by simp[aj]⟩,rfl,trivial,rfl,ac,ac,ac,ac,ac,ac⟩
 rintro m env s' ⟨i,o,hi,hm,HN,hO,hno,rfl,e0,e6,e7,e31,e32,e33⟩
 have p2:=hO.not hcf
 by_cases h7:i<ks.length
 ·have hk:=m_ h7
  have hkm:=List.getElem_mem h7
  generalize ks[i]=k at hk hkm
  have hx:=HAT.out i k hk
  obtain⟨ha,hal⟩:=HA2.out k hkm
  rw[<- HAA.out]at ha
  have hsk:=fO (k:=k) (ks:=ks.take i)
  have htk:ks.take (i+1)=ks.take i++[k]:=by rw[List.take_add_one,hk];rfl
  by_cases hin:k∈ks.take i
  ·have hR:R=[.lst [] .no,.int .i64 1]:=by
    rw[<- HR.out,if_neg]
    intro hnd
    have h1:(ks.take (i+1)).Nodup:=hnd.sublist (List.take_sublist _ _)
    rw[htk,List.nodup_append]at h1
    exact h1.2.2 k hin k (by simp) rfl
   rw[decide_eq_true hin]at hsk
   subst hR
   clear htk hin hk hkm HR
   generalize hvv:aj at_ (ks.take i)=W at *
   generalize aS (ks.take i)=Sn at *
   (repeat'(first|refine Ctl ?_|((with_reducible refine k_ hK ?_);clear hK hE K E)|((with_reducible refine bZ (fun h=>?_) (fun h=>?_))<;>(try(exfalso;assumption)))|(((with_reducible refine ab fun K E hK hE=>?_))<;>(try simp(disch:=assumption) only[go_sem,seval,hx,hsk, *]))))
   (refine aq z7 hQ ?_)
   refine⟨_,_,Wk.tupQ,?_,rfl,rfl⟩
   exact Fg.setA (Fg.own hO) HBM.out
  ·have hnd:(ks.take (i+1)).Nodup:=by
    rw[htk,List.nodup_append]
    exact⟨HN.out.1,by simp,fun a ha3 b hb3 e=>by rw[a_]at hb3;subst hb3;subst e;exact hin ha3⟩
   have hva:aj at_ (ks.take (i+1))=aj at_ (ks.take i)++at_.getD k []:=by rw[htk];simp[aj]
   have hlv:(ak (aj at_ (ks.take i))).length=(aj at_ (ks.take i)).length:=natsL_len
   have hlw:(ak (at_.getD k [])).length=(at_.getD k []).length:=natsL_len
   have hnn:ak (aj at_ (ks.take (i+1)))=ak (aj at_ (ks.take i))++ak (at_.getD k []):=by rw[hva];simp[ak]
   have hy:∀y,y∈ak (at_.getD k [])->y.length=1:=fun y hy=>by
    obtain⟨z,_,rfl⟩:=A_.1 hy
    rfl
   have hsp:=jE hin
   rw[<- htk]at hsp
   rw[decide_eq_false hin]at hsk
   have hvl:(aj at_ (ks.take (i+1))).length=(aj at_ (ks.take i)).length+(at_.getD k []).length:=by rw[hva,p_]
   have hb1:=HN.out.2
   have HF:=o_ (And.intro hnd (And.intro hvl hnn))
   clear htk hin hk hkm hnd hva hvl hnn HN
   generalize hSn:aS (ks.take (i+1))=Sn2 at *
   have HSN:=o_ hSn
   clear hSn
   generalize aS (ks.take i)=Sn at *
   generalize ak (aj at_ (ks.take i))=L1 at *
   generalize ak (at_.getD k [])=L2 at *
   generalize hq1:(aj at_ (ks.take i)).length=q1 at *
   generalize hq2:(at_.getD k []).length=q2 at *
   clear hq1 hq2
   (repeat'(first|refine Ctl ?_|((with_reducible refine k_ hK ?_);clear hK hE K E)|((with_reducible refine bZ (fun h=>?_) (fun h=>?_))<;>(try(exfalso;assumption)))|((first|(with_reducible refine ab fun K E hK hE=>?_)|((with_reducible refine fC (fun o2 ho=>?_));(try simp(disch:=assumption) only[bz,bB,cZ,c6,z_,List.length_cons,List.length_nil,Nat.zero_add,hx,hsk,ha,hlv,hlw,hsp]at ho);(repeat(obtain⟨_,ho⟩:=ho))))<;>(try simp(disch:=first|assumption|omega) only[go_sem,seval,hx,hsk,ha,hlv,hlw,hsp, *]))))
   exact⟨_,Fg.refl _,m - 1,by omega,i+1,o2,by omega,by omega,o_ ⟨HF.out.1,by rw[HF.out.2.1];omega⟩,by rw[HF.out.2.1];exact ho,‹_›,by rw[HF.out.2.1,HSN.out],ac,by(rw[HF.out.2.2];((try simp(disch:=assumption) only[go_sem,seval, *])<;>rfl)),ac,ac,ac,ac⟩
 ·have hie:i=ks.length:=by omega
  have ht:ks.take i=ks:=s_ (by omega)
  rw[ht]at e6 hO HN
  have hR:R=[.lst (ak (aj at_ ks)) .no,.int .i64 0]:=by rw[<- HR.out,if_pos HN.out.1]
  subst hR
  rw[ht]
  clear ht HR HN
  generalize hq:(aj at_ ks).length=q1 at *
  generalize ak (aj at_ ks)=W at *
  generalize aS ks=Sn at *
  clear hq
  (repeat'(first|refine Ctl ?_|((with_reducible refine k_ hK ?_);clear hK hE K E)|((with_reducible refine bZ (fun h=>?_) (fun h=>?_))<;>(try(exfalso;omega)))|(((with_reducible refine ab fun K E hK hE=>?_))<;>(try simp(disch:=assumption) only[go_sem,seval, *]))))
  (refine aq z7 hQ ?_)
  refine⟨_,_,Wk.tupQ,?_,rfl,rfl⟩
  exact Fg.setA (Fg.own hO) HBM.out
def iU (q:TW)(k:Nat):TW:=if k∈q then q else q++[k]
theorem el {q:TW}{k z:Nat}:z∈iU q k↔z∈q\/z=k:=by
 unfold iU
 split
 ·constructor
  ·exact .inl
  ·rintro(h|rfl)
   ·exact h
   ·assumption
 ·simp
theorem oC {q:TW}{k:Nat}(h:q.Nodup):(iU q k).Nodup:=by
 unfold iU
 split
 ·exact h
 ·rw[List.nodup_append]
  refine⟨h,by simp,fun a ha b hb=>?_⟩
  rw[a_]at hb
  subst hb
  intro e
  subst e
  contradiction
theorem lK {k:Nat}:∀{ks:TW},k∈ks->ptZ (k:Int) true (aS ks)=aS ks
 |[],h=>by simp at h
 |a::ks,h=>by
  simp only[aS,List.map_cons,ptZ]
  by_cases e:k=a
  ·subst e;simp
  ·rw[if_neg (by omega)]
   have:=lK (ks:=ks) (by simpa [e]using h)
   simp only[aS]at this
   rw[this]
theorem yc {k:Nat}{ks:TW}:ptZ (k:Int) true (aS ks)=aS (iU ks k):=by
 unfold iU
 split
 ·exact lK (‹_›)
 ·exact jE (‹_›)
def vrT:Tr->Nat
 |.lf _=>0
 |.nd v _ _=>v
structure AskB where
 p:Nat
 g:Nat
 q:Nat
 b1:Nat
 b2:Nat
 b3:Nat
 b4:Nat
 m1:Nat
 m2:Nat
structure AskS (s:St) (J:AskB) (n B:Nat) (ns:Td) (mk:Int) (sn vs:TW):Prop where
 nm:NMem s J.p J.g J.q n B ns mk 0
 o1:s J.b1=.obj 83 [.mp J.m1]
 o2:s J.b2=.obj 54 [.ptr J.p 0]
 o3:s J.b3=.obj 83 [.mp J.m2]
 o4:s J.b4=.obj 197 [.fn 186 [.ptr J.b1 0,.ptr J.b2 0,.ptr J.b3 0,.ptr J.b4 0]]
 c1:s J.m1=.map (mpZ bP (aS sn))
 c2:s J.m2=.map (mpZ bP (aS vs))
 ne:J.m1≠J.m2
structure AskI (ns:Td) (sn vs:TW) (t:Tr):Prop where
 n1:sn.Nodup
 n2:vs.Nodup
 dn:∀u,u∈aL t->ixN ns u∈sn->∀z,z∈aL u->ixN ns z∈sn/\vrT z∈vs
structure AskW (ns:Td) (sn vs:TW) (t:Tr) (sn' vs':TW):Prop where
 n1:sn'.Nodup
 n2:vs'.Nodup
 m1:∀k,k∈sn'↔k∈sn\/∃u,u∈aL t/\k=ixN ns u
 m2:∀v,v∈vs'↔v∈vs\/∃u,u∈aL t/\v=vrT u
theorem AskS.put1 {s:St}{J:AskB}{n B:Nat}{ns:Td}{mk:Int}{sn vs:TW}(h:AskS s J n B ns mk sn vs)(sn':TW):AskS (s.set J.m1 (.map (mpZ bP (aS sn')))) J n B ns mk sn' vs:=by
 have key:∀z,(∀es,s z≠.map es)->(s.set J.m1 (.map (mpZ bP (aS sn')))) z=s z:=fun z hz=>j_ _ _ fun e=>hz _ (e ▸ h.c1)
 refine⟨⟨?_,?_⟩,?_,?_,?_,?_,q_ _ _ _,?_,h.ne⟩
 ·rw[key _ (fun es e=>by rw[h.nm.o]at e;cases e)];exact h.nm.o
 ·rw[key _ (fun es e=>by rw[h.nm.r]at e;cases e)];exact h.nm.r
 ·rw[key _ (fun es e=>by rw[h.o1]at e;cases e)];exact h.o1
 ·rw[key _ (fun es e=>by rw[h.o2]at e;cases e)];exact h.o2
 ·rw[key _ (fun es e=>by rw[h.o3]at e;cases e)];exact h.o3
 ·rw[key _ (fun es e=>by rw[h.o4]at e;cases e)];exact h.o4
 ·rw[j_ _ _ (Ne.symm h.ne)];exact h.c2
theorem AskS.put2 {s:St}{J:AskB}{n B:Nat}{ns:Td}{mk:Int}{sn vs:TW}(h:AskS s J n B ns mk sn vs)(vs':TW):AskS (s.set J.m2 (.map (mpZ bP (aS vs')))) J n B ns mk sn vs':=by
 have key:∀z,(∀es,s z≠.map es)->(s.set J.m2 (.map (mpZ bP (aS vs')))) z=s z:=fun z hz=>j_ _ _ fun e=>hz _ (e ▸ h.c2)
 refine⟨⟨?_,?_⟩,?_,?_,?_,?_,?_,q_ _ _ _,h.ne⟩
 ·rw[key _ (fun es e=>by rw[h.nm.o]at e;cases e)];exact h.nm.o
 ·rw[key _ (fun es e=>by rw[h.nm.r]at e;cases e)];exact h.nm.r
 ·rw[key _ (fun es e=>by rw[h.o1]at e;cases e)];exact h.o1
 ·rw[key _ (fun es e=>by rw[h.o2]at e;cases e)];exact h.o2
 ·rw[key _ (fun es e=>by rw[h.o3]at e;cases e)];exact h.o3
 ·rw[key _ (fun es e=>by rw[h.o4]at e;cases e)];exact h.o4
 ·rw[j_ _ _ h.ne];exact h.c1
theorem jC:∀{t u:Tr},u∈aL t->(aL u).length<=(aL t).length
 |.lf _,u,h=>by simp[aL]at h
 |.nd v l r,u,h=>by
  simp only[aL,AT,f_]at h
  rcases h with rfl|h|h
  ·exact Nat.le_refl _
  ·have:=jC h;simp only[aL,List.length_cons,p_];omega
  ·have:=jC h;simp only[aL,List.length_cons,p_];omega
theorem sub_self {v:Nat}{l r:Tr}:.nd v l r∈aL (.nd v l r):=by simp[aL]
theorem AP {v:Nat}{l r:Tr}:.nd v l r∉aL l:=fun h=>by
 have:=jC h
 simp only[aL,List.length_cons,p_]at this;omega
theorem AM {v:Nat}{l r:Tr}:.nd v l r∉aL r:=fun h=>by
 have:=jC h
 simp only[aL,List.length_cons,p_]at this;omega
theorem cY {v:Nat}{l r u:Tr}:u∈aL (.nd v l r)↔u=.nd v l r\/u∈aL l\/u∈aL r:=by simp[aL]
theorem AskI.low {n:Nat}{ns:Td}{sn vs:TW}{v:Nat}{l r:Tr}(h:AskI ns sn vs (.nd v l r))(hN:NsOk n ns)(hm:.nd v l r∈ns):AskI ns (iU sn (ixN ns (.nd v l r))) (iU vs v) l:=by
 refine⟨oC h.n1,oC h.n2,fun u hu hs z hz=>?_⟩
 have hul:=cY.2 (.inr (.inl hu):u=.nd v l r\/_)
 rcases el.1 hs with e|e
 ·obtain⟨a,b⟩:=h.dn u hul e z hz
  exact⟨el.2 (.inl a),el.2 (.inl b)⟩
 ·have:=cw (hN.subs hm hul) hm e
  subst this
  exact absurd hu AP
theorem AskI.high {n:Nat}{ns:Td}{sn vs sn1 vs1:TW}{v:Nat}{l r:Tr}(h:AskI ns sn vs (.nd v l r))(hN:NsOk n ns)(hm:.nd v l r∈ns)
  (w:AskW ns (iU sn (ixN ns (.nd v l r))) (iU vs v) l sn1 vs1):AskI ns sn1 vs1 r:=by
 refine⟨w.n1,w.n2,fun u hu hs z hz=>?_⟩
 have hur:=cY.2 (.inr (.inr hu):u=.nd v l r\/_)
 rcases(w.m1 _).1 hs with e|⟨u2,hu2,e⟩
 ·rcases el.1 e with e|e
  ·obtain⟨a,b⟩:=h.dn u hur e z hz
   exact⟨(w.m1 _).2 (.inl (el.2 (.inl a))),(w.m2 _).2 (.inl (el.2 (.inl b)))⟩
  ·have:=cw (hN.subs hm hur) hm e
   subst this
   exact absurd hu AM
 ·have:=cw (hN.subs hm hur) (hN.subs hm (cY.2 (.inr (.inl hu2)))) e
  subst this
  exact⟨(w.m1 _).2 (.inr ⟨z,gu hu2 hz,rfl⟩),(w.m2 _).2 (.inr ⟨z,gu hu2 hz,rfl⟩)⟩
theorem AskW.all {ns:Td}{sn vs sn1 vs1 sn2 vs2:TW}{v:Nat}{l r:Tr}
  (w:AskW ns (iU sn (ixN ns (.nd v l r))) (iU vs v) l sn1 vs1) (w2:AskW ns sn1 vs1 r sn2 vs2):AskW ns sn vs (.nd v l r) sn2 vs2:=by
 refine⟨w2.n1,w2.n2,fun k=>?_,fun x=>?_⟩
 ·rw[w2.m1,w.m1,el]
  constructor
  ·rintro(((e|e)|⟨u,hu,e⟩)|⟨u,hu,e⟩)
   ·exact .inl e
   ·exact .inr ⟨_,cY.2 (.inl rfl),e⟩
   ·exact .inr ⟨u,cY.2 (.inr (.inl hu)),e⟩
   ·exact .inr ⟨u,cY.2 (.inr (.inr hu)),e⟩
  ·rintro(e|⟨u,hu,e⟩)
   ·exact .inl (.inl (.inl e))
   ·rcases cY.1 hu with rfl|hu|hu
    ·exact .inl (.inl (.inr e))
    ·exact .inl (.inr ⟨u,hu,e⟩)
    ·exact .inr ⟨u,hu,e⟩
 ·rw[w2.m2,w.m2,el]
  constructor
  ·rintro(((e|e)|⟨u,hu,e⟩)|⟨u,hu,e⟩)
   ·exact .inl e
   ·exact .inr ⟨_,cY.2 (.inl rfl),e⟩
   ·exact .inr ⟨u,cY.2 (.inr (.inl hu)),e⟩
   ·exact .inr ⟨u,cY.2 (.inr (.inr hu)),e⟩
  ·rintro(e|⟨u,hu,e⟩)
   ·exact .inl (.inl (.inl e))
   ·rcases cY.1 hu with rfl|hu|hu
    ·exact .inl (.inl (.inr e))
    ·exact .inl (.inr ⟨u,hu,e⟩)
    ·exact .inr ⟨u,hu,e⟩
theorem AskW.none {ns:Td}{sn vs:TW}{t:Tr}(h:AskI ns sn vs t)(hs:∀u,u∈aL t->ixN ns u∈sn/\vrT u∈vs):AskW ns sn vs t sn vs:=
 ⟨h.n1,h.n2,fun k=>⟨.inl,fun e=>e.elim id fun⟨u,hu,e⟩=>e ▸ (hs u hu).1⟩,fun k=>⟨.inl,fun e=>e.elim id fun⟨u,hu,e⟩=>e ▸ (hs u hu).2⟩⟩
theorem Cl (s:St)(p g q n B k:Nat)(ns:Td)(t:Tr)(mk sw:Int)(hN:NMem s p g q n B ns mk sw)(hk:ns[k]?=some t):SRet Tryz.prog 128 [.ptr p 0,.int .i64 k] s (.int .i64 0) s:=by
 have w1:=c8 s p g q n B k ns t mk sw hN hk
 obtain⟨h,_⟩:=hN
 have hpf:s p≠.free:=by rw[h];simp
 clear h hk
 generalize ((aW n t:Nat):Int)=z1 at *
 refine am Tryz.func128 rfl Tryz.ntmps128 rfl fun Q hQ hQe=>?_
 (repeat'(first|refine Ctl ?_|((with_reducible refine k_ hK ?_);clear hK hE K E)|(((with_reducible first|refine ab fun K E hK hE=>?_|refine ae ey (w1) ?_))<;>(try simp(disch:=omega) only[go_sem,seval, *]))))
 (refine aq Ak hQ ?_)
 exact⟨_,_,Wk.refl _,Fg.refl _,rfl,rfl⟩
abbrev AskA:=St×TW×TW
def AskC (s:St)(J:AskB)(n B:Nat)(ns:Td)(mk:Int)(sn vs:TW)(t:Tr):Prop:=
 SCalls Tryz.prog 186 [.int .i64 (ixN ns t:Nat),.ptr J.b1 0,.ptr J.b2 0,.ptr J.b3 0,.ptr J.b4 0] s fun w u=>∃a:AskA,w=.ret (.tup [])/\u=a.1/\AskS a.1 J n B ns mk a.2.1 a.2.2/\AskW ns sn vs t a.2.1 a.2.2/\∀z,z≠J.m1->z≠J.m2->a.1 z=s z
theorem AskC.ret {s:St}{J:AskB}{n B:Nat}{ns:Td}{mk:Int}{sn vs:TW}{t:Tr}(hA:AskS s J n B ns mk sn vs)(hW:AskW ns sn vs t sn vs)
  (h:SRet Tryz.prog 186 [.int .i64 (ixN ns t:Nat),.ptr J.b1 0,.ptr J.b2 0,.ptr J.b3 0,.ptr J.b4 0] s (.tup []) s):AskC s J n B ns mk sn vs t:=by
 refine SCalls.mono (h:=h) ?_
 rintro w u ⟨rfl,rfl⟩
 exact⟨(u,sn,vs),rfl,rfl,hA,hW,fun _ _ _=>rfl⟩
theorem CB {s:St}{J:AskB}{n B:Nat}{ns:Td}{mk:Int}{sn vs:TW}{b:Bool}(hA:AskS s J n B ns mk sn vs)(hN:NsOk n ns)(hI:AskI ns sn vs (.lf b)):AskC s J n B ns mk sn vs (.lf b):=by
 refine AskC.ret hA (AskW.none hI fun u hu=>by simp[aL]at hu) ?_
 have hk:ixN ns (.lf b)<2:=by rw[(hN.lf b).2];cases b<;>decide
 have h1:((ixN ns (.lf b):Nat):Int)<2:=by omega
 generalize ixN ns (.lf b)=k at *
 clear hI hN hk
 obtain⟨⟨hp,hg⟩,o1,o2,o3,o4,c1,c2,hne⟩:=hA
 obtain⟨p,g,q,b1,b2,b3,b4,m1,m2⟩:=J
 dsimp only at *
 clear hp hg o2 o3 o4 c2
 refine am Tryz.func186 rfl Tryz.ntmps186 rfl fun Q hQ hQe=>?_
 (repeat'(first|refine Ctl ?_|((with_reducible refine k_ hK ?_);clear hK hE K E)|((with_reducible refine bZ (fun h=>?_) (fun h=>?_))<;>(try(exfalso;assumption)))|(((with_reducible refine ab fun K E hK hE=>?_))<;>(try simp(disch:=omega) only[go_sem,seval,h1, *]))))
 all_goals(refine aq qU hQ ?_)
 all_goals exact⟨_,_,Wk.refl _,Fg.refl _,rfl,rfl⟩
theorem vY {s:St}{J:AskB}{n B:Nat}{ns:Td}{mk:Int}{sn vs:TW}{v:Nat}{l r:Tr}(hA:AskS s J n B ns mk sn vs)(hN:NsOk n ns)(hI:AskI ns sn vs (.nd v l r))(hm:.nd v l r∈ns)(hs:ixN ns (.nd v l r)∈sn):AskC s J n B ns mk sn vs (.nd v l r):=by
 refine AskC.ret hA (AskW.none hI fun u hu=>hI.dn _ sub_self hs u hu) ?_
 have h1:¬ ((ixN ns (.nd v l r):Nat):Int)<2:=by have:=hN.two hm;omega
 have h2:(lkZ ((ixN ns (.nd v l r):Nat):Int) (aS sn)).getD false=true:=by rw[fO];simp[hs]
 generalize ixN ns (.nd v l r)=k at *
 clear hI hN hm hs
 obtain⟨⟨hp,hg⟩,o1,o2,o3,o4,c1,c2,hne⟩:=hA
 obtain⟨p,g,q,b1,b2,b3,b4,m1,m2⟩:=J
 dsimp only at *
 clear hp hg o2 o3 o4 c2
 refine am Tryz.func186 rfl Tryz.ntmps186 rfl fun Q hQ hQe=>?_
 (repeat'(first|refine Ctl ?_|((with_reducible refine k_ hK ?_);clear hK hE K E)|((with_reducible refine bZ (fun h=>?_) (fun h=>?_))<;>(try(exfalso;assumption)))|(((with_reducible refine ab fun K E hK hE=>?_))<;>(try simp(disch:=omega) only[go_sem,seval,h1,h2, *]))))
 all_goals(refine aq qU hQ ?_)
 all_goals exact⟨_,_,Wk.refl _,Fg.refl _,rfl,rfl⟩
theorem CA {s:St}{J:AskB}{n B:Nat}{ns:Td}{mk:Int}{sn vs:TW}{v:Nat}{l r:Tr}(hA:AskS s J n B ns mk sn vs)(hN:NsOk n ns)(hI:AskI ns sn vs (.nd v l r))(hm:.nd v l r∈ns)(hs:ixN ns (.nd v l r)∉sn)
  (ihl:∀{s:St} {sn vs:TW},AskS s J n B ns mk sn vs->AskI ns sn vs l->AskC s J n B ns mk sn vs l) (ihr:∀{s:St} {sn vs:TW},AskS s J n B ns mk sn vs->AskI ns sn vs r->AskC s J n B ns mk sn vs r):AskC s J n B ns mk sn vs (.nd v l r):=by
 have h1:¬ ((ixN ns (.nd v l r):Nat):Int)<2:=by have:=hN.two hm;omega
 have h2:(lkZ ((ixN ns (.nd v l r):Nat):Int) (aS sn)).getD false=false:=by rw[fO];simp[hs]
 have w1:=fun(u:St) (sn' vs':TW) (h:AskS u J n B ns mk sn' vs')=>c8 u J.p J.g J.q n B (ixN ns (.nd v l r)) ns (.nd v l r) mk 0 h.nm (bS hm)
 have hA1:=hA.put1 (iU sn (ixN ns (.nd v l r)))
 have hA2:=hA1.put2 (iU vs v)
 have hI1:=hI.low hN hm
 have hI2:=fun(sn1 vs1:TW)=>hI.high (sn1:=sn1) (vs1:=vs1) hN hm
 have w2:=ihl hA2 hI1
 have w1:=w1 _ _ _ hA1
 have hfr:∀z,z≠J.m1->z≠J.m2->((s.set J.m1 (.map (mpZ bP (aS (iU sn (ixN ns (.nd v l r))))))).set J.m2 (.map (mpZ bP (aS (iU vs v))))) z=s z:=fun z h1 h2=>by rw[j_ _ _ h2,j_ _ _ h1]
 have hall:=fun(sn1 vs1 sn2 vs2:TW)=>AskW.all (ns:=ns) (sn:=sn) (vs:=vs) (v:=v) (l:=l) (r:=r) (sn1:=sn1) (vs1:=vs1) (sn2:=sn2) (vs2:=vs2)
 unfold AskC at w2 ihr ⊢
 simp only[aW,lowN,highN]at w1
 obtain⟨J1,hJ⟩:∃J1,J1=J:=⟨_,rfl⟩
 have HJ:=o_ hJ
 clear hJ
 have HI2:=o_ hI2
 have HFR:=o_ hfr
 have HALL:=o_ hall
 have HR:=o_ (fun(s:St) (sn vs:TW)=>@ihr s sn vs)
 have HA2:=o_ hA2
 clear hI hN hm hs ihl ihr hA1 hA2 hI1 hI2 hfr hall
 generalize ixN ns (.nd v l r)=k at *
 generalize ixN ns l=kl at *
 obtain⟨⟨hp,hg⟩,o1,o2,o3,o4,c1,c2,hne⟩:=hA
 have d11:J.m1≠J.b1:=fun e=>by rw[e,o1]at c1;cases c1
 have d12:J.m1≠J.b2:=fun e=>by rw[e,o2]at c1;cases c1
 have d13:J.m1≠J.b3:=fun e=>by rw[e,o3]at c1;cases c1
 have d14:J.m1≠J.b4:=fun e=>by rw[e,o4]at c1;cases c1
 have d21:J.m2≠J.b1:=fun e=>by rw[e,o1]at c2;cases c2
 have d22:J.m2≠J.b2:=fun e=>by rw[e,o2]at c2;cases c2
 have d23:J.m2≠J.b3:=fun e=>by rw[e,o3]at c2;cases c2
 have d24:J.m2≠J.b4:=fun e=>by rw[e,o4]at c2;cases c2
 have g11:=Ne.symm d11
 have g12:=Ne.symm d12
 have g13:=Ne.symm d13
 have g14:=Ne.symm d14
 have g21:=Ne.symm d21
 have g22:=Ne.symm d22
 have g23:=Ne.symm d23
 have g24:=Ne.symm d24
 have hne2:=Ne.symm hne
 clear hp hg
 refine am Tryz.func186 rfl Tryz.ntmps186 rfl fun Q hQ hQe=>?_
 (repeat'(first|refine Ctl ?_|((with_reducible refine k_ hK ?_);clear hK hE K E)|((with_reducible refine bZ (fun h=>?_) (fun h=>?_))<;>(try(exfalso;assumption)))|(((with_reducible first|refine ab fun K E hK hE=>?_|refine ae ey (w1) ?_))<;>(try simp(disch:=omega) only[go_sem,seval,h1,h2,yc, *]))))
 refine ao vA w2 (fun a h=>?_)
 obtain⟨u1,sn1,vs1⟩:=a
 obtain⟨hA3,hW3,hF3⟩:=h
 dsimp only at hA3 hW3 hF3 ⊢
 have w3:=HR.out _ _ _ hA3 (HI2.out _ _ hW3)
 have q4:=hA3.o4
 have HF3:=o_ hF3
 have HW3:=o_ hW3
 clear w1 w2 o1 o2 o3 o4 c1 c2 hA3 hF3 hW3 d11 d12 d13 d14 d21 d22 d23 d24 g11 g12 g13 g14 g21 g22 g23 g24
 simp only[go_sem,seval]
 (repeat'(first|((with_reducible refine k_ hK ?_);clear hK hE K E)|(((with_reducible refine ab fun K E hK hE=>?_))<;>(try simp(disch:=omega) only[go_sem,seval, *]))))
 refine ao vA w3 (fun a h=>?_)
 obtain⟨u2,sn2,vs2⟩:=a
 obtain⟨hA4,hW4,hF4⟩:=h
 dsimp only at hA4 hW4 hF4 ⊢
 have HF4:=o_ hF4
 have HW4:=o_ hW4
 have HA4:=o_ hA4
 clear w3 q4 hA4 hF4 hW4
 simp only[go_sem,seval]
 (repeat'(((with_reducible refine k_ hK ?_);clear hK hE K E)))
 (refine d5 qU hQ ?_)
 refine⟨_,_,Wk.refl _,Fg.refl _,(u2,sn2,vs2),rfl,rfl,HA4.out,HALL.out _ _ _ _ HW3.out HW4.out,fun z h1 h2=>?_⟩
 dsimp only
 rw[HF4.out z h1 h2,HF3.out z h1 h2,HFR.out z h1 h2]
theorem rS {n B:Nat}{ns:Td}{mk:Int}{J:AskB}(hN:NsOk n ns):∀(t:Tr) {s:St} {sn vs:TW},t∈ns->AskS s J n B ns mk sn vs->AskI ns sn vs t->AskC s J n B ns mk sn vs t
 |.lf b,s,sn,vs,hm,hA,hI=>CB hA hN hI
 |.nd v l r,s,sn,vs,hm,hA,hI=>by
  by_cases hs:ixN ns (.nd v l r)∈sn
  ·exact vY hA hN hI hm hs
  ·obtain⟨hl,hr⟩:=hN.ch _ _ _ hm
   exact CA hA hN hI hm hs (fun hA hI=>rS hN l hl hA hI) (fun hA hI=>rS hN r hr hA hI)
abbrev zn:=St×Nat
theorem MX (s:St)(m:Nat):SCalls Tryz.prog 187 [.mp m] s fun w u=>∃a:zn,w=.ret (.fn 198 [.ptr a.2 0])/\u=a.1/\s a.2=.free/\a.1=s.set a.2 (.obj 83 [.mp m]):=by
 refine am Tryz.func187 rfl Tryz.ntmps187 rfl fun Q hQ hQe=>?_
 (repeat'(first|refine Ctl ?_|((with_reducible refine k_ hK ?_);clear hK hE K E)|((first|(with_reducible refine ab fun K E hK hE=>?_)|((with_reducible refine au (fun b hb=>?_))))<;>(try simp(disch:=omega) only[go_sem,seval, *]))))
 (refine aq Ad hQ ?_)
 exact⟨_,_,Wk.refl _,Fg.refl _,mkA b rfl ⟨hb,rfl⟩⟩
theorem BY (s:St)(L:Ta):SCalls Tryz.prog 165 [.lst L .no] s fun w u=>∃a:zn,w=.ret (.fn 185 [.ptr a.2 0])/\u=a.1/\s a.2=.free/\a.1=s.set a.2 (.obj 28 [.lst L .no]):=by
 refine am Tryz.func165 rfl Tryz.ntmps165 rfl fun Q hQ hQe=>?_
 (repeat'(first|refine Ctl ?_|((with_reducible refine k_ hK ?_);clear hK hE K E)|((first|(with_reducible refine ab fun K E hK hE=>?_)|((with_reducible refine au (fun b hb=>?_))))<;>(try simp(disch:=omega) only[go_sem,seval, *]))))
 (refine aq Ah hQ ?_)
 exact⟨_,_,Wk.refl _,Fg.refl _,mkA b rfl ⟨hb,rfl⟩⟩
def dh (v:Nat):Tr->Bool
 |.lf _=>false
 |.nd w l r=>(v == w) || dh v l || dh v r
theorem jN {v:Nat}:∀{t:Tr},dh v t=true↔∃u,u∈aL t/\v=vrT u
 |.lf b=>by simp[dh,aL]
 |.nd w l r=>by
  simp only[dh,Bool.or_eq_true,beq_iff_eq,jN (t:=l),jN (t:=r)]
  constructor
  ·rintro((e|⟨u,hu,e⟩)|⟨u,hu,e⟩)
   ·exact⟨_,sub_self,e⟩
   ·exact⟨u,cY.2 (.inr (.inl hu)),e⟩
   ·exact⟨u,cY.2 (.inr (.inr hu)),e⟩
  ·rintro⟨u,hu,e⟩
   rcases cY.1 hu with rfl|hu|hu
   ·exact .inl (.inl e)
   ·exact .inl (.inr ⟨u,hu,e⟩)
   ·exact .inr ⟨u,hu,e⟩
theorem mF {n v:Nat}:∀{t:Tr} {m:Nat},OkT n m t->dh v t=true->v<n
 |.lf b,m,_,h=>by simp[dh]at h
 |.nd w l r,m,⟨h1,h2,h3,h4,h5⟩,h=>by
  simp only[dh,Bool.or_eq_true,beq_iff_eq]at h
  rcases h with (rfl|h)|h
  ·exact h2
  ·exact mF h4 h
  ·exact mF h5 h
def kD (n:Nat)(t:Tr):TW:=(List.range n).filter fun v=>dh v t
theorem qJ {n v:Nat}{t:Tr}(h:OkT n 0 t):v∈kD n t↔dh v t=true:=by
 simp only[kD,List.mem_filter,List.mem_range]
 exact⟨fun h=>h.2,fun e=>⟨mF h e,e⟩⟩
theorem sE {l:TZ}(h:l.Pairwise (·<=·)):cR l=l:=List.mergeSort_of_pairwise (h.imp fun h=>by simpa using h)
theorem pY {l S:TW}(hl:l.Nodup)(hS:S.Pairwise (·<·))(h:∀v,v∈l↔v∈S):cR (l.map fun(k:Nat)=>(k:Int))=S.map fun(k:Nat)=>(k:Int):=by
 have hp:l.Perm S:=(List.perm_ext_iff_of_nodup hl (hS.imp fun h=>by omega)).2 h
 rw[ii (hp.map _)]
 apply sE
 rw[List.pairwise_map]
 exact hS.imp fun h=>by omega
theorem pd (n:Nat)(t:Tr):(kD n t).Pairwise (·<·):=List.Pairwise.filter _ List.pairwise_lt_range
theorem vL {n:Nat}{t:Tr}(h:OkT n 0 t){vs:TW}(hn:vs.Nodup)(hm:∀v,v∈vs↔v∈([]:TW)\/∃u,u∈aL t/\v=vrT u):cK (cR ((aS vs).map (·.1)))=.lst (ak (kD n t)) .no:=by
 have e:(aS vs).map (·.1)=vs.map fun(k:Nat)=>(k:Int):=by simp[aS,Function.comp]
 rw[e,pY hn (pd n t) fun v=>by rw[hm,qJ h,jN];simp,cA]
 rfl
theorem FA {s:St}{p g q n B:Nat}{ns:Td}{mk:Int}(hM:NMem s p g q n B ns mk 0)(hN:NsOk n ns)(hn:n<=256){t:Tr}(ht:t∈ns) :
  SRet Tryz.prog 166 [.ptr p 0,.int .i64 (ixN ns t:Nat)] s (.tup [.lst (ak (kD n t)) .no,.int .i64 0]) s:=by
 have w1:=fun(u:St) (h:NMem u p g q n B ns mk 0)=>Cl u p g q n B (ixN ns t) ns t mk 0 h (bS ht)
 have hpf:s p≠.free:=by rw[hM.o];simp
 have hgf:s g≠.free:=by rw[hM.r];simp
 have hoff:∀(x:Nat) (c:Cell),s x=.free->NMem (s.set x c) p g q n B ns mk 0:=fun x c hx=>⟨by rw[j_ _ _ (nef hx hpf).1];exact hM.o,by rw[j_ _ _ (nef hx hgf).1];exact hM.r⟩
 have w3:=fun(u:St) (J:AskB) (h:AskS u J n B ns mk [] [])=>rS hN t ht h ⟨List.nodup_nil,List.nodup_nil,fun _ _ h=>by simp at h⟩
 have hso:=fun vs h1 h2=>vL (n:=n) (t:=t) (hN.ok t ht) (vs:=vs) h1 h2
 have hbd:=fun v (h:∃u,u∈aL t/\v=vrT u)=>mF (hN.ok t ht) (jN.2 h)
 unfold AskC at w3
 have HM:=o_ hM
 have W1:=o_ w1
 have W3:=o_ w3
 have HSO:=o_ hso
 have HBD:=o_ hbd
 have HOFF:=o_ hoff
 clear hM hN ht w1 w3 hso hbd hoff
 generalize ixN ns t=k at *
 refine am Tryz.func166 rfl Tryz.ntmps166 rfl fun Q hQ hQe=>?_
 (repeat'(first|refine Ctl ?_|((with_reducible refine k_ hK ?_);clear hK hE K E)|((first|(with_reducible refine ab fun K E hK hE=>?_)|((with_reducible refine au (fun b hb=>?_))))<;>(try simp(disch:=omega) only[go_sem,seval, *]))))
 have w1:=W1.out _ (HOFF.out b (.obj 54 [.ptr p 0]) hb)
 refine ae BN w1 ?_
 clear w1
 obtain⟨b2,hb2⟩:∃z,z=b:=⟨_,rfl⟩
 subst hb2
 simp only[go_sem,seval]
 (repeat'(first|(with_reducible refine aR 7 ?_)|refine Ctl ?_|((with_reducible refine k_ hK ?_);clear hK hE K E)|((with_reducible refine bZ (fun h=>?_) (fun h=>?_))<;>(try(exfalso;assumption)))|((first|(with_reducible refine ab fun K E hK hE=>?_)|((with_reducible refine au (fun b hb=>?_));(repeat(obtain⟨_,hb⟩:=hb))))<;>(try simp(disch:=first|assumption|omega) only[go_sem,seval, *]))))
 unfold bC
 refine bE fun S hS=>?_
 rename_i hb2 m1 _ _ hm1 m2 _ _ _ _ hm2 b7 _ _ _ _ _ _ hb7 b8 _ _ _ _ _ _ _ _ hb8 _ _ _ _ _ _ _ _ _ _
 have hSf:∀z,s z≠.free->S z=s z:=fun z hz=>by
  rw[hS,j_ _ _ (nef hb hz).1,j_ _ _ (nef hb8 hz).1,j_ _ _ (nef hb7 hz).1,j_ _ _ (nef hm2 hz).1,j_ _ _ (nef hm1 hz).1,j_ _ _ (nef hb2 hz).1]
 have hA:AskS S ⟨p,g,q,b7,b2,b8,b,m1,m2⟩ n B ns mk [] []:=by
  refine⟨⟨by rw[hSf _ hpf];exact HM.out.o,by rw[hSf _ hgf];exact HM.out.r⟩,?_,?_,?_,?_,?_,?_,?_⟩
  ·rw[hS];simp only[St.set,if_true,if_false, *]
  ·rw[hS];simp only[St.set,if_true,if_false, *]
  ·rw[hS];simp only[St.set,if_true,if_false, *]
  ·rw[hS];simp only[St.set,if_true,if_false, *]
  ·rw[hS];simp only[St.set,if_true,if_false, *];rfl
  ·rw[hS];simp only[St.set,if_true,if_false, *];rfl
  ·intro e;dsimp only at e;rename_i h1 _;exact absurd e.symm (‹_›)
 have w3:=W3.out _ _ hA
 have q4:=hA.o4
 dsimp only at w3 q4
 have HSF:=o_ hSf
 have HM1:=o_ hm1
 have HM2:=o_ hm2
 clear hS hSf hA hb hb2 hb7 hb8 hm1 hm2
 (repeat'((((with_reducible refine ab fun K E hK hE=>?_))<;>(try simp(disch:=omega) only[go_sem,seval, *]))))
 refine ao vA w3 (fun a h=>?_)
 obtain⟨u1,sn1,vs1⟩:=a
 obtain⟨hA3,hW3,hF3⟩:=h
 dsimp only at hA3 hW3 hF3 ⊢
 have o3:=hA3.o3
 have c2:=hA3.c2
 dsimp only at o3 c2
 have wk:=MX u1 m2
 have HF3:=o_ hF3
 have HW3:=o_ hW3
 have h3f:u1 m2≠.free:=by rw[c2];simp
 clear w3 q4 hA3 hF3 hW3
 simp only[go_sem,seval]
 (repeat'(first|refine Ctl ?_|((with_reducible refine k_ hK ?_);clear hK hE K E)|(((with_reducible refine ab fun K E hK hE=>?_))<;>(try simp(disch:=omega) only[go_sem,seval, *]))))
 refine ao Mb wk (fun a h=>?_)
 obtain⟨v,X⟩:=a
 obtain⟨hX,hv⟩:=h
 dsimp only at hX hv ⊢
 have hvl:vs1.length<=256:=by
  have h1:=ed (X:=vs1) (Y:=List.range n) HW3.out.n2 fun x hx=>by
   rcases(HW3.out.m2 x).1 hx with e|e
   ·simp at e
   ·exact List.mem_range.2 (HBD.out _ e)
  rw[List.length_range]at h1
  omega
 have w5:=yZ v X m2 83 (aS vs1) (by simp[aS];omega) (fun z hz=>by
  obtain⟨k,hk,rfl⟩:=A_.1 hz
  have hkn:k<n:=by
   rcases(HW3.out.m2 k).1 hk with e|e
   ·simp at e
   ·exact HBD.out _ e
  dsimp only
  omega) (by rw[hv,q_]) (by rw[hv,j_ _ _ (nef hX h3f).1];exact c2)
 rw[HSO.out _ HW3.out.n2 HW3.out.m2]at w5
 have hfin:Fg v s:=fun z=>by
  by_cases hz:s z=.free
  ·exact .inl hz
  ·refine .inr ?_
   have h1:z≠m1:=fun e=>hz (e ▸ HM1.out)
   have h2:z≠m2:=fun e=>hz (e ▸ HM2.out)
   have h4:=HF3.out z h1 h2
   have h5:=HSF.out z hz
   have h6:u1 z≠.free:=by rw[h4,h5];exact hz
   rw[hv,j_ _ _ (nef hX h6).1,h4,h5]
 have HFIN:=o_ hfin
 clear wk o3 c2 hX hv hvl hfin
 simp only[go_sem,seval]
 (repeat'(first|refine Ctl ?_|((with_reducible refine k_ hK ?_);clear hK hE K E)|(((with_reducible refine ae BM (w5) ?_))<;>(try simp(disch:=omega) only[go_sem,seval, *]))))
 (refine aq Ag hQ ?_)
 exact⟨_,_,Wk.refl _,HFIN.out,rfl,rfl⟩
def dR (n:Nat)(vs:TW):TW:=(List.range n).filter fun v=>decide (v∈vs)
theorem kU (n:Nat)(vs:TW):(dR n vs).Pairwise (·<·):=List.Pairwise.filter _ List.pairwise_lt_range
theorem fN {n:Nat}{vs:TW}(h:∀v,v∈vs->v<n){v:Nat}:v∈dR n vs↔v∈vs:=by
 simp only[dR,List.mem_filter,List.mem_range,decide_eq_true_eq]
 exact⟨fun h=>h.2,fun e=>⟨h v e,e⟩⟩
theorem je (n:Nat)(vs:TW):(dR n vs).Nodup:=(kU n vs).imp fun h=>by omega
theorem kV {n:Nat}{vs:TW}(hn:vs.Nodup)(h:∀v,v∈vs->v<n):vs.Perm (dR n vs):=(List.perm_ext_iff_of_nodup hn (je n vs)).2 fun v=>(fN h).symm
def eF (S:TW):TY:=S.zipIdx.map fun p=>((p.1:Int),(p.2:Int))
theorem yl {S:TW}{i:Nat}(h:i<S.length):eF (S.take (i+1))=eF (S.take i)++[((S[i]:Int),(i:Int))]:=by
 rw[List.take_add_one,m_ h]
 simp only[eF,Option.toList,List.zipIdx_append,List.map_append]
 simp[Nat.min_eq_left (Nat.le_of_lt h)]
theorem AB {S:TW}:(eF S).length=S.length:=by simp[eF]
theorem sL {S:TW}:(eF S).map (·.1)=S.map fun(k:Nat)=>(k:Int):=by
 simp only[eF,List.map_map]
 apply List.ext_getElem
 ·simp
 ·intro i h1 h2;simp
theorem p7 {S:TW}{v:Nat}:lkZ (v:Int) (eF S)=none↔v∉S:=by
 rw[fV,sL]
 simp only[A_]
 constructor
 ·intro h hv;exact h ⟨v,hv,rfl⟩
 ·rintro h ⟨a,ha,e⟩
  have:a=v:=by omega
  exact h (this ▸ ha)
theorem xe {α:Type}{k:Int}{x:α}:∀{l:List (Int×α)},(l.map (·.1)).Nodup->(k,x)∈l->lkZ k l=some x
 |[],_,h=>by simp at h
 |(a,y)::l,hn,h=>by
  simp only[List.map_cons,List.nodup_cons]at hn
  simp only[lkZ]
  rcases AT.1 h with e|e
  ·injection e with e1 e2;rw[if_pos e1,e2]
  ·rw[if_neg,xe hn.2 e]
   rintro rfl
   exact hn.1 (A_.2 ⟨_,e,rfl⟩)
theorem w8 {S:TW}{i v:Nat}(hn:S.Nodup)(h:S[i]?=some v):lkZ (v:Int) (eF S)=some (i:Int):=by
 refine xe ?_ ?_
 ·rw[sL,List.nodup_iff_pairwise_ne,List.pairwise_map]
  exact hn.imp fun h e=>h (by omega)
 ·refine A_.2 ⟨(v,i),?_,rfl⟩
  rw[List.mem_zipIdx_iff_getElem?]
  exact h
theorem ze {s:St}{p g q n B:Nat}{ns:Td}{mk:Int}(hM:NMem s p g q n B ns mk 0)(hN:NsOk n ns)(hn:n<=256)(hBs:ns.length<=1048576){t:Tr}(ht:t∈ns){vs:TW}(hv:vs.Nodup)(hlt:∀v,v∈vs->v<n)(hoc:∀v,dh v t=true->v∈vs) :
  SCalls Tryz.prog 122 [.ptr p 0,.int .i64 (ixN ns t:Nat),.lst (ak vs) .no] s fun w u=>∃a:zn,w=.ret (.tup [.mp a.2,.int .i64 0])/\u=a.1/\s a.2=.free/\a.1=s.set a.2 (.map (mpZ cL (eF (dR n vs)))):=by
 have wl:=vT s p g q n B ns mk 0 hM
 have hlen2:=hN.len
 have hz:¬ ((ns.length:Nat):Int)=0:=by omega
 have hpf:s p≠.free:=by rw[hM.o];simp
 have hgf:s g≠.free:=by rw[hM.r];simp
 have wv:=BY s (ak vs)
 have hS:cK (cR (vs.map fun(k:Nat)=>(k:Int)))=.lst (ak (dR n vs)) .no:=by
  rw[pY hv (kU n vs) fun v=>(fN hlt).symm,cA]
  rfl
 have hvl:vs.length<=256:=by
  have:=ed (X:=vs) (Y:=List.range n) hv fun x hx=>List.mem_range.2 (hlt x hx)
  rw[List.length_range]at this
  omega
 have hSl:(dR n vs).length=vs.length:=(kV hv hlt).length_eq.symm
 have hSn:=je n vs
 have hSm:∀v,v∈dR n vs->v<n:=fun v h=>hlt v ((fN hlt).1 h)
 have hoc2:∀v,v∈kD n t->v∈dR n vs:=fun v h=>(fN hlt).2 (hoc v ((qJ (hN.ok t ht)).1 h))
 have hoff:∀(u:St),(∀z,s z≠.free->u z=s z)->NMem u p g q n B ns mk 0:=fun u hu=>⟨by rw[hu p hpf];exact hM.o,by rw[hu g hgf];exact hM.r⟩
 have wa:=fun(u:St) (h:NMem u p g q n B ns mk 0)=>FA h hN hn ht
 have wn:=fun(u:St) (h:NMem u p g q n B ns mk 0)=>kI u p g q n B ns mk 0 h
 have ws:=fun(u:St) (X:Nat) (h:u X=.obj 28 [.lst (ak vs) .no])=>yY u X 28 (vs.map fun(k:Nat)=>(k:Int)) .no (by simp;omega) (by rw[<- cA];exact h)
 rw[hS]at ws
 have haskl:(kD n t).length<=256:=by
  have:=ed (X:=kD n t) (Y:=List.range n) ((pd n t).imp fun h=>by omega) fun x hx=>List.mem_range.2 (by
   have:=(List.mem_filter.1 hx).1
   exact List.mem_range.1 this)
  rw[List.length_range]at this
  omega
 have hln:(ak vs).length=vs.length:=natsL_len
 have HOFF:=o_ hoff
 have WA:=o_ wa
 have WN:=o_ wn
 have WS:=o_ ws
 have HSN:=o_ hSn
 have HSM:=o_ hSm
 have HOC:=o_ hoc2
 clear hM hN ht hv hlt hoc hS hSn hSm hoc2 hoff wa wn ws hlen2 hgf
 generalize ak vs=V at *
 generalize dR n vs=S at *
 generalize kD n t=T at *
 generalize ixN ns t=k at *
 refine am Tryz.func122 rfl Tryz.ntmps122 rfl fun Q hQ hQe=>?_
 (repeat'(first|refine Ctl ?_|((with_reducible refine k_ hK ?_);clear hK hE K E)|((with_reducible refine bZ (fun h=>?_) (fun h=>?_))<;>(try(exfalso;assumption)))|(((with_reducible first|refine ab fun K E hK hE=>?_|refine ae BG (wl) ?_))<;>(try simp(disch:=omega) only[go_sem,seval,hz, *]))))
 refine ao Me wv (fun a h=>?_)
 obtain⟨v,X⟩:=a
 obtain⟨hX,hv⟩:=h
 dsimp only at hX hv ⊢
 have w5:=WS.out v X (by rw[hv,q_])
 have hvs:∀z,s z≠.free->v z=s z:=fun z hz=>by rw[hv,j_ _ _ (nef hX hz).1]
 have HVS:=o_ hvs
 have hpv:v p≠.free:=by rw[hvs p hpf];exact hpf
 clear wl wv hz hX hv hvs
 simp only[go_sem,seval]
 (repeat'(first|refine Ctl ?_|((with_reducible refine k_ hK ?_);clear hK hE K E)|((first|(with_reducible first|refine ab fun K E hK hE=>?_|refine ae BM (w5) ?_)|((with_reducible refine au (fun b hb=>?_));(try(obtain⟨_,_⟩:=nef hb hpv))))<;>(try simp(disch:=omega) only[go_sem,seval, *]))))
 obtain⟨bm,hbm⟩:∃z,z=b:=⟨_,rfl⟩
 subst hbm
 have hsb:s bm=.free:=by
  by_cases h:s bm=.free
  ·exact h
  ·exact absurd ((HVS.out bm h).symm.trans hb) h
 have hfg:Fg v s:=fun z=>by
  by_cases h:s z=.free
  ·exact .inl h
  ·exact .inr (HVS.out z h).symm
 have hfg2:=hfg.set bm (.map [])
 have hpb:¬ p=bm:=fun e=>hpf (e ▸ hsb)
 have hbp:¬ bm=p:=fun e=>hpb e.symm
 have HSB:=o_ hsb
 have wm:∀c:Cell,NMem (s.set bm c) p g q n B ns mk 0:=fun c=>HOFF.out _ fun z hz=>j_ _ _ (nef hsb hz).1
 have WM:=o_ wm
 have HFG:=o_ hfg2
 have hnl:(ak S).length=S.length:=natsL_len
 have hnl2:(ak T).length=T.length:=natsL_len
 have hat:=fun(i k:Nat) (h:S[i]?=some k)=>aH h
 have hat2:=fun(i k:Nat) (h:T[i]?=some k)=>aH h
 generalize hNS:ak S=SL at *
 generalize hNT:ak T=TL at *
 have HAT:=o_ hat
 have HAT2:=o_ hat2
 clear hNS hNT hat hat2 hb hsb hfg hfg2 wm HVS hpv w5
 refine bV (fun m env s'=>∃(i:Nat),i<=S.length/\m+i=S.length/\s'=s.set bm (.map (mpZ cL (eF (S.take i))))/\env 0=.ptr p 0/\env 1=.int .i64 k/\env 2=.lst V .no/\env 8=.lst SL .no/\env 9=.mp bm/\env 25=.lst SL .no/\env 26=.int .i64 S.length/\env 27=.int .i64 i) S.length ?_ ?_
 ·exact⟨_,HFG.out,0,by omega,by omega,rfl,ac,ac,ac,ac,ac,ac,ac,ac⟩
 clear HFG
 rintro m env s' ⟨i,hi,hmi,rfl,e0,e1,e2,e8,e9,e25,e26,e27⟩
 by_cases h2:i<S.length
 ·have hx:=HAT.out i _ (m_ h2)
  have hlt:=HSM.out _ (List.getElem_mem h2)
  have hpt:ptZ ((S[i]:Nat):Int) ((i:Nat):Int) (eF (S.take i))=eF (S.take (i+1)):=by
   rw[jI,yl h2]
   rw[p7]
   intro h3
   obtain⟨j,hj,e⟩:=List.mem_take_iff_getElem.1 h3
   exact(List.pairwise_iff_getElem.1 HSN.out) j i (by omega) h2 (by omega) e
  have wn:=WN.out _ (WM.out (.map (mpZ cL (eF (S.take (i+1))))))
  have q1:¬ ((S[i]:Nat):Int)<0:=by omega
  have q2:¬ ((S[i]:Nat):Int)>=(n:Int):=by omega
  have q3:¬ (n:Int)<=((S[i]:Nat):Int):=by omega
  generalize S[i]=x at *
  generalize eF (S.take i)=P0 at *
  obtain⟨P1,hP1⟩:∃P1,P1=eF (S.take (i+1)):=⟨_,rfl⟩
  rw[<- hP1]at hpt wn
  have HP1:=o_ hP1
  clear hP1
  (repeat'(first|refine Ctl ?_|((with_reducible refine k_ hK ?_);clear hK hE K E)|((with_reducible refine bZ (fun h=>?_) (fun h=>?_))<;>(try(exfalso;first|assumption|omega)))|(((with_reducible first|refine ab fun K E hK hE=>?_|refine ae oX (wn) ?_))<;>(try simp(disch:=omega) only[go_sem,seval,hx,hpt,q1,q2,q3, *]))))
  all_goals exact⟨_,Fg.refl _,m - 1,by omega,i+1,by omega,by omega,by rw[<- HP1.out],ac,ac,ac,ac,ac,ac,ac,ac⟩
 ·obtain rfl:i=S.length:=by omega
  rw[b_]
  have wa:=WA.out _ (WM.out (.map (mpZ cL (eF S))))
  have hpl:=AB (S:=S)
  obtain⟨P1,hP1⟩:∃P1,P1=eF S:=⟨_,rfl⟩
  rw[<- hP1]at wa hpl ⊢
  have HP1:=o_ hP1
  clear hP1 h2 hmi
  have hlv:((P1.length:Nat):Int)=((V.length:Nat):Int):=by omega
  (repeat'(first|refine Ctl ?_|((with_reducible refine k_ hK ?_);clear hK hE K E)|((with_reducible refine bZ (fun h=>?_) (fun h=>?_))<;>(try(exfalso;first|assumption|omega)))|(((with_reducible first|refine ab fun K E hK hE=>?_|refine ae Md (wa) ?_))<;>(try simp(disch:=omega) only[go_sem,seval,hlv,hnl2, *]))))
  refine bV (fun m env s'=>∃(i:Nat),i<=T.length/\m+i=T.length/\s'=s.set bm (.map (mpZ cL P1))/\env 9=.mp bm/\env 58=.lst TL .no/\env 59=.int .i64 T.length/\env 60=.int .i64 i) T.length ?_ ?_
  ·exact⟨_,Fg.refl _,0,by omega,by omega,rfl,ac,ac,ac,ac⟩
  clear e0 e1 e2 e8 e9 e25 e26 e27 wa
  rintro m env s' ⟨i,hi,hmi,rfl,e9,e58,e59,e60⟩
  by_cases h2:i<T.length
  ·have hx:=HAT2.out i _ (m_ h2)
   have hin:=HOC.out _ (List.getElem_mem h2)
   have hlk:(lkZ ((T[i]:Nat):Int) P1).isSome=true:=by
    rw[Option.isSome_iff_ne_none,HP1.out]
    intro e
    exact p7.1 e hin
   clear hin
   generalize T[i]=x at *
   (repeat'(first|refine Ctl ?_|((with_reducible refine k_ hK ?_);clear hK hE K E)|((with_reducible refine bZ (fun h=>?_) (fun h=>?_))<;>(try(exfalso;assumption)))|(((with_reducible refine ab fun K E hK hE=>?_))<;>(try simp(disch:=omega) only[go_sem,seval,hx,hlk, *]))))
   all_goals exact⟨_,Fg.refl _,m - 1,by omega,i+1,by omega,by omega,rfl,ac,ac,ac,ac⟩
  ·(repeat'(first|refine Ctl ?_|((with_reducible refine k_ hK ?_);clear hK hE K E)|((with_reducible refine bZ (fun h=>?_) (fun h=>?_))<;>(try(exfalso;assumption)))|(((with_reducible refine ab fun K E hK hE=>?_))<;>(try simp(disch:=omega) only[go_sem,seval, *]))))
   all_goals(refine aq Al hQ ?_)
   exact⟨_,_,Wk.refl _,Fg.refl _,mkA bm rfl ⟨HSB.out,by rw[<- HP1.out]⟩⟩
def PosT (pos:Nat->Nat)(W:Nat):Tr->Prop
 |.lf _=>True
 |.nd v l h=>pos v<W/\pos v+1<=dm pos W l/\pos v+1<=dm pos W h/\PosT pos W l/\PosT pos W h
theorem PosT.lev {pos:Nat->Nat}{W:Nat}:∀{t:Tr},PosT pos W t->dm pos W t<=W
 |.lf _,_=>Nat.le_refl _
 |.nd v l h,⟨h1,_⟩=>Nat.le_of_lt h1
theorem PosT.cnt {pos:Nat->Nat}{W:Nat}:∀{t:Tr},PosT pos W t->dG pos W t<=2 ^ (W - dm pos W t)
 |.lf b,_=>by simp only[dG,dm,Nat.sub_self,Nat.pow_zero];split<;>omega
 |.nd v l h,⟨h1,h2,h3,h4,h5⟩=>by
  have key:∀x,PosT pos W x->pos v+1<=dm pos W x->dG pos W x<=2 ^ (W - dm pos W x)->dG pos W x * 2 ^ (dm pos W x - (pos v+1))<=2 ^ (W - (pos v+1)):=fun x hx hl hc=>by
   have e:W - (pos v+1)=(W - dm pos W x)+(dm pos W x - (pos v+1)):=by have:=hx.lev;omega
   rw[e,Nat.pow_add]
   exact Nat.mul_le_mul_right _ hc
  have a:=key l h4 h2 h4.cnt
  have b:=key h h5 h3 h5.cnt
  simp only[dG,dm]
  have e:W - pos v=(W - (pos v+1))+1:=by omega
  rw[e,Nat.pow_succ,Nat.mul_two]
  exact Nat.add_le_add a b
theorem rf {n:Nat}{pos:Nat->Nat}{W:Nat}{S:TW}(hS:∀v w,v∈S->w∈S->v<w->pos v<pos w)(hW:∀v,v∈S->pos v<W):∀{t:Tr} {m:Nat},OkT n m t->InV S t->PosT pos W t
 |.lf _,_,_,_=>trivial
 |.nd v l h,m,⟨h1,h2,h3,h4,h5⟩,⟨i1,i2,i3⟩=>by
  have key:∀x,OkT n (v+1) x->InV S x->pos v+1<=dm pos W x:=fun x hx hi=>by
   cases x with
   |lf b=>exact hW v i1
   |nd w a b=>exact hS v w i1 hi.1 hx.1
  exact⟨hW v i1,key l h4 i2,key h h5 i3,rf hS hW h4 i2,rf hS hW h5 i3⟩
theorem mK {S:TW}:∀{t:Tr},(∀v,dh v t=true->v∈S)->InV S t
 |.lf _,_=>trivial
 |.nd v l r,h=>⟨h v (by simp[dh]),mK fun w hw=>h w (by simp[dh,hw]),mK fun w hw=>h w (by simp[dh,hw])⟩
theorem mE {S:TW}{v:Nat}:∀{t:Tr},InV S t->dh v t=true->v∈S
 |.lf _,_,h=>by simp[dh]at h
 |.nd w l r,⟨h1,h2,h3⟩,h=>by
  simp only[dh,Bool.or_eq_true,beq_iff_eq]at h
  rcases h with (rfl|h)|h
  ·exact h1
  ·exact mE h2 h
  ·exact mE h3 h
def jk (S:TW)(v:Nat):Nat:=((lkZ (v:Int) (eF S)).getD 0).toNat
theorem jJ {S:TW}{i v:Nat}(hn:S.Nodup)(h:S[i]?=some v):jk S v=i:=by
 unfold jk
 rw[w8 hn h]
 simp
theorem D5 {S:TW}{v:Nat}(hn:S.Nodup)(h:v∈S):lkZ (v:Int) (eF S)=some ((jk S v:Nat):Int):=by
 obtain⟨i,hi⟩:=d_.1 h
 rw[jJ hn hi,w8 hn hi]
theorem D4 {S:TW}{v:Nat}(hn:S.Nodup)(h:v∈S):jk S v<S.length:=by
 obtain⟨i,hi⟩:=d_.1 h
 rw[jJ hn hi]
 exact(x_.1 hi).1
theorem ym {S:TW}(hs:S.Pairwise (·<·)){v w:Nat}(hv:v∈S)(hw:w∈S)(h:v<w):jk S v<jk S w:=by
 have hn:S.Nodup:=hs.imp fun h=>by omega
 obtain⟨i,hi⟩:=d_.1 hv
 obtain⟨j,hj⟩:=d_.1 hw
 rw[jJ hn hi,jJ hn hj]
 obtain⟨hi1,hi2⟩:=x_.1 hi
 obtain⟨hj1,hj2⟩:=x_.1 hj
 by_cases e:i<j
 ·exact e
 ·exfalso
  by_cases e2:i=j
  ·subst e2;rw[hi2]at hj2;omega
  ·have:=(List.pairwise_iff_getElem.1 hs) j i hj1 hi1 (by omega)
   rw[hi2,hj2]at this
   omega
structure SatB where
 p:Nat
 g:Nat
 q:Nat
 b5:Nat
 b3:Nat
 b8:Nat
 b10:Nat
 b11:Nat
 b12:Nat
 m:Nat
 m2:Nat
structure SatS (s:St) (J:SatB) (n B:Nat) (ns:Td) (mk:Int) (V:Ta) (PZ:TY) (me:TY):Prop where
 nm:NMem s J.p J.g J.q n B ns mk 0
 o5:s J.b5=.obj 28 [.lst V .no]
 o3:s J.b3=.obj 54 [.ptr J.p 0]
 o8:s J.b8=.obj 146 [.mp J.m]
 o10:s J.b10=.obj 195 [.fn 123 [.ptr J.b5 0,.ptr J.b3 0,.ptr J.b8 0]]
 o11:s J.b11=.obj 146 [.mp J.m2]
 o12:s J.b12=.obj 195 [.fn 124 [.ptr J.b11 0,.ptr J.b3 0,.ptr J.b10 0,.ptr J.b12 0]]
 c:s J.m=.map (mpZ cL PZ)
 c2:s J.m2=.map (mpZ cL me)
 ne:J.m≠J.m2
theorem SatS.put {s u:St}{J:SatB}{n B:Nat}{ns:Td}{mk:Int}{V:Ta}{PZ me me':TY}(h:SatS s J n B ns mk V PZ me)(hu:∀z,z≠J.m2->u z=s z)(hm:u J.m2=.map (mpZ cL me')):SatS u J n B ns mk V PZ me':=by
 have key:∀z,(∀es,s z≠.map es)->u z=s z:=fun z hz=>hu _ fun e=>hz _ (e ▸ h.c2)
 refine⟨⟨?_,?_⟩,?_,?_,?_,?_,?_,?_,?_,hm,h.ne⟩
 ·rw[key _ (fun es e=>by rw[h.nm.o]at e;cases e)];exact h.nm.o
 ·rw[key _ (fun es e=>by rw[h.nm.r]at e;cases e)];exact h.nm.r
 ·rw[key _ (fun es e=>by rw[h.o5]at e;cases e)];exact h.o5
 ·rw[key _ (fun es e=>by rw[h.o3]at e;cases e)];exact h.o3
 ·rw[key _ (fun es e=>by rw[h.o8]at e;cases e)];exact h.o8
 ·rw[key _ (fun es e=>by rw[h.o10]at e;cases e)];exact h.o10
 ·rw[key _ (fun es e=>by rw[h.o11]at e;cases e)];exact h.o11
 ·rw[key _ (fun es e=>by rw[h.o12]at e;cases e)];exact h.o12
 ·rw[hu _ h.ne];exact h.c
theorem rL {s:St}{J:SatB}{n B:Nat}{ns:Td}{mk:Int}{V:Ta}{PZ me:TY}(h:SatS s J n B ns mk V PZ me)(hN:NsOk n ns){t:Tr}(ht:t∈ns)(pos:Nat->Nat)(hp:∀v,dh v t=true->lkZ (v:Int) PZ=some ((pos v:Nat):Int)) :
  SRet Tryz.prog 123 [.int .i64 (ixN ns t:Nat),.ptr J.b5 0,.ptr J.b3 0,.ptr J.b8 0] s (.int .i64 (dm pos V.length t:Nat)) s:=by
 cases t with
 |lf b=>
  have hk:ixN ns (.lf b)<2:=by rw[(hN.lf b).2];cases b<;>decide
  have h1:((ixN ns (.lf b):Nat):Int)<2:=by omega
  have o5:=h.o5
  generalize ixN ns (.lf b)=k at *
  simp only[dm]
  clear hN hk h hp ht
  refine am Tryz.func123 rfl Tryz.ntmps123 rfl fun Q hQ hQe=>?_
  (repeat'(first|refine Ctl ?_|((with_reducible refine k_ hK ?_);clear hK hE K E)|((with_reducible refine bZ (fun h=>?_) (fun h=>?_))<;>(try(exfalso;assumption)))|(((with_reducible refine ab fun K E hK hE=>?_))<;>(try simp(disch:=omega) only[go_sem,seval,h1, *]))))
  all_goals(refine aq uE hQ ?_)
  all_goals exact⟨_,_,Wk.refl _,Fg.refl _,rfl,rfl⟩
 |nd v l r=>
  have h1:¬ ((ixN ns (.nd v l r):Nat):Int)<2:=by have:=hN.two ht;omega
  have w1:=c8 s J.p J.g J.q n B (ixN ns (.nd v l r)) ns (.nd v l r) mk 0 h.nm (bS ht)
  have h2:=hp v (by simp[dh])
  have o5:=h.o5
  have o3:=h.o3
  have o8:=h.o8
  have c:=h.c
  simp only[aW,lowN,highN]at w1
  generalize ixN ns (.nd v l r)=k at *
  generalize ixN ns l=kl at *
  generalize ixN ns r=kr at *
  simp only[dm]
  clear hN h hp ht
  refine am Tryz.func123 rfl Tryz.ntmps123 rfl fun Q hQ hQe=>?_
  (repeat'(first|refine Ctl ?_|((with_reducible refine k_ hK ?_);clear hK hE K E)|((with_reducible refine bZ (fun h=>?_) (fun h=>?_))<;>(try(exfalso;assumption)))|(((with_reducible first|refine ab fun K E hK hE=>?_|refine ae ey (w1) ?_))<;>(try simp(disch:=omega) only[go_sem,seval,h1,h2, *]))))
  all_goals(refine aq uE hQ ?_)
  all_goals exact⟨_,_,Wk.refl _,Fg.refl _,by simp[h2],rfl⟩
abbrev SatA:=St×TY
def iy (ns:Td)(pos:Nat->Nat)(W:Nat)(me:TY):Prop:=∀k x,lkZ k me=some x->∃u,u∈ns/\k=((ixN ns u:Nat):Int)/\x=((dG pos W u:Nat):Int)
def SatC (s:St)(J:SatB)(n B:Nat)(ns:Td)(mk:Int)(V:Ta)(PZ:TY)(pos:Nat->Nat)(t:Tr):Prop:=
 SCalls Tryz.prog 124 [.int .i64 (ixN ns t:Nat),.ptr J.b11 0,.ptr J.b3 0,.ptr J.b10 0,.ptr J.b12 0] s fun w u=>∃a:SatA,w=.ret (.int .i64 (dG pos V.length t:Nat))/\u=a.1/\SatS a.1 J n B ns mk V PZ a.2/\iy ns pos V.length a.2/\∀z,z≠J.m2->a.1 z=s z
theorem SatC.ret {s:St}{J:SatB}{n B:Nat}{ns:Td}{mk:Int}{V:Ta}{PZ me:TY}{pos:Nat->Nat}{t:Tr}(hA:SatS s J n B ns mk V PZ me)(hM:iy ns pos V.length me)
  (h:SRet Tryz.prog 124 [.int .i64 (ixN ns t:Nat),.ptr J.b11 0,.ptr J.b3 0,.ptr J.b10 0,.ptr J.b12 0] s (.int .i64 (dG pos V.length t:Nat)) s):SatC s J n B ns mk V PZ pos t:=by
 refine SCalls.mono (h:=h) ?_
 rintro w u ⟨rfl,rfl⟩
 exact⟨(u,me),rfl,rfl,hA,hM,fun _ _=>rfl⟩
theorem Fi {s:St}{J:SatB}{n B:Nat}{ns:Td}{mk:Int}{V:Ta}{PZ me:TY}{pos:Nat->Nat}{b:Bool}(hA:SatS s J n B ns mk V PZ me)(hN:NsOk n ns)(hM:iy ns pos V.length me):SatC s J n B ns mk V PZ pos (.lf b):=by
 refine SatC.ret hA hM ?_
 have hk:ixN ns (.lf b)=dG pos V.length (.lf b):=by rw[(hN.lf b).2];rfl
 have hk2:ixN ns (.lf b)<2:=by rw[(hN.lf b).2];cases b<;>decide
 rw[<- hk]
 have h1:((ixN ns (.lf b):Nat):Int)<2:=by omega
 generalize ixN ns (.lf b)=k at *
 clear hM hN hk hk2 hA
 refine am Tryz.func124 rfl Tryz.ntmps124 rfl fun Q hQ hQe=>?_
 (repeat'(first|refine Ctl ?_|((with_reducible refine k_ hK ?_);clear hK hE K E)|((with_reducible refine bZ (fun h=>?_) (fun h=>?_))<;>(try(exfalso;assumption)))|(((with_reducible refine ab fun K E hK hE=>?_))<;>(try simp(disch:=omega) only[go_sem,seval,h1, *]))))
 all_goals(refine aq qV hQ ?_)
 all_goals exact⟨_,_,Wk.refl _,Fg.refl _,rfl,rfl⟩
theorem B0 {s:St}{J:SatB}{n B:Nat}{ns:Td}{mk:Int}{V:Ta}{PZ me:TY}{pos:Nat->Nat}{v:Nat}{l r:Tr}(hA:SatS s J n B ns mk V PZ me)(hN:NsOk n ns)(hM:iy ns pos V.length me)(hm:.nd v l r∈ns)
  {x:Int} (hx:lkZ ((ixN ns (.nd v l r):Nat):Int) me=some x):SatC s J n B ns mk V PZ pos (.nd v l r):=by
 refine SatC.ret hA hM ?_
 obtain⟨u,hu,e1,rfl⟩:=hM _ _ hx
 have:=cw hm hu (by omega)
 subst this
 have h1:¬ ((ixN ns (.nd v l r):Nat):Int)<2:=by have:=hN.two hm;omega
 have o11:=hA.o11
 have c2:=hA.c2
 have hx1:(lkZ ((ixN ns (.nd v l r):Nat):Int) me).isSome=true:=by rw[hx];rfl
 have hx2:(lkZ ((ixN ns (.nd v l r):Nat):Int) me).getD 0=((dG pos V.length (.nd v l r):Nat):Int):=by rw[hx];rfl
 clear hx
 generalize ixN ns (.nd v l r)=k at *
 generalize dG pos V.length (.nd v l r)=y at *
 clear hM hN hm hA hu e1
 refine am Tryz.func124 rfl Tryz.ntmps124 rfl fun Q hQ hQe=>?_
 (repeat'(first|refine Ctl ?_|((with_reducible refine k_ hK ?_);clear hK hE K E)|((with_reducible refine bZ (fun h=>?_) (fun h=>?_))<;>(try(exfalso;assumption)))|(((with_reducible refine ab fun K E hK hE=>?_))<;>(try simp(disch:=omega) only[go_sem,seval,h1,hx1,hx2, *]))))
 all_goals(refine aq qV hQ ?_)
 all_goals exact⟨_,_,Wk.refl _,Fg.refl _,rfl,rfl⟩
theorem Fh {s:St}{J:SatB}{n B:Nat}{ns:Td}{mk:Int}{V:Ta}{PZ me:TY}{pos:Nat->Nat}{v:Nat}{l r:Tr}(hA:SatS s J n B ns mk V PZ me)(hN:NsOk n ns)(hM:iy ns pos V.length me)(hm:.nd v l r∈ns)
  (hx:lkZ ((ixN ns (.nd v l r):Nat):Int) me=none) (hp:∀w,dh w (.nd v l r)=true->lkZ (w:Int) PZ=some ((pos w:Nat):Int)) (hP:PosT pos V.length (.nd v l r)) (hV:V.length<=61)
  (ihl:∀{s:St} {me:TY},SatS s J n B ns mk V PZ me->iy ns pos V.length me->SatC s J n B ns mk V PZ pos l) (ihr:∀{s:St} {me:TY},SatS s J n B ns mk V PZ me->iy ns pos V.length me->SatC s J n B ns mk V PZ pos r):SatC s J n B ns mk V PZ pos (.nd v l r):=by
 obtain⟨hl,hr⟩:=hN.ch _ _ _ hm
 have h1:¬ ((ixN ns (.nd v l r):Nat):Int)<2:=by have:=hN.two hm;omega
 have w1:=c8 s J.p J.g J.q n B (ixN ns (.nd v l r)) ns (.nd v l r) mk 0 hA.nm (bS hm)
 have w2:=rL hA hN hm pos hp
 have wl:=fun(u:St) (me':TY) (h:SatS u J n B ns mk V PZ me')=>rL h hN hl pos fun w hw=>hp w (by simp[dh,hw])
 have wr:=fun(u:St) (me':TY) (h:SatS u J n B ns mk V PZ me')=>rL h hN hr pos fun w hw=>hp w (by simp[dh,hw])
 have w3:=ihl hA hM
 have hcn:dG pos V.length (.nd v l r)=dG pos V.length l * 2 ^ (dm pos V.length l - (pos v+1))+dG pos V.length r * 2 ^ (dm pos V.length r - (pos v+1)):=rfl
 have hle:dG pos V.length (.nd v l r)<=2 ^ 61:=Nat.le_trans hP.cnt (Nat.pow_le_pow_right (by omega) (by omega))
 obtain⟨p1,p2,p3,p4,p5⟩:=hP
 have c1:dG pos V.length l<=2 ^ 61:=Nat.le_trans p4.cnt (Nat.pow_le_pow_right (by omega) (by omega))
 have c2:dG pos V.length r<=2 ^ 61:=Nat.le_trans p5.cnt (Nat.pow_le_pow_right (by omega) (by omega))
 have q1:=p4.lev
 have q2:=p5.lev
 unfold SatC at w3 ihr ⊢
 simp only[aW,lowN,highN]at w1
 simp only[dm]at w2
 clear hl hr hp p1 p4 p5
 generalize hCN:dG pos V.length (.nd v l r)=CN at *
 generalize dm pos V.length l=LL at *
 generalize dm pos V.length r=RR at *
 generalize dG pos V.length l=CL at *
 generalize dG pos V.length r=CR at *
 generalize pos v=pv at *
 obtain⟨DL,hDL⟩:∃d,d=LL - (pv+1):=⟨_,rfl⟩
 obtain⟨DR,hDR⟩:∃d,d=RR - (pv+1):=⟨_,rfl⟩
 rw[<- hDL,<- hDR]at hcn
 have e1:(LL:Int) - ((pv+1:Nat):Int)=(DL:Int):=by omega
 have e2:(RR:Int) - ((pv+1:Nat):Int)=(DR:Int):=by omega
 have wp1:=fun u=>vW u DL (by omega)
 have wp2:=fun u=>vW u DR (by omega)
 have z1:2 ^ DL<=2 ^ 61:=Nat.pow_le_pow_right (by omega) (by omega)
 have z2:2 ^ DR<=2 ^ 61:=Nat.pow_le_pow_right (by omega) (by omega)
 generalize 2 ^ DL=PL at *
 generalize 2 ^ DR=PR at *
 have wm1:=fun u=>vX u CL PL (by omega) (by omega) (by omega)
 have wm2:=fun u=>vX u CR PR (by omega) (by omega) (by omega)
 generalize CL * PL=XL at *
 generalize CR * PR=XR at *
 have wd:=fun u=>Nh u XL XR (by omega)
 rw[<- hcn]at wd
 have o3:=hA.o3
 have o10:=hA.o10
 have o11:=hA.o11
 have o12:=hA.o12
 have c2:=hA.c2
 have hx1:(lkZ ((ixN ns (.nd v l r):Nat):Int) me).isSome=false:=by rw[hx];rfl
 have pvb:pv<=61:=by omega
 have pvl:pv+1<=LL/\LL<=61:=by omega
 have pvr:pv+1<=RR/\RR<=61:=by omega
 have HX:=o_ hx
 have WL:=o_ wl
 have WR:=o_ wr
 have HA:=o_ hA
 have HM:=o_ hM
 have HR:=o_ (fun(s:St) (me:TY)=>@ihr s me)
 have HN:=o_ hN
 have HMM:=o_ hm
 have HCN:=o_ hCN
 have WP1:=o_ wp1
 have WP2:=o_ wp2
 have WM1:=o_ wm1
 have WM2:=o_ wm2
 have WD:=o_ wd
 clear hM hN hm hA wl wr ihl ihr hx hCN wp1 wp2 wm1 wm2 wd hcn hle c1 p2 p3 q1 q2 hDL hDR z1 z2
 obtain⟨pvl1,pvl2⟩:=pvl
 obtain⟨pvr1,pvr2⟩:=pvr
 refine am Tryz.func124 rfl Tryz.ntmps124 rfl fun Q hQ hQe=>?_
 (repeat'(first|refine Ctl ?_|(with_reducible first|(refine k_ hK ?_;clear hK hE K E)|(refine k_ hKh ?_;clear hKh Kh)|refine ax 8 [([0,1,3,4,6,10,11,13,14,16],2,[[3,4,6,10,11,13,14,16]]),([],5,[[],[6,10,11,13,14,16]]),([7],8,[[],[],[10,11,13,14,16]]),([],9,[[],[],[],[10,11,13,14,16]]),([],12,[[],[],[],[],[13,14,16]]),([],15,[[],[],[],[],[],[16]]),([17],18,[[],[],[],[],[],[],[]]),([],19,[[],[],[],[],[],[],[],[]]),([],20,[[],[],[],[],[],[],[],[],[]])] [21] hQe fun K E hK hE=>?_)|((with_reducible refine bZ (fun h=>?_) (fun h=>?_))<;>(try(exfalso;assumption)))|(((with_reducible first|refine ab fun K E hK hE=>?_|refine ae ey (w1) ?_|refine ae rF (w2) ?_|refine ay fun Kh hKh=>?_|refine aB fun Kb hKb=>?_))<;>(try simp(disch:=omega) only[go_sem,seval,h1,hx1, *]))))
 all_goals
  refine ao vG w3 (fun a h=>?_)
  obtain⟨u1,me1⟩:=a
  obtain⟨hA3,hM3,hF3⟩:=h
  dsimp only at hA3 hM3 hF3 ⊢
  have w4:=WL.out _ _ hA3
  have w5:=HR.out _ _ hA3 hM3
  have p10:=hA3.o10
  have p12:=hA3.o12
  have wp1:=WP1.out u1
  have wm1:=WM1.out u1
  have HF3:=o_ hF3
  clear hA3 hM3 hF3
  simp only[go_sem,seval]
  (repeat'(first|(with_reducible first|(refine k_ hKh ?_;clear hKh Kh)|(refine k_ hKb (aC ?_);clear hKb Kb))|(((with_reducible first|refine ae rF (w4) ?_|refine ae vE (wp1) ?_|refine ae vF (wm1) ?_|refine ay fun Kh hKh=>?_|refine aB fun Kb hKb=>?_))<;>(try simp(disch:=omega) only[go_sem,seval,e1,e2, *]))))
 all_goals
  refine ao vG w5 (fun a h=>?_)
  obtain⟨u2,me2⟩:=a
  obtain⟨hA4,hM4,hF4⟩:=h
  dsimp only at hA4 hM4 hF4 ⊢
  have w6:=WR.out _ _ hA4
  have r10:=hA4.o10
  have r11:=hA4.o11
  have r12:=hA4.o12
  have rc:=hA4.c2
  have wp2:=WP2.out u2
  have wm2:=WM2.out u2
  have wd:=WD.out u2
  have HF4:=o_ hF4
  have HA4:=o_ hA4
  have HM4:=o_ hM4
  clear w4 w5 wp1 wm1 hA4 hM4 hF4
  simp only[go_sem,seval]
  (repeat'(first|refine Ctl ?_|(with_reducible first|(refine k_ hK ?_;clear hK hE K E)|(refine k_ hKh ?_;clear hKh Kh)|(refine k_ hKb (aC ?_);clear hKb Kb))|(((with_reducible first|refine ab fun K E hK hE=>?_|refine ae rF (w6) ?_|refine ae vE (wp2) ?_|refine ae vF (wm2) ?_|refine ae Mj (wd) ?_|refine ay fun Kh hKh=>?_|refine aG fun Kh hKh=>?_|refine aB fun Kb hKb=>?_))<;>(try simp(disch:=omega) only[go_sem,seval,e1,e2, *]))))
 all_goals(refine aq qV hQ ?_)
 refine⟨_,_,Wk.refl _,Fg.refl _,(_,_),rfl,rfl,HA4.out.put (fun z hz=>j_ _ _ hz) (q_ _ _ _),?_,fun z hz=>?_⟩
 ·intro k x hk
  rw[nZ]at hk
  by_cases e:k=((ixN ns (.nd v l r):Nat):Int)
  ·rw[if_pos e]at hk
   injection hk with hk
   exact⟨_,HMM.out,e,by rw[HCN.out];exact hk.symm⟩
  ·rw[if_neg e]at hk
   exact HM4.out _ _ hk
 ·exact(j_ _ _ hz).trans ((HF4.out z hz).trans (HF3.out z hz))
theorem vQ {n B:Nat}{ns:Td}{mk:Int}{J:SatB}{V:Ta}{PZ:TY}{pos:Nat->Nat}(hN:NsOk n ns)(hV:V.length<=61):∀(t:Tr) {s:St} {me:TY},t∈ns->SatS s J n B ns mk V PZ me->iy ns pos V.length me ->
  (∀w,dh w t=true->lkZ (w:Int) PZ=some ((pos w:Nat):Int))->PosT pos V.length t->SatC s J n B ns mk V PZ pos t
 |.lf b,s,me,hm,hA,hM,hp,hP=>Fi hA hN hM
 |.nd v l r,s,me,hm,hA,hM,hp,hP=>by
  obtain⟨hl,hr⟩:=hN.ch _ _ _ hm
  cases hx:lkZ ((ixN ns (.nd v l r):Nat):Int) me with
  |some x=>exact B0 hA hN hM hm hx
  |none=>exact Fh hA hN hM hm hx hp hP hV (fun hA hM=>vQ hN hV l hl hA hM (fun w hw=>hp w (by simp[dh,hw])) hP.2.2.2.1) (fun hA hM=>vQ hN hV r hr hA hM (fun w hw=>hp w (by simp[dh,hw])) hP.2.2.2.2)
structure OpT (s:St) (K:OB) (n B:Nat) (ns:Td) (N':Nat) (T:Tr) (a:gJ):Prop where
 m:OMem a.1 a.2.1 n B a.2.2
 pre:∃l,a.2.2=ns++l
 mem:T∈a.2.2
 cnt:CntN a.2.2 N'
 k:OKeep s a.1 K a.2.1
def k7 (f:FuncId)(xs:Tb)(s:St)(K:OB)(n B:Nat)(ns:Td)(N':Nat)(T:Tr):Prop:=
 SCalls Tryz.prog f xs s fun w u=>∃a:gJ,w=.ret (.tup [.int .i64 (ixN a.2.2 T:Nat),.int .i64 0])/\u=a.1/\OpT s K n B ns N' T a
theorem OpC.toT {f:FuncId}{xs:Tb}{s:St}{K:OB}{n B N m:Nat}{ns:Td}{T:Tr}(h:OpC f xs s K n B ns T)(hc:CntN ns N)(hm:SubN T m):k7 f xs s K n B ns (N+m) T:=by
 refine SCalls.mono (h:=h) ?_
 rintro w u ⟨a,rfl,rfl,h1,h2,h3⟩
 exact⟨a,rfl,rfl,h1,h2.pre,h2.mem,hc.ext hm h2,h3⟩
theorem OMem.nomap {s:St}{K:OB}{n B:Nat}{ns:Td}(h:OMem s K n B ns){z:Nat}{es:Tc}(hz:s z=.map es):¬ K.has z:=by
 obtain⟨mk,hm⟩:=h.st.mem
 obtain⟨ps,ht,_⟩:=h.st.tab
 obtain⟨d,c,ho⟩:=h.op
 rintro((e|e|e|e)|e|e)
 ·have:=hm.o;rw[<- e,hz]at this;cases this
 ·have:=hm.r;rw[<- e,hz]at this;cases this
 ·have:=ht.tab.o;rw[<- e,hz]at this;cases this
 ·have:=ht.tab.r;rw[<- e,hz]at this;cases this
 ·rw[<- e,hz]at ho;cases ho
 ·rcases h with h|h
  ·rw[h.c]at e;have:=h.ob;rw[<- e,hz]at this;cases this
  ·obtain⟨xs,he,_⟩:=h.ca;rw[<- e,hz]at he;cases he
structure WKeep (s u:St) (K K':OB) (m:Nat):Prop where
 p:K'.s.p=K.s.p
 q:K'.s.q=K.s.q
 o:K'.o=K.o
 nw:∀z,K'.has z->K.has z\/s z=.free
 out:∀z,s z≠.free->¬ K.has z->z≠m->u z=s z
theorem WKeep.refl (s:St)(K:OB)(m:Nat):WKeep s s K K m:=⟨rfl,rfl,rfl,fun _ h=>.inl h,fun _ _ _ _=>rfl⟩
theorem WKeep.op {a b c:St}{K K' K'':OB}{m:Nat}(h:WKeep a b K K' m)(k:OKeep b c K' K'')(hm:b m≠.free):WKeep a c K K'' m:=by
 refine⟨k.p.trans h.p,k.q.trans h.q,k.o.trans h.o,fun z hz=>?_,fun z hz hn hzm=>?_⟩
 ·rcases k.nw z hz with e|e
  ·exact h.nw z e
  ·by_cases h1:K.has z
   ·exact .inl h1
   ·by_cases h2:a z=.free
    ·exact .inr h2
    ·by_cases h3:z=m
     ·exact absurd (h3 ▸ e) hm
     ·have:=h.out z h2 h1 h3
      rw[e]at this
      exact absurd this.symm h2
 ·have h1:=h.out z hz hn hzm
  rw[<- h1]
  refine k.out z (by rw[h1];exact hz) fun h2=>?_
  rcases h.nw z h2 with e|e
  ·exact hn e
  ·exact hz e
theorem WKeep.set {a b:St}{K K':OB}{m:Nat}{x:Cell}(h:WKeep a b K K' m):WKeep a (b.set m x) K K' m:=
 ⟨h.p,h.q,h.o,h.nw,fun z hz hn hzm=>(j_ _ _ hzm).trans (h.out z hz hn hzm)⟩
def MemoW (ns:Td)(W:Tr->Tr)(me:TY):Prop:=∀k x,lkZ k me=some x->∃u,u∈ns/\W u∈ns/\k=((ixN ns u:Nat):Int)/\x=((ixN ns (W u):Nat):Int)
theorem MemoW.app {ns ns':Td}{W:Tr->Tr}{me:TY}(h:MemoW ns W me)(hp:∃l,ns'=ns++l):MemoW ns' W me:=fun k x hk=>by
 obtain⟨u,h1,h2,h3,h4⟩:=h k x hk
 exact⟨u,(bn hp h1).1,(bn hp h2).1,by rw[(bn hp h1).2];exact h3,by rw[(bn hp h2).2];exact h4⟩
abbrev xO:=St×OB×Td×TY
structure WalkR (s:St) (K:OB) (m n B:Nat) (ns:Td) (W:Tr->Tr) (N':Nat) (T:Tr) (a:xO):Prop where
 om:OMem a.1 a.2.1 n B a.2.2.1
 pre:∃l,a.2.2.1=ns++l
 mem:T∈a.2.2.1
 cnt:CntN a.2.2.1 N'
 k:WKeep s a.1 K a.2.1 m
 me:a.1 m=.map (mpZ cL a.2.2.2)
 ok:MemoW a.2.2.1 W a.2.2.2
def WalkC (q m:Nat)(g:FuncId)(caps:Tb)(W:Tr->Tr)(s0:St)(K0:OB)(s:St)(n B:Nat)(ns:Td)(N':Nat)(t:Tr):Prop:=
 SCalls Tryz.prog 77 [.ptr q 0,.int .i64 (ixN ns t:Nat),.mp m,.fn g caps] s fun w u=>∃a:xO,w=.ret (.tup [.int .i64 (ixN a.2.2.1 (W t):Nat),.int .i64 0])/\u=a.1/\WalkR s0 K0 m n B ns W N' (W t) a
def Fq (m:Nat)(g:FuncId)(caps:Tb)(put:Nat->Tr->Tr->Tr)(c:Nat->Nat)(P:Tr->Prop)(s0:St)(K0:OB)(n B:Nat):Prop:=
 ∀(u:St) (K:OB) (ns:Td) (N v:Nat) (l h:Tr),P (.nd v l h)->WKeep s0 u K0 K m->OMem u K n B ns->walkT put l∈ns->walkT put h∈ns->CntN ns N->N+c v<=B ->
  k7 g ([.int .i64 (v:Int),.int .i64 (ixN ns (walkT put l):Nat),.int .i64 (ixN ns (walkT put h):Nat)]++caps) u K n B ns (N+c v) (put v (walkT put l) (walkT put h))
theorem WalkC.ret {q m:Nat}{g:FuncId}{caps:Tb}{W:Tr->Tr}{s0:St}{K0:OB}{s:St}{K:OB}{n B N:Nat}{ns:Td}{t:Tr}{me:TY}(hO:OMem s K n B ns)(hk:WKeep s0 s K0 K m)(hm:s m=.map (mpZ cL me))(hM:MemoW ns W me)(hc:CntN ns N)(hW:W t∈ns)
  (h:SRet Tryz.prog 77 [.ptr q 0,.int .i64 (ixN ns t:Nat),.mp m,.fn g caps] s (.tup [.int .i64 (ixN ns (W t):Nat),.int .i64 0]) s):WalkC q m g caps W s0 K0 s n B ns N t:=by
 refine SCalls.mono (h:=h) ?_
 rintro w u ⟨rfl,rfl⟩
 exact⟨(u,K,ns,me),rfl,rfl,hO,⟨[],by simp⟩,hW,hc,hk,hm,hM⟩
theorem B4 {q m:Nat}{g:FuncId}{caps:Tb}{put:Nat->Tr->Tr->Tr}{s0:St}{K0:OB}{s:St}{K:OB}{n B N:Nat}{ns:Td}{b:Bool}{me:TY}(hO:OMem s K n B ns)(hk:WKeep s0 s K0 K m)(hm:s m=.map (mpZ cL me))(hM:MemoW ns (walkT put) me)(hc:CntN ns N):WalkC q m g caps (walkT put) s0 K0 s n B ns N (.lf b):=by
 have hN:=hO.st.ok
 refine WalkC.ret hO hk hm hM hc (hN.lf b).1 ?_
 have hk2:ixN ns (.lf b)<2:=by rw[(hN.lf b).2];cases b<;>decide
 simp only[walkT]
 have h1:((ixN ns (.lf b):Nat):Int)<2:=by omega
 generalize ixN ns (.lf b)=k at *
 clear hM hN hk2 hO hk hm hc
 refine am Tryz.func77 rfl Tryz.ntmps77 rfl fun Q hQ hQe=>?_
 (repeat'(first|refine Ctl ?_|((with_reducible refine k_ hK ?_);clear hK hE K E)|((with_reducible refine bZ (fun h=>?_) (fun h=>?_))<;>(try(exfalso;assumption)))|(((with_reducible refine ab fun K E hK hE=>?_))<;>(try simp(disch:=omega) only[go_sem,seval,h1, *]))))
 all_goals(refine aq wP hQ ?_)
 all_goals exact⟨_,_,Wk.refl _,Fg.refl _,rfl,rfl⟩
theorem y6 {q m:Nat}{g:FuncId}{caps:Tb}{put:Nat->Tr->Tr->Tr}{s0:St}{K0:OB}{s:St}{K:OB}{n B N:Nat}{ns:Td}{v:Nat}{l r:Tr}{me:TY}(hO:OMem s K n B ns)(hk:WKeep s0 s K0 K m)(hm:s m=.map (mpZ cL me))(hM:MemoW ns (walkT put) me)(hc:CntN ns N)(ht:.nd v l r∈ns)
  {x:Int} (hx:lkZ ((ixN ns (.nd v l r):Nat):Int) me=some x):WalkC q m g caps (walkT put) s0 K0 s n B ns N (.nd v l r):=by
 have hN:=hO.st.ok
 obtain⟨u,hu,hw,e1,rfl⟩:=hM _ _ hx
 have:=cw ht hu (by omega)
 subst this
 refine WalkC.ret hO hk hm hM hc hw ?_
 have h1:¬ ((ixN ns (.nd v l r):Nat):Int)<2:=by have:=hN.two ht;omega
 have hx1:(lkZ ((ixN ns (.nd v l r):Nat):Int) me).isSome=true:=by rw[hx];rfl
 have hx2:(lkZ ((ixN ns (.nd v l r):Nat):Int) me).getD 0=((ixN ns (walkT put (.nd v l r)):Nat):Int):=by rw[hx];rfl
 clear hx
 generalize ixN ns (.nd v l r)=k at *
 generalize ixN ns (walkT put (.nd v l r))=y at *
 clear hM hN ht hO hu e1 hk hc hw
 refine am Tryz.func77 rfl Tryz.ntmps77 rfl fun Q hQ hQe=>?_
 (repeat'(first|refine Ctl ?_|((with_reducible refine k_ hK ?_);clear hK hE K E)|((with_reducible refine bZ (fun h=>?_) (fun h=>?_))<;>(try(exfalso;assumption)))|(((with_reducible refine ab fun K E hK hE=>?_))<;>(try simp(disch:=omega) only[go_sem,seval,h1,hx1,hx2, *]))))
 all_goals(refine aq wP hQ ?_)
 all_goals exact⟨_,_,Wk.refl _,Fg.refl _,rfl,rfl⟩
theorem B3 {q m:Nat}{g:FuncId}{caps:Tb}{put:Nat->Tr->Tr->Tr}{c:Nat->Nat}{P:Tr->Prop}{s0:St}{K0:OB}{n B:Nat}(hg:an Tryz.prog g)(hP:Fq m g caps put c P s0 K0 n B)(hq:s0 q=.obj 126 [.ptr K0.o 0,.ptr K0.s.p 0])(hqk:¬ K0.has q)(hqm:q≠m)(hmf:s0 m≠.free)(hmk:¬ K0.has m)
  {s:St} {K:OB} {N:Nat} {ns:Td} {v:Nat} {l r:Tr} {me:TY} (hO:OMem s K n B ns) (hk:WKeep s0 s K0 K m) (hm:s m=.map (mpZ cL me)) (hM:MemoW ns (walkT put) me) (hc:CntN ns N) (ht:.nd v l r∈ns) (hp:P (.nd v l r)) (hB:N+du c (.nd v l r)<=B)
  (hx:lkZ ((ixN ns (.nd v l r):Nat):Int) me=none)
  (ihl:∀{s:St} {K:OB} {N:Nat} {ns:Td} {me:TY},OMem s K n B ns->WKeep s0 s K0 K m->s m=.map (mpZ cL me)->MemoW ns (walkT put) me->CntN ns N->l∈ns->N+du c l<=B->WalkC q m g caps (walkT put) s0 K0 s n B ns (N+du c l) l)
  (ihr:∀{s:St} {K:OB} {N:Nat} {ns:Td} {me:TY},OMem s K n B ns->WKeep s0 s K0 K m->s m=.map (mpZ cL me)->MemoW ns (walkT put) me->CntN ns N->r∈ns->N+du c r<=B->WalkC q m g caps (walkT put) s0 K0 s n B ns (N+du c r) r) :
  WalkC q m g caps (walkT put) s0 K0 s n B ns (N+du c (.nd v l r)) (.nd v l r):=by
 have hN:=hO.st.ok
 obtain⟨hl,hr⟩:=hN.ch _ _ _ ht
 simp only[du]at hB
 have h1:¬ ((ixN ns (.nd v l r):Nat):Int)<2:=by have:=hN.two ht;omega
 obtain⟨mk,hnm⟩:=hO.st.mem
 have w1:=c8 s K.s.p K.s.g K.s.q n B (ixN ns (.nd v l r)) ns (.nd v l r) mk 0 hnm (bS ht)
 rw[hk.p]at w1
 have hqf:s0 q≠.free:=by rw[hq];simp
 have hq1:=(hk.out q hqf hqk hqm).trans hq
 have hx1:(lkZ ((ixN ns (.nd v l r):Nat):Int) me).isSome=false:=by rw[hx];rfl
 have w2:=ihl hO hk hm hM hc hl (by omega)
 unfold WalkC at w2 ihr ⊢
 simp only[aW,lowN,highN]at w1
 have HQ:=o_ (fun(u:St) (K':OB) (h:WKeep s0 u K0 K' m)=>(h.out q hqf hqk hqm).trans hq)
 have HIR:=o_ (fun(s:St) (K:OB) (N:Nat) (ns:Td) (me:TY)=>@ihr s K N ns me)
 have HT:=o_ ht
 have HR:=o_ hr
 have HPP:=o_ hp
 have HP:=o_ hP
 have HB:=o_ hB
 have HMF:=o_ hmf
 have HMK:=o_ hmk
 clear hO hk hM hN hnm hc hl hr ht hp hP ihl ihr hx hB hq hqf hqk hqm hmf hmk
 generalize hkk:ixN ns (.nd v l r)=kk at *
 generalize hkl:ixN ns l=kl at *
 generalize hkr:ixN ns r=kr at *
 have HKK:=o_ hkk
 have HKR:=o_ hkr
 clear hkk hkl hkr
 refine am Tryz.func77 rfl Tryz.ntmps77 rfl fun Q hQ hQe=>?_
 (repeat'(first|refine Ctl ?_|((with_reducible refine k_ hK ?_);clear hK hE K E)|((with_reducible refine bZ (fun h=>?_) (fun h=>?_))<;>(try(exfalso;assumption)))|(((with_reducible first|refine ab fun K E hK hE=>?_|refine ae ey (w1) ?_))<;>(try simp(disch:=omega) only[go_sem,seval,h1,hx1, *]))))
 refine ao xF w2 (fun a h=>?_)
 obtain⟨u1,K1,ns1,me1⟩:=a
 obtain⟨a1,a2,a3,a4,a5,a6,a7⟩:=h
 dsimp only at a1 a2 a3 a4 a5 a6 a7 ⊢
 obtain⟨r1,r2⟩:=bn a2 HR.out
 obtain⟨t1,t2⟩:=bn a2 HT.out
 have w3:=HIR.out _ _ _ _ _ a1 a5 a6 a7 a4 r1 (by have:=HB.out;omega)
 rw[r2,HKR.out]at w3
 rw[HKK.out]at t2
 have HT1:=o_ t1
 have HT2:=o_ t2
 have HL:=o_ a3
 have HA2:=o_ a2
 clear w1 w2 r1 r2 t1 t2 a1 a2 a3 a4 a5 a6 a7
 generalize hkl1:ixN ns1 (walkT put l)=kl1 at *
 have HKL1:=o_ hkl1
 clear hkl1
 simp only[go_sem,seval]
 (repeat'(first|refine Ctl ?_|((with_reducible refine k_ hK ?_);clear hK hE K E)|((with_reducible refine bZ (fun h=>?_) (fun h=>?_))<;>(try(exfalso;assumption)))|(((with_reducible refine ab fun K E hK hE=>?_))<;>(try simp(disch:=omega) only[go_sem,seval, *]))))
 refine ao xF w3 (fun a h=>?_)
 obtain⟨u2,K2,ns2,me2⟩:=a
 obtain⟨a1,a2,a3,a4,a5,a6,a7⟩:=h
 dsimp only at a1 a2 a3 a4 a5 a6 a7 ⊢
 obtain⟨l1,l2⟩:=bn a2 HL.out
 obtain⟨t1,t2⟩:=bn a2 HT1.out
 rw[HKL1.out]at l2
 rw[HT2.out]at t2
 have w4:=HP.out _ _ _ _ _ _ _ HPP.out a5 a1 l1 a3 a4 (by have:=HB.out;omega)
 rw[l2]at w4
 have HT3:=o_ t1
 have HT4:=o_ t2
 have HA3:=o_ a2
 have HK2:=o_ a5
 have HM2:=o_ a7
 have HME2:=o_ a6
 clear w3 l1 l2 t1 t2 a1 a2 a3 a4 a5 a6 a7
 generalize hkr2:ixN ns2 (walkT put r)=kr2 at *
 clear hkr2
 unfold k7 at w4
 simp only[go_sem,seval]
 (repeat'(first|refine Ctl ?_|((with_reducible refine k_ hK ?_);clear hK hE K E)|((with_reducible refine bZ (fun h=>?_) (fun h=>?_))<;>(try(exfalso;assumption)))|(((with_reducible refine ab fun K E hK hE=>?_))<;>(try simp(disch:=omega) only[go_sem,seval, *]))))
 refine ao hg w4 (fun a h=>?_)
 obtain⟨u3,K3,ns3⟩:=a
 obtain⟨a1,a2,a3,a4,a5⟩:=h
 dsimp only at a1 a2 a3 a4 a5 ⊢
 have hmf2:u2 m≠.free:=by rw[HME2.out];simp
 have k3:=HK2.out.op a5 hmf2
 have hmk2:¬ K2.has m:=fun e=>by
  rcases HK2.out.nw m e with e|e
  ·exact HMK.out e
  ·exact HMF.out e
 have hm3:u3 m=.map (mpZ cL me2):=(a5.out m hmf2 hmk2).trans HME2.out
 have hmk3:¬ K3.has m:=a1.nomap hm3
 obtain⟨t1,t2⟩:=bn a2 HT3.out
 rw[HT4.out]at t2
 have HFIN:Hid (∀x:Int,x=((ixN ns3 (put v (walkT put l) (walkT put r)):Nat):Int)->WalkR s0 K0 m n B ns (walkT put) (N+(du c l+du c r+c v)) (walkT put (.nd v l r)) (u3.set m (.map (mpZ cL (ptZ (kk:Int) x me2))),K3,ns3,ptZ (kk:Int) x me2)):=o_ fun x hxx=>by
  obtain⟨x1,hx1⟩:=HA2.out
  obtain⟨x2,hx2⟩:=HA3.out
  obtain⟨x3,hx3⟩:=a2
  refine⟨a1.keep fun z hz=>j_ _ _ fun e=>hmk3 (e ▸ hz),⟨x1++x2++x3,by rw[hx3,hx2,hx1];simp⟩,a3,?_,k3.set,q_ _ _ _,?_⟩
  ·exact a4.mono (by omega)
  ·intro k y hk
   rw[nZ]at hk
   by_cases e:k=(kk:Int)
   ·rw[if_pos e]at hk
    injection hk with hk
    exact⟨_,t1,a3,by rw[e,t2],by rw[<- hk,hxx];rfl⟩
   ·rw[if_neg e]at hk
    exact(HM2.out.app ⟨x3,hx3⟩) _ _ hk
 clear w4 a1 a2 a3 a4 a5 hmf2 k3 hmk2 hmk3 t1 t2
 generalize hkx:ixN ns3 (put v (walkT put l) (walkT put r))=kx at *
 have HKX:=o_ hkx
 clear hkx
 simp only[go_sem,seval]
 (repeat'(first|refine Ctl ?_|((with_reducible refine k_ hK ?_);clear hK hE K E)|((with_reducible refine bZ (fun h=>?_) (fun h=>?_))<;>(try(exfalso;assumption)))|(((with_reducible refine ab fun K E hK hE=>?_))<;>(try simp(disch:=omega) only[go_sem,seval, *]))))
 all_goals(refine aq wP hQ ?_)
 all_goals exact⟨_,_,Wk.refl _,Fg.refl _,(_,K3,ns3,_),congrArg (fun z:Nat=>SEnd.ret (.tup [.int .i64 (z:Int),.int .i64 0])) HKX.out.symm,rfl,HFIN.out _ rfl⟩
theorem mP {q m:Nat}{g:FuncId}{caps:Tb}{put:Nat->Tr->Tr->Tr}{c:Nat->Nat}{P:Tr->Prop}{s0:St}{K0:OB}{n B:Nat}(hg:an Tryz.prog g)(hP:Fq m g caps put c P s0 K0 n B)(hq:s0 q=.obj 126 [.ptr K0.o 0,.ptr K0.s.p 0])(hqk:¬ K0.has q)(hqm:q≠m)(hmf:s0 m≠.free)(hmk:¬ K0.has m)(hPc:∀v l h,P (.nd v l h)->P l/\P h) :
  ∀(t:Tr) {s:St} {K:OB} {N:Nat} {ns:Td} {me:TY},P t->OMem s K n B ns->WKeep s0 s K0 K m->s m=.map (mpZ cL me)->MemoW ns (walkT put) me->CntN ns N->t∈ns->N+du c t<=B->WalkC q m g caps (walkT put) s0 K0 s n B ns (N+du c t) t
 |.lf b,s,K,N,ns,me,hp,hO,hk,hm,hM,hc,ht,hB=>B4 hO hk hm hM hc
 |.nd v l r,s,K,N,ns,me,hp,hO,hk,hm,hM,hc,ht,hB=>by
  obtain⟨p1,p2⟩:=hPc _ _ _ hp
  cases hx:lkZ ((ixN ns (.nd v l r):Nat):Int) me with
  |some x=>
   have:=y6 (q:=q) (g:=g) (caps:=caps) hO hk hm hM (hc.mono (Nat.le_add_right N (du c (.nd v l r)))) ht hx
   exact this
  |none=>exact B3 hg hP hq hqk hqm hmf hmk hO hk hm hM hc ht hp hB hx (fun a b d e f g h=>mP hg hP hq hqk hqm hmf hmk hPc l p1 a b d e f g h) (fun a b d e f g h=>mP hg hP hq hqk hqm hmf hmk hPc r p2 a b d e f g h)
theorem mL {S:TW}:∀{t:Tr},InV S t->DepF S (evT t)
 |.lf b,_,x,y,e=>rfl
 |.nd v l h,⟨h1,h2,h3⟩,x,y,e=>by
  simp only[evT]
  rw[e v h1,mL h2 x y e,mL h3 x y e]
theorem CK {n m:Nat}{S:TW}{t:Tr}(ho:OkT n m t)(hi:InV S t):SubN t (2 ^ kkS S m - 1):=by
 refine(SubN.self t).mono ?_
 have:=jB ho hi
 rw[<- List.countP_eq_length_filter]at this
 exact Nat.le_sub_one_of_lt this
theorem G3 {s:St}{K:OB}{n B v N m:Nat}{ns:Td}{a b:Tr}(hO:OMem s K n B ns)(ma:a∈ns)(mb:b∈ns)(oa:OkT n (v+1) a)(ob:OkT n (v+1) b)(hv:v<n)(hc:CntN ns N)(hm:SubN (mkT v a b) m)(hB:N+m<=B) :
  k7 79 [.ptr K.s.p 0,.int .i64 v,.int .i64 (ixN ns a:Nat),.int .i64 (ixN ns b:Nat)] s K n B ns (N+m) (mkT v a b):=by
 refine SCalls.mono (h:=xU hO.st ma mb oa ob hv (.of hc hm hB)) ?_
 rintro w u ⟨⟨u,K',ns'⟩,rfl,rfl,h1,h2,h3⟩
 exact⟨(u,⟨K',K.o,K.c⟩,ns'),rfl,rfl,hO.mk h1 h2 h3,h2.pre,h2.mem,hc.ext hm h2,h3.toO⟩
theorem vR {s:St}{K:OB}{n B q:Nat}{ns:Td}(hO:OMem s K n B ns)(hq:s q=.obj 126 [.ptr K.o 0,.ptr K.s.p 0])(vs ks:TW)(ow ow2:Own)(hv:∀v,v∈vs->v<n)(hl:vs.length<=256)(hk:∀k,k∈ks->k<ns.length)(hkl:ks.length<=1000000) :
  SRet Tryz.prog 75 [.ptr q 0,.lst (ak vs) ow,.lst (ak ks) ow2] s (.int .i64 0) s:=by
 have hvl:(ak vs).length=vs.length:=natsL_len
 have hkl2:(ak ks).length=ks.length:=natsL_len
 have hat:=fun i k (h:vs[i]?=some k)=>aH h
 have hak:=fun i k (h:ks[i]?=some k)=>aH h
 obtain⟨mk,hm⟩:=hO.st.mem
 have w1:=fun(k:Nat) (t:Tr) (hk:ns[k]?=some t)=>c8 s K.s.p K.s.g K.s.q n B k ns t mk 0 hm hk
 have w2:=kI s K.s.p K.s.g K.s.q n B ns mk 0 hm
 have h256:¬ (vs.length:Int) > 256:=by omega
 generalize K.o=o at *
 generalize K.s.p=p at *
 clear hm hO
 have HV:=o_ hv
 have HK:=o_ hk
 have HA:=o_ hat
 have HAK:=o_ hak
 have HW:=o_ w1
 clear hv hk hat hak w1
 generalize ak vs=V at *
 generalize ak ks=L at *
 refine am Tryz.func75 rfl Tryz.ntmps75 rfl fun Q hQ hQe=>?_
 (repeat'(first|refine Ctl ?_|((with_reducible refine k_ hK ?_);clear hK hE K E)|((with_reducible refine bZ (fun h=>?_) (fun h=>?_))<;>(try(exfalso;assumption)))|(((with_reducible refine ab fun K E hK hE=>?_))<;>(try simp(disch:=omega) only[go_sem,seval,hvl,h256, *]))))
 refine aY (fun m env s'=>∃(i:Nat),i<=vs.length/\m+i=vs.length/\s'=s/\env 0=.ptr q 0/\env 2=.lst L ow2/\env 29=.lst V ow/\env 30=.int .i64 vs.length/\env 31=.int .i64 i) vs.length
  ⟨0,by omega,by omega,rfl,ac,ac,ac,ac,ac⟩ ?_
 rintro m env s' ⟨i,hi,hmi,rfl,e0,e2,e29,e30,e31⟩
 by_cases h2:i<vs.length
 ·have hk:=m_ h2
  have hvn:=HV.out _ (y_ hk)
  have hx:=HA.out _ _ hk
  clear hk
  generalize vs[i]=v at *
  have c1:¬ (v:Int)<0:=by omega
  have c2:¬ (v:Int)>=(n:Int):=by omega
  (repeat'(first|refine Ctl ?_|((with_reducible refine k_ hK ?_);clear hK hE K E)|((with_reducible refine bZ (fun h=>?_) (fun h=>?_))<;>(try(exfalso;assumption)))|(((with_reducible first|refine ab fun K E hK hE=>?_|refine ae oX (w2) ?_))<;>(try simp(disch:=omega) only[go_sem,seval,hx,c1,c2, *]))))
  all_goals exact⟨m - 1,by omega,i+1,by omega,by omega,rfl,ac,ac,ac,ac,ac⟩
 ·(repeat'(first|refine Ctl ?_|((with_reducible refine k_ hK ?_);clear hK hE K E)|((with_reducible refine bZ (fun h=>?_) (fun h=>?_))<;>(try(exfalso;assumption)))|(((with_reducible refine ab fun K E hK hE=>?_))<;>(try simp(disch:=omega) only[go_sem,seval,hkl2, *]))))
  refine aY (fun m env s''=>∃(i:Nat),i<=ks.length/\m+i=ks.length/\s''=s'/\env 0=.ptr q 0/\env 47=.lst L ow2/\env 48=.int .i64 ks.length/\env 49=.int .i64 i) ks.length
   ⟨0,by omega,by omega,rfl,ac,ac,ac,ac⟩ ?_
  clear e0 e2 e29 e30 e31
  rintro m env s'' ⟨i,hi,hmi,rfl,e0,e47,e48,e49⟩
  by_cases h3:i<ks.length
  ·have hk:=m_ h3
   have hkn:=HK.out _ (y_ hk)
   have hx:=HAK.out _ _ hk
   have w1:=HW.out _ _ (m_ hkn)
   clear hk
   generalize ks[i]=k at *
   (repeat'(first|refine Ctl ?_|((with_reducible refine k_ hK ?_);clear hK hE K E)|((with_reducible refine bZ (fun h=>?_) (fun h=>?_))<;>(try(exfalso;assumption)))|(((with_reducible first|refine ab fun K E hK hE=>?_|refine ae ey (w1) ?_))<;>(try simp(disch:=omega) only[go_sem,seval,hx, *]))))
   all_goals exact⟨m - 1,by omega,i+1,by omega,by omega,rfl,ac,ac,ac,ac⟩
  ·(repeat'(first|refine Ctl ?_|((with_reducible refine k_ hK ?_);clear hK hE K E)|((with_reducible refine bZ (fun h=>?_) (fun h=>?_))<;>(try(exfalso;assumption)))|(((with_reducible refine ab fun K E hK hE=>?_))<;>(try simp(disch:=omega) only[go_sem,seval, *]))))
   all_goals(refine aq FS hQ ?_)
   all_goals exact⟨_,_,Wk.refl _,Fg.refl _,rfl,rfl⟩
theorem B5 (s:St)(vs:TW)(ow:Own)(hn:vs.Nodup)(hl:vs.length<=1000000) :
  SCalls Tryz.prog 76 [.lst (ak vs) ow] s fun w u=>∃a:St×Nat,w=.ret (.mp a.2)/\u=a.1/\s a.2=.free/\a.1=s.set a.2 (.map (mpZ bP (aS vs))):=by
 have hvl:(ak vs).length=vs.length:=natsL_len
 have hat:=fun i k (h:vs[i]?=some k)=>aH h
 have HA:=o_ hat
 have HN:=o_ hn
 clear hat hn
 generalize ak vs=V at *
 refine am Tryz.func76 rfl Tryz.ntmps76 rfl fun Q hQ hQe=>?_
 (repeat'(first|refine Ctl ?_|((with_reducible refine k_ hK ?_);clear hK hE K E)|((first|(with_reducible refine ab fun K E hK hE=>?_)|((with_reducible refine au (fun b hb=>?_))))<;>(try simp(disch:=omega) only[go_sem,seval,hvl, *]))))
 obtain⟨bm,hbm⟩:∃z,z=b:=⟨_,rfl⟩
 subst hbm
 have HBM:=o_ hb
 refine aY (fun m env s'=>∃(i:Nat),i<=vs.length/\m+i=vs.length/\s'=s.set bm (.map (mpZ bP (aS (vs.take i))))/\env 3=.mp bm/\env 7=.lst V ow/\env 8=.int .i64 vs.length/\env 9=.int .i64 i) vs.length
  ⟨0,by omega,by omega,rfl,ac,ac,ac,ac⟩ ?_
 rintro m env s' ⟨i,hi,hmi,rfl,e3,e7,e8,e9⟩
 by_cases h2:i<vs.length
 ·have hk:=m_ h2
  have hx:=HA.out _ _ hk
  generalize vs[i]=k at hk hx
  have htk:vs.take (i+1)=vs.take i++[k]:=by rw[List.take_add_one,hk];rfl
  have hin:k∉vs.take i:=fun hin=>by
   have h1:(vs.take (i+1)).Nodup:=HN.out.sublist (List.take_sublist _ _)
   rw[htk,List.nodup_append]at h1
   exact h1.2.2 k hin k (by simp) rfl
  have hpt:=jE hin
  rw[<- htk]at hpt
  clear hk htk hin
  (repeat'(first|refine Ctl ?_|((with_reducible refine k_ hK ?_);clear hK hE K E)|((with_reducible refine bZ (fun h=>?_) (fun h=>?_))<;>(try(exfalso;assumption)))|(((with_reducible refine ab fun K E hK hE=>?_))<;>(try simp(disch:=omega) only[go_sem,seval,hx,hpt, *]))))
  all_goals exact⟨m - 1,by omega,i+1,by omega,by omega,rfl,ac,ac,ac,ac⟩
 ·have hin:i=vs.length:=by omega
  rw[hin,b_]
  (repeat'(first|refine Ctl ?_|((with_reducible refine k_ hK ?_);clear hK hE K E)|((with_reducible refine bZ (fun h=>?_) (fun h=>?_))<;>(try(exfalso;omega)))|(((with_reducible refine ab fun K E hK hE=>?_))<;>(try simp(disch:=omega) only[go_sem,seval, *]))))
  all_goals(refine aq FQ hQ ?_)
  exact⟨_,_,Wk.refl _,Fg.refl _,(_,bm),rfl,rfl,HBM.out,rfl⟩
structure CloS (u:St) (K:OB) (q bq bg mg:Nat) (T:TypeId) (es:Tc):Prop where
 o1:u q=.obj 126 [.ptr K.o 0,.ptr K.s.p 0]
 o2:u bq=.obj 60 [.ptr q 0]
 o3:u bg=.obj T [.mp mg]
 o4:u mg=.map es
theorem zk {u:St}{K:OB}{n B N m q bq bg mg v:Nat}{ns:Td}{a b:Tr}{vs:TW}(hC:CloS u K q bq bg mg 83 (mpZ bP (aS vs)))(hO:OMem u K n B ns)(ma:a∈ns)(mb:b∈ns)(oa:OkT n (v+1) a)(ob:OkT n (v+1) b)(hv:v<n)(hc:CntN ns N)
  (hm:SubN (exP n (fun v=>decide (v∈vs)) v a b) m) (hB:N+m<=B) :
  k7 78 [.int .i64 (v:Int),.int .i64 (ixN ns a:Nat),.int .i64 (ixN ns b:Nat),.ptr bg 0,.ptr bq 0] u K n B ns (N+m) (exP n (fun v=>decide (v∈vs)) v a b):=by
 have hlk:=fO (k:=v) (ks:=vs)
 obtain⟨c1,c2,c3,c4⟩:=hC
 by_cases hin:v∈vs
 ·have e:exP n (fun v=>decide (v∈vs)) v a b=iteT n a (.lf true) b:=by simp[exP,hin]
  rw[e]at hm ⊢
  rw[decide_eq_true hin]at hlk
  have wo:=(GZ hO ma mb (.of hc hm hB)).toT hc hm
  unfold k7 at wo ⊢
  clear hO ma mb oa ob hc hm hB hin e
  generalize ixN ns a=ka at *
  generalize ixN ns b=kb at *
  generalize aS vs=Z at *
  refine am Tryz.func78 rfl Tryz.ntmps78 rfl fun Q hQ hQe=>?_
  (repeat'(first|refine Ctl ?_|((with_reducible refine k_ hK ?_);clear hK hE K E)|((with_reducible refine bZ (fun h=>?_) (fun h=>?_))<;>(try(exfalso;assumption)))|(((with_reducible refine ab fun K E hK hE=>?_))<;>(try simp(disch:=omega) only[go_sem,seval,hlk, *]))))
  refine ao xH wo (fun a h=>?_)
  obtain⟨u3,K3,ns3⟩:=a
  have H:=o_ h
  dsimp only
  clear h wo
  simp only[go_sem,seval]
  (repeat'(first|refine Ctl ?_|((with_reducible refine k_ hK ?_);clear hK hE K E)))
  (refine aq zW hQ ?_)
  exact⟨_,_,Wk.refl _,Fg.refl _,(u3,K3,ns3),rfl,rfl,H.out⟩
 ·have e:exP n (fun v=>decide (v∈vs)) v a b=mkT v a b:=by simp[exP,hin]
  rw[e]at hm ⊢
  rw[decide_eq_false hin]at hlk
  have wo:=G3 hO ma mb oa ob hv hc hm hB
  unfold k7 at wo ⊢
  clear hO ma mb oa ob hc hm hB hin e
  generalize ixN ns a=ka at *
  generalize ixN ns b=kb at *
  generalize aS vs=Z at *
  refine am Tryz.func78 rfl Tryz.ntmps78 rfl fun Q hQ hQe=>?_
  (repeat'(first|refine Ctl ?_|((with_reducible refine k_ hK ?_);clear hK hE K E)|((with_reducible refine bZ (fun h=>?_) (fun h=>?_))<;>(try(exfalso;assumption)))|(((with_reducible refine ab fun K E hK hE=>?_))<;>(try simp(disch:=omega) only[go_sem,seval,hlk, *]))))
  refine ao oW wo (fun a h=>?_)
  obtain⟨u3,K3,ns3⟩:=a
  have H:=o_ h
  dsimp only
  clear h wo
  simp only[go_sem,seval]
  (repeat'(first|refine Ctl ?_|((with_reducible refine k_ hK ?_);clear hK hE K E)))
  (refine aq zW hQ ?_)
  exact⟨_,_,Wk.refl _,Fg.refl _,(u3,K3,ns3),rfl,rfl,H.out⟩
theorem EQ {n m:Nat}{S:TW}{gone:Tg}{t:Tr}(ho:OkT n m t)(hi:InV S t):InV S (exT n gone t):=by
 refine oD (gE ho) ?_
 have e:evT (exT n gone t)=exF gone (evT t):=by
  funext x
  rw[Bool.eq_iff_iff,rr ho,mM]
 rw[e]
 exact(ER (mL hi)).mono fun v hv=>(List.mem_filter.1 hv).1
theorem tG {n:Nat}{S:TW}{c:Nat->Nat}(hc:∀v,c v<=2 ^ kkS S v+1){t:Tr}(ho:OkT n 0 t)(hi:InV S t):du c t<=(S.length+2) * 2 ^ S.length:=by
 have h:=rB hc (fun p q h=>AY h) (fun v h=>AW h) ho hi
 have h2:(kkS S 0+2) * 2 ^ kkS S 0<=(S.length+2) * 2 ^ S.length:=Nat.mul_le_mul (Nat.add_le_add_right AZ 2) (Nat.pow_le_pow_right (by omega) AZ)
 omega
theorem WKeep.toO {s u a:St}{K K':OB}{m:Nat}(h:WKeep u a K K' m)(hg:∀z,s z≠.free->u z=s z)(hm:s m=.free):OKeep s a K K':=
 ⟨h.p,h.q,h.o,fun z hz=>by
  rcases h.nw z hz with e|e
  ·exact .inl e
  ·refine .inr ?_
   by_cases h1:s z=.free
   ·exact h1
   ·exact(hg z h1).symm.trans e,fun z hz hn=>by
  have h1:=hg z hz
  exact(h.out z (by rw[h1];exact hz) hn fun e=>hz (e ▸ hm)).trans h1⟩
theorem y8 {s:St}{KK:OB}{n B N q:Nat}{ns:Td}{f:Tf}{S vs:TW}(hO:OMem s KK n B ns)(hq:s q=.obj 126 [.ptr KK.o 0,.ptr KK.s.p 0])(hf:DepF S f)(hS:∀v,v∈S->v<n)(mf:treeT n f∈ns)(ow:Own)(hvn:vs.Nodup)(hv:∀v,v∈vs->v<n)(hl:vs.length<=256)(hc:CntN ns N)(hB:N+(S.length+2) * 2 ^ S.length<=B) :
  OpFC 44 [.ptr q 0,.int .i64 (ixF n ns f:Nat),.lst (ak vs) ow] s KK n B ns (N+(S.length+2) * 2 ^ S.length) (exF (fun v=>decide (v∈vs)) f):=by
 have hqf:s q≠.free:=by rw[hq];simp
 have hqk:¬ KK.has q:=hO.types hq (by decide) (by decide) (by decide)
 have hm0:=fun(u:St) (h:∀z,s z≠.free->u z=s z)=>vR (hO.keep fun z hz=>h z (hO.live hz)) ((h q hqf).trans hq) vs [ixF n ns f] ow .full hv hl (fun k hk=>by rw[a_]at hk;subst hk;exact gD mf) (by simp)
 rw[show ak [ixF n ns f]=[[.int .i64 ((ixF n ns f:Nat):Int)]] from rfl]at hm0
 have WM:=o_ hm0
 have HO:=o_ hO
 have HQ:=o_ hq
 clear hm0
 refine am Tryz.func44 rfl Tryz.ntmps44 rfl fun Q hQ hQe=>?_
 (repeat'(first|refine Ctl ?_|((with_reducible refine k_ hK ?_);clear hK hE K E)|((first|(with_reducible refine ab fun K E hK hE=>?_)|((with_reducible refine au (fun b hb=>?_))))<;>(try simp(disch:=omega) only[go_sem,seval, *]))))
 obtain⟨bq,hbq⟩:∃z,z=b:=⟨_,rfl⟩
 subst hbq
 obtain⟨u0,hu0⟩:∃u,u=s.set bq (.obj 60 [.ptr q 0]):=⟨_,rfl⟩
 rw[<- hu0]
 have g0:∀z,s z≠.free->u0 z=s z:=fun z hz=>by rw[hu0,j_ _ _ (nef hb hz).1]
 have k0:u0 bq=.obj 60 [.ptr q 0]:=by rw[hu0,q_]
 have wm:=WM.out u0 g0
 have ws:=B5 u0 vs ow hvn (by omega)
 have hbs:s bq=.free:=hb
 clear hu0 hb
 (repeat'(first|refine Ctl ?_|((with_reducible refine k_ hK ?_);clear hK hE K E)|((with_reducible refine bZ (fun h=>?_) (fun h=>?_))<;>(try(exfalso;assumption)))|(((with_reducible first|refine ab fun K E hK hE=>?_|refine ae BC (wm) ?_))<;>(try simp(disch:=omega) only[go_sem,seval, *]))))
 refine ao GJ ws (fun a h=>?_)
 obtain⟨u1,mg⟩:=a
 obtain⟨hmf,hu1⟩:=h
 dsimp only at hmf hu1 ⊢
 have g1:∀z,u0 z≠.free->u1 z=u0 z:=fun z hz=>by rw[hu1,j_ _ _ (nef hmf hz).1]
 have m1:u1 mg=.map (mpZ bP (aS vs)):=by rw[hu1,q_]
 have k1:u1 bq=.obj 60 [.ptr q 0]:=(g1 bq (by rw[k0];simp)).trans k0
 clear hu1 ws wm
 simp only[go_sem,seval]
 have hbqf:u1 bq≠.free:=by rw[k1];simp
 (repeat'(first|refine Ctl ?_|((with_reducible refine k_ hK ?_);clear hK hE K E)|((first|(with_reducible refine ab fun K E hK hE=>?_)|((with_reducible refine au (fun b hb=>?_));(repeat(obtain⟨_,hb⟩:=hb));(try(obtain⟨_,_⟩:=nef hb hbqf))))<;>(try simp(disch:=omega) only[go_sem,seval, *]))))
 rename_i bg hbg _ _ _ _ _ _
 obtain⟨m,hmm⟩:∃z,z=b:=⟨_,rfl⟩
 subst hmm
 have hbm:u1 m=.free:=hb
 obtain⟨u2,hu2⟩:∃u,u=(u1.set bg (.obj 83 [.mp mg])).set m (.map []):=⟨_,rfl⟩
 rw[<- hu2]
 have hsf:∀z,s z≠.free->u1 z=s z:=fun z hz=>(g1 z (by rw[g0 z hz];exact hz)).trans (g0 z hz)
 have g2:∀z,u1 z≠.free->u2 z=u1 z:=fun z hz=>by rw[hu2,j_ _ _ (nef hbm hz).1,j_ _ _ (nef hbg hz).1]
 have g3:∀z,s z≠.free->u2 z=s z:=fun z hz=>(g2 z (by rw[hsf z hz];exact hz)).trans (hsf z hz)
 have m2:u2 m=.map (mpZ cL []):=by rw[hu2,q_];rfl
 have c3:u2 bg=.obj 83 [.mp mg]:=by rw[hu2,j_ _ _ (‹_›),q_]
 have c2:u2 bq=.obj 60 [.ptr q 0]:=(g2 bq (by rw[k1];simp)).trans k1
 have c4:u2 mg=.map (mpZ bP (aS vs)):=(g2 mg (by rw[m1];simp)).trans m1
 have c1:u2 q=.obj 126 [.ptr KK.o 0,.ptr KK.s.p 0]:=(g3 q hqf).trans hq
 have hO2:OMem u2 KK n B ns:=hO.keep fun z hz=>g3 z (hO.live hz)
 have hsm:s m=.free:=by
  by_cases e:s m=.free
  ·exact e
  ·exact absurd (hsf m e ▸ hbm) e
 have hmne:m≠mg:=fun e=>by rw[e]at hbm;rw[m1]at hbm;cases hbm
 have e1:¬ KK.has bq:=hO2.types c2 (by decide) (by decide) (by decide)
 have e2:¬ KK.has bg:=hO2.types c3 (by decide) (by decide) (by decide)
 have e3:¬ KK.has mg:=hO2.nomap c4
 have e4:¬ KK.has m:=hO2.nomap m2
 have n1:q≠m:=fun e=>by rw[<- e]at m2;rw[c1]at m2;cases m2
 have n2:bq≠m:=fun e=>by rw[<- e]at m2;rw[c2]at m2;cases m2
 have n3:bg≠m:=fun e=>by rw[<- e]at m2;rw[c3]at m2;cases m2
 have hput:Fq m 78 [.ptr bg 0,.ptr bq 0] (exP n fun v=>decide (v∈vs)) (fun v=>2 ^ kkS S v) (fun t=>∃j,OkT n j t/\InV S t) u2 KK n B:=by
  rintro u K ns N v l h ⟨j,ho,hi⟩ hk hO ml mh hc hB
  obtain⟨o1,o2,o3,o4,o5⟩:=ho
  have hCl:CloS u K q bq bg mg 83 (mpZ bP (aS vs)):=⟨by rw[hk.out q (by rw[c1];simp) hqk n1,c1,hk.o,hk.p],by rw[hk.out bq (by rw[c2];simp) e1 n2,c2],by rw[hk.out bg (by rw[c3];simp) e2 n3,c3],by rw[hk.out mg (by rw[c4];simp) e3 fun e=>hmne e.symm,c4]⟩
  have ho2:OkT n v (.nd v l h):=⟨Nat.le_refl _,o2,o3,o4,o5⟩
  have hsub:SubN (exP n (fun v=>decide (v∈vs)) v (walkT (exP n fun v=>decide (v∈vs)) l) (walkT (exP n fun v=>decide (v∈vs)) h)) (2 ^ kkS S v):=
   (CK (gE (gone:=fun v=>decide (v∈vs)) ho2) (EQ (gone:=fun v=>decide (v∈vs)) ho2 hi)).mono (Nat.sub_le _ _)
  exact zk hCl hO ml mh (gE (gone:=fun v=>decide (v∈vs)) o4) (gE (gone:=fun v=>decide (v∈vs)) o5) o2 hc hsub hB
 have hto:OkT n 0 (treeT n f):=cQ
 have hti:InV S (treeT n f):=eH hS hf
 have hcost:du (fun v=>2 ^ kkS S v) (treeT n f)<=(S.length+2) * 2 ^ S.length:=tG (fun v=>Nat.le_succ _) hto hti
 have w:=mP (q:=q) (caps:=[.ptr bg 0,.ptr bq 0]) P3 hput c1 hqk n1 (by rw[m2];simp) e4 (fun v l h ⟨j,ho,hi⟩=>⟨⟨_,ho.2.2.2.1,hi.2.1⟩,⟨_,ho.2.2.2.2,hi.2.2⟩⟩) (treeT n f) (N:=N) (ns:=ns) (me:=[]) ⟨0,hto,hti⟩ hO2 (.refl _ _ _) m2 (fun k x hk=>by cases hk) hc mf (by omega)
 unfold WalkC at w
 have HF:=o_ (fun(a:xO) (h:WalkR u2 KK m n B ns (walkT (exP n fun v=>decide (v∈vs))) (N+du (fun v=>2 ^ kkS S v) (treeT n f)) (walkT (exP n fun v=>decide (v∈vs)) (treeT n f)) a)=>show OpF s KK n B ns (N+(S.length+2) * 2 ^ S.length) (exF (fun v=>decide (v∈vs)) f) (a.1,a.2.1,a.2.2.1) from by
  have e:walkT (exP n fun v=>decide (v∈vs)) (treeT n f)=treeT n (exF (fun v=>decide (v∈vs)) f):=tw (hf.hang hS)
  exact⟨h.om,h.pre,e ▸ h.mem,h.cnt.mono (by omega),h.k.toO g3 hsm⟩)
 have HE:=o_ (show walkT (exP n fun v=>decide (v∈vs)) (treeT n f)=treeT n (exF (fun v=>decide (v∈vs)) f) from tw (hf.hang hS))
 clear hput hto hti hcost hu2 g0 g1 g2 g3 hsf m2 c1 c2 c3 c4 hO2 hsm hmne e1 e2 e3 e4 n1 n2 n3 hO hq hf hS mf hv hc hB HO HQ WM k0 hbs hmf m1 k1 hbqf
 change SCalls Tryz.prog _ [.ptr q 0,.int .i64 ((ixF n ns f:Nat):Int),_,_] _ _ at w
 refine ao xF w (fun a h=>?_)
 obtain⟨u3,K3,ns3,me3⟩:=a
 have HF3:=o_ (HF.out _ h)
 dsimp only at HF3 ⊢
 rw[HE.out]
 clear h w HF
 simp only[go_sem,seval]
 (repeat'(first|refine Ctl ?_|((with_reducible refine k_ hK ?_);clear hK hE K E)))
 all_goals(refine aq Gc hQ ?_)
 all_goals exact⟨_,_,Wk.refl _,Fg.refl _,(u3,K3,ns3),rfl,rfl,HF3.out⟩
def cM:Tr->Nat
 |.lf _=>0
 |.nd v l h=>(cM l ||| cM h) ||| 2 ^ v
theorem tP {i:Nat}:∀{t:Tr},(cM t).testBit i=dh i t
 |.lf _=>by simp[cM,dh]
 |.nd v l h=>by
  simp only[cM,dh,Nat.testBit_or,tP,Nat.testBit_two_pow]
  by_cases e:v=i
  ·subst e;simp
  ·have e2:¬ i=v:=fun h=>e h.symm
   have e3:(i == v)=false:=by simpa using e2
   simp[e,e3]
theorem kE {n:Nat}:∀{t:Tr} {m:Nat},OkT n m t->cM t<2 ^ n
 |.lf _,_,_=>Nat.two_pow_pos n
 |.nd v l h,m,⟨h1,h2,h3,h4,h5⟩=>Nat.or_lt_two_pow (Nat.or_lt_two_pow (kE h4) (kE h5)) (Nat.pow_lt_pow_right (by omega) h2)
def fF (a v:Nat):Nat:=a ^^^ (a &&& 2 ^ v)
theorem tI {a v i:Nat}:(fF a v).testBit i=(a.testBit i && decide (i≠v)):=by
 simp only[fF,Nat.testBit_xor,Nat.testBit_and,Nat.testBit_two_pow]
 by_cases e:v=i
 ·subst e;cases a.testBit v<;>simp
 ·have e2:¬ i=v:=fun h=>e h.symm
  simp[e,e2]
theorem xD {a v n:Nat}(h:a<2 ^ n):fF a v<2 ^ n:=Nat.xor_lt_two_pow h (Nat.lt_of_le_of_lt Nat.and_le_left h)
theorem tH {i:Nat}:∀{vs:TW} {a:Nat},(vs.foldl fF a).testBit i=(a.testBit i && decide (i∉vs))
 |[],a=>by simp
 |v::vs,a=>by
  rw[List.foldl_cons,tH,tI]
  by_cases e:i=v
  ·subst e;simp
  ·simp[e]
theorem xC {n:Nat}:∀{vs:TW} {a:Nat},a<2 ^ n->vs.foldl fF a<2 ^ n
 |[],a,h=>h
 |v::vs,a,h=>xC (vs:=vs) (xD h)
theorem By {t:Tr}{vs:TW}(h:InV vs t):vs.foldl fF (cM t)=0:=by
 apply Nat.eq_of_testBit_eq
 intro i
 rw[tH,tP,Nat.zero_testBit]
 cases e:dh i t
 ·rfl
 ·simp[mE h e]
theorem mR {a:Nat}(h:a<2 ^ 64):IntKind.u64.wrap (a:Int)=(a:Int):=by
 simp only[IntKind.wrap,IntKind.bits,IntKind.signed]
 simp
 omega
theorem iJ {a:Nat}(h:a<2 ^ 64):(BitVec.ofInt IntKind.u64.bits (a:Int)).toNat=a:=by
 rw[BitVec.toNat_ofInt]
 have e:((2 ^ IntKind.u64.bits:Nat):Int)=18446744073709551616:=by decide
 rw[e]
 omega
theorem Lq {a b:Nat}(ha:a<2 ^ 64)(hb:b<2 ^ 64):bOr .u64 (a:Int) (b:Int)=((a ||| b:Nat):Int):=by
 unfold bOr
 rw[BitVec.toNat_or,iJ ha,iJ hb]
 exact mR (Nat.or_lt_two_pow ha hb)
theorem vO {a v:Nat}(ha:a<2 ^ 64)(hv:v<64):iO .u64 (a:Int) ((2 ^ v:Nat):Int)=((fF a v:Nat):Int):=by
 have hp:2 ^ v<2 ^ 64:=Nat.pow_lt_pow_right (by omega) hv
 unfold iO
 have e:(BitVec.ofInt IntKind.u64.bits (a:Int) &&& ~~~ BitVec.ofInt IntKind.u64.bits ((2 ^ v:Nat):Int)).toNat=fF a v:=by
  apply Nat.eq_of_testBit_eq
  intro i
  rw[BitVec.testBit_toNat,BitVec.getLsbD_and,BitVec.getLsbD_not,<- BitVec.testBit_toNat,<- BitVec.testBit_toNat,iJ ha,iJ hp,tI,Nat.testBit_two_pow]
  by_cases hi:i<64
  ·have e3:decide (i<IntKind.u64.bits)=true:=decide_eq_true (by simpa [IntKind.bits]using hi)
   rw[e3,Bool.true_and]
   by_cases h2:v=i
   ·subst h2;simp
   ·have h3:¬ i=v:=fun h=>h2 h.symm
    simp[h2,h3]
  ·have:a.testBit i=false:=Nat.testBit_lt_two_pow (Nat.lt_of_lt_of_le ha (Nat.pow_le_pow_right (by omega) (by omega)))
   rw[this];rfl
 rw[e]
 exact mR (xD ha)
theorem MV {s:St}{p g q n B:Nat}{ns:Td}{mk:Int}(hM:NMem s p g q n B ns mk 0)(hN:NsOk n ns)(hn:n<=256)(hBs:ns.length<=1048576){t:Tr}(ht:t∈ns){vs:TW}(hv:vs.Nodup)(hlt:∀v,v∈vs->v<n)(hoc:∀v,dh v t=true->v∈vs)(h61:vs.length<=61) :
  SRet Tryz.prog 102 [.ptr p 0,.int .i64 (ixN ns t:Nat),.lst (ak vs) .no] s (.tup [.int .i64 ((dC t vs).length:Nat),.int .i64 0]) s:=by
 have hpf:s p≠.free:=by rw[hM.o];simp
 have hgf:s g≠.free:=by rw[hM.r];simp
 have hoff:∀(u:St),(∀z,s z≠.free->u z=s z)->NMem u p g q n B ns mk 0:=fun u hu=>⟨by rw[hu p hpf];exact hM.o,by rw[hu g hgf];exact hM.r⟩
 have ww:=fun(u:St) (h:NMem u p g q n B ns mk 0)=>ze h hN hn hBs ht hv hlt hoc
 have hSr:=kU n vs
 have hSn:=je n vs
 have hSl:(dR n vs).length=vs.length:=(kV hv hlt).length_eq.symm
 have hI:InV (dR n vs) t:=mK fun v h=>(fN hlt).2 (hoc v h)
 have hP:PosT (jk (dR n vs)) (ak vs).length t:=by
  refine rf (S:=dR n vs) (fun v w a b c=>ym hSr a b c) (fun v h=>?_) (hN.ok t ht) hI
  rw[natsL_len,<- hSl]
  exact D4 hSn h
 have hcnt:(dC t vs).length=dG (jk (dR n vs)) (ak vs).length t * 2 ^ dm (jk (dR n vs)) (ak vs).length t:=by
  rw[natsL_len]
  exact Hb (hN.ok t ht) hI hv (kV hv hlt) hSr fun i v h=>jJ hSn h
 have hlk:∀w,dh w t=true->lkZ (w:Int) (eF (dR n vs))=some ((jk (dR n vs) w:Nat):Int):=fun w h=>D5 hSn ((fN hlt).2 (hoc w h))
 have hle:(dC t vs).length<=2 ^ 61:=Nat.le_trans (CO t vs) (Nat.pow_le_pow_right (by omega) h61)
 have hV:(ak vs).length<=61:=by rw[natsL_len];exact h61
 have w2:=fun(u:St) (J:SatB) (h:SatS u J n B ns mk (ak vs) (eF (dR n vs)) [])=>vQ hN hV t ht h (pos:=jk (dR n vs)) (fun k x h=>by cases h) hlk hP
 have w1:=fun(u:St) (J:SatB) (me:TY) (h:SatS u J n B ns mk (ak vs) (eF (dR n vs)) me)=>rL h hN ht (jk (dR n vs)) hlk
 have q1:=hP.lev
 have z1:2 ^ dm (jk (dR n vs)) (ak vs).length t<=2 ^ 61:=Nat.pow_le_pow_right (by omega) (by omega)
 have z2:dG (jk (dR n vs)) (ak vs).length t<=2 ^ 61:=Nat.le_trans hP.cnt (Nat.pow_le_pow_right (by omega) (by omega))
 unfold SatC at w2
 generalize jk (dR n vs)=ps at *
 generalize hps:eF (dR n vs)=PZ at *
 clear hps hlk hP hI hSr hSn hSl hv hlt hoc hN
 generalize dm ps (ak vs).length t=LV at *
 generalize dG ps (ak vs).length t=CT at *
 generalize ak vs=V at *
 generalize (dC t vs).length=R at *
 generalize ixN ns t=k at *
 have wp:=fun u=>vW u LV (by omega)
 generalize 2 ^ LV=PL at *
 have wm:=fun u=>vX u CT PL (by omega) (by omega) (by omega)
 rw[<- hcnt]at wm
 have HM:=o_ hM
 have HOFF:=o_ hoff
 have WW:=o_ ww
 have W1:=o_ w1
 have W2:=o_ w2
 have WP:=o_ wp
 have WM:=o_ wm
 clear hM hoff ww w1 w2 wp wm hcnt hle z1 z2 q1 ht
 refine am Tryz.func102 rfl Tryz.ntmps102 rfl fun Q hQ hQe=>?_
 (repeat'(first|refine Ctl ?_|((with_reducible refine k_ hK ?_);clear hK hE K E)|((first|(with_reducible refine ab fun K E hK hE=>?_)|((with_reducible refine au (fun b hb=>?_));(repeat(obtain⟨_,hb⟩:=hb))))<;>(try simp(disch:=omega) only[go_sem,seval, *]))))
 rename_i b3 hb3 _ _
 obtain⟨b5,hb5⟩:∃z,z=b:=⟨_,rfl⟩
 subst hb5
 obtain⟨u0,hu0⟩:∃u,u=(s.set b3 (.obj 54 [.ptr p 0])).set b5 (.obj 28 [.lst V .no]):=⟨_,rfl⟩
 rw[<- hu0]
 have h35:¬ b3=b5:=by assumption
 have hsb5:s b5=.free:=by
  have:b5≠b3:=fun e=>h35 e.symm
  exact hb
 have f0:∀z,s z≠.free->u0 z=s z:=fun z hz=>by rw[hu0,j_ _ _ (nef hsb5 hz).1,j_ _ _ (nef hb3 hz).1]
 have g3:u0 b3=.obj 54 [.ptr p 0]:=by rw[hu0,j_ _ _ h35,q_]
 have g5:u0 b5=.obj 28 [.lst V .no]:=by rw[hu0,q_]
 refine ao Mk (WW.out u0 (HOFF.out u0 f0)) (fun a h=>?_)
 obtain⟨v,M⟩:=a
 obtain⟨hX,hv⟩:=h
 dsimp only at hX hv ⊢
 have nM:∀z,u0 z≠.free->v z=u0 z:=fun z hz=>by rw[hv,j_ _ _ (nef hX hz).1]
 have gM:v M=.map (mpZ cL PZ):=by rw[hv,q_]
 have k3:v b3=.obj 54 [.ptr p 0]:=by rw[nM b3 (by rw[g3];simp),g3]
 have k5:v b5=.obj 28 [.lst V .no]:=by rw[nM b5 (by rw[g5];simp),g5]
 have kf:∀z,s z≠.free->v z=s z:=fun z hz=>by rw[nM z (by rw[f0 z hz];exact hz),f0 z hz]
 have KF:=o_ kf
 have K3:=o_ k3
 have K5:=o_ k5
 have KM:=o_ gM
 have HS5:=o_ hsb5
 have HS3:=o_ hb3
 clear hX hv nM gM k3 k5 kf g3 g5 f0 hu0 hsb5 hb3 hb
 simp only[go_sem,seval]
 (repeat'(first|(with_reducible refine aR 8 ?_)|refine Ctl ?_|((with_reducible refine k_ hK ?_);clear hK hE K E)|((with_reducible refine bZ (fun h=>?_) (fun h=>?_))<;>(try(exfalso;assumption)))|((first|(with_reducible refine ab fun K E hK hE=>?_)|((with_reducible refine au (fun b hb=>?_));(repeat(obtain⟨_,hb⟩:=hb))))<;>(try simp(disch:=omega) only[go_sem,seval, *]))))
 unfold bC
 refine bE fun S hS=>?_
 rename_i b8 hb8 b10 _ _ hb10 m2 _ _ _ _ hm2 b11 _ _ _ _ _ _ hb11 _ _ _ _ _ _ _ _
 have hSf:∀z,v z≠.free->S z=v z:=fun z hz=>by
  rw[hS,j_ _ _ (nef hb hz).1,j_ _ _ (nef hb11 hz).1,j_ _ _ (nef hm2 hz).1,j_ _ _ (nef hb10 hz).1,j_ _ _ (nef hb8 hz).1]
 have hMm:M≠m2:=(nef hm2 (a:=M) (by rw[KM.out];simp)).1
 have hnmS:NMem S p g q n B ns mk 0:=HOFF.out S fun z hz=>by rw[hSf z (by rw[KF.out z hz];exact hz),KF.out z hz]
 have hA:SatS S ⟨p,g,q,b5,b3,b8,b10,b11,b,M,m2⟩ n B ns mk V PZ []:=by
  refine⟨hnmS,?_,?_,?_,?_,?_,?_,?_,?_,hMm⟩
  ·rw[hSf _ (by rw[K5.out];simp)];exact K5.out
  ·rw[hSf _ (by rw[K3.out];simp)];exact K3.out
  ·rw[hS];simp only[St.set,if_true,if_false, *]
  ·rw[hS];simp only[St.set,if_true,if_false, *]
  ·rw[hS];simp only[St.set,if_true,if_false, *]
  ·rw[hS];simp only[St.set,if_true,if_false, *]
  ·rw[hSf _ (by rw[KM.out];simp)];exact KM.out
  ·rw[hS];simp only[St.set,if_true,if_false, *];rfl
 have w3:=W2.out _ _ hA
 have q10:=hA.o10
 have q12:=hA.o12
 have hfin:∀z,s z≠.free->z≠m2/\S z=s z:=fun z hz=>⟨(nef hm2 (a:=z) (by rw[KF.out z hz];exact hz)).1,by rw[hSf z (by rw[KF.out z hz];exact hz),KF.out z hz]⟩
 have HFIN:=o_ hfin
 dsimp only at w3 q10 q12
 clear hS hSf hA hb hb8 hb10 hb11 hm2 hnmS hMm hfin
 (repeat'(first|(with_reducible first|(refine k_ hKh ?_;clear hKh Kh)|refine ax 8 [([0,1,3,4],2,[[3,4]]),([],5,[[],[]]),([],6,[[],[],[]]),([],7,[[],[],[],[]])] [8,9] hQe fun K E hK hE=>?_)|(((with_reducible first|refine ay fun Kh hKh=>?_|refine aB fun Kb hKb=>?_))<;>(try simp(disch:=omega) only[go_sem,seval, *]))))
 all_goals
  refine ao vG w3 (fun a h=>?_)
  obtain⟨u1,me1⟩:=a
  obtain⟨hA3,hM3,hF3⟩:=h
  dsimp only at hA3 hM3 hF3 ⊢
  have w4:=W1.out _ _ _ hA3
  have p10:=hA3.o10
  have p12:=hA3.o12
  have wp:=WP.out u1
  have wm:=WM.out u1
  have HF3:=o_ hF3
  dsimp only at w4 p10 p12
  clear hA3 hM3 hF3 w3
  simp only[go_sem,seval]
  (repeat'(first|refine Ctl ?_|(with_reducible first|(refine k_ hK ?_;clear hK hE K E)|(refine k_ hKh ?_;clear hKh Kh)|(refine k_ hKb (aC ?_);clear hKb Kb))|(((with_reducible first|refine ae rF (w4) ?_|refine ae vE (wp) ?_|refine ae vF (wm) ?_|refine ay fun Kh hKh=>?_|refine aG fun Kh hKh=>?_|refine aB fun Kb hKb=>?_))<;>(try simp(disch:=omega) only[go_sem,seval, *]))))
 all_goals(refine aq Au hQ ?_)
 refine⟨_,s,Wk.refl _,fun z=>?_,rfl,rfl⟩
 by_cases hz:s z=.free
 ·exact .inl hz
 ·obtain⟨h1,h2⟩:=HFIN.out z hz
  exact .inr ((HF3.out z h1).trans h2).symm
def cu (rows:TX):Ta:=rows.map fun r=>[cK r]
theorem jl {rows:TX}:(cu rows).length=rows.length:=by simp[cu]
theorem zJ {rows:TX}{r:TZ}:cu (rows++[r])=cu rows++[[cK r]]:=by simp[cu]
theorem zI {rows:TX}:∀x,x∈cu rows->x.length=1:=by
 intro x hx
 obtain⟨r,_,rfl⟩:=A_.1 hx
 rfl
theorem qP {rows:TX}{i:Nat}{r:TZ}(h:rows[i]?=some r):(cu rows)[i]?=some [cK r]:=by simp[cu,h]
structure CubB where
 p:Nat
 g:Nat
 q:Nat
 bf:Nat
 bo:Nat
 bm:Nat
 bw:Nat
 bs:Nat
 bk:Nat
 w:Nat
structure CubS (s:St) (J:CubB) (n B:Nat) (ns:Td) (mk:Int) (most:Nat) (w:TZ) (rows:TX) (o:Own):Prop where
 nm:NMem s J.p J.g J.q n B ns mk 0
 f:s J.bf=.obj 4 [.bool false]
 ro:s J.bo=.obj 36 [.lst (cu rows) o]
 m:s J.bm=.obj 3 [.int .i64 most]
 ww:s J.bw=.obj 28 [.msl J.w n]
 st:s J.bs=.obj 54 [.ptr J.p 0]
 k:s J.bk=.obj 197 [.fn 129 [.ptr J.bf 0,.ptr J.bo 0,.ptr J.bm 0,.ptr J.bw 0,.ptr J.bs 0,.ptr J.bk 0]]
 c:s J.w=.obj 3 (aM w)
 wl:w.length=n
 own:(rows=[]/\o=.full)\/∃y,o=.at_ y/\s y=.vec 28 1 rows.length
 d1:J.bo≠J.w
 d2:J.bo≠J.bf/\J.bo≠J.bm/\J.bo≠J.bw/\J.bo≠J.bs/\J.bo≠J.bk
 d3:J.w≠J.bf/\J.w≠J.bm/\J.w≠J.bw/\J.w≠J.bs/\J.w≠J.bk
structure CubF (s u:St) (J:CubB) (o o':Own):Prop where
 fr:∀z,s z≠.free->z≠J.bo->z≠J.w->(∀y,o=.at_ y->z≠y)->u z=s z
 ow:∀y,o'=.at_ y->s y=.free\/o=.at_ y
theorem CubF.refl (s:St)(J:CubB)(o:Own):CubF s s J o o:=⟨fun _ _ _ _ _=>rfl,fun _ h=>.inr h⟩
theorem CubF.trans {s u x:St}{J:CubB}{o o1 o2:Own}(h:CubF s u J o o1)(k:CubF u x J o1 o2)(hb:u J.bo≠.free)(hw:u J.w≠.free):CubF s x J o o2:=by
 refine⟨fun z hz h1 h2 h3=>?_,fun y hy=>?_⟩
 ·have e:=h.fr z hz h1 h2 h3
  rw[k.fr z (by rw[e];exact hz) h1 h2 ?_,e]
  rintro y hy rfl
  rcases h.ow _ hy with e|e
  ·exact hz e
  ·exact h3 _ e rfl
 ·rcases k.ow y hy with e|e
  ·by_cases hs:s y=.free
   ·exact .inl hs
   ·right
    refine Classical.byContradiction fun hn=>?_
    have:=h.fr y hs (fun e2=>hb (e2 ▸ e)) (fun e2=>hw (e2 ▸ e)) fun y' hy' e2=>hn (e2 ▸ hy')
    rw[this]at e
    exact hs e
  ·exact h.ow y e
theorem CubS.types {s:St}{J:CubB}{n B:Nat}{ns:Td}{mk:Int}{most:Nat}{w:TZ}{rows:TX}{o:Own}(h:CubS s J n B ns mk most w rows o){u:St}{o':Own}{w':TZ}{rows':TX}
  (hf:CubF s u J o o') (hro:u J.bo=.obj 36 [.lst (cu rows') o']) (hc:u J.w=.obj 3 (aM w')) (hl:w'.length=n) (hown:(rows'=[]/\o'=.full)\/∃y,o'=.at_ y/\u y=.vec 28 1 rows'.length) :
  CubS u J n B ns mk most w' rows' o':=by
 have nv:∀z,(∀T a b,s z≠.vec T a b)->∀y,o=.at_ y->z≠y:=fun z hz y hy e=>by
  rcases h.own with ⟨_,h1⟩|⟨y',h1,h2⟩
  ·rw[h1]at hy;cases hy
  ·rw[h1]at hy
   injection hy with hy
   subst hy e
   exact hz _ _ _ h2
 have key:∀z T xs,s z=.obj T xs->z≠J.bo->z≠J.w->u z=.obj T xs:=fun z T xs hz h1 h2=>by
  rw[hf.fr z (by rw[hz];simp) h1 h2 (nv z (by rw[hz];simp)),hz]
 obtain⟨a1,a2,a3,a4,a5⟩:=h.d2
 obtain⟨b1,b2,b3,b4,b5⟩:=h.d3
 have tn:∀{z T xs},s z=.obj T xs->T≠107->J.p≠z:=fun hz hT e=>by
  have h1:=h.nm.o
  rw[e,hz]at h1
  injection h1 with h1
  exact hT h1
 refine⟨⟨?_,?_⟩,key _ _ _ h.f a1.symm b1.symm,hro,key _ _ _ h.m a2.symm b2.symm,key _ _ _ h.ww a3.symm b3.symm,key _ _ _ h.st a4.symm b4.symm,key _ _ _ h.k a5.symm b5.symm,hc,hl,hown,h.d1,h.d2,h.d3⟩
 ·exact key _ _ _ h.nm.o (tn h.ro (by decide)) (tn h.c (by decide))
 ·rw[hf.fr _ (by rw[h.nm.r];simp) (fun e=>by have:=h.nm.r;rw[e,h.ro]at this;cases this) (fun e=>by have:=h.nm.r;rw[e,h.c]at this;cases this) (nv _ (by rw[h.nm.r];simp))]
  exact h.nm.r
theorem CubS.setw {s:St}{J:CubB}{n B:Nat}{ns:Td}{mk:Int}{most:Nat}{w:TZ}{rows:TX}{o:Own}(h:CubS s J n B ns mk most w rows o)(w':TZ)(hl:w'.length=n) :
  CubS (s.set J.w (.obj 3 (aM w'))) J n B ns mk most w' rows o/\CubF s (s.set J.w (.obj 3 (aM w'))) J o o:=by
 have hf:CubF s (s.set J.w (.obj 3 (aM w'))) J o o:=⟨fun z _ _ h2 _=>j_ _ _ h2,fun _ h=>.inr h⟩
 refine⟨h.types hf (by rw[j_ _ _ h.d1];exact h.ro) (q_ _ _ _) hl ?_,hf⟩
 rcases h.own with e|⟨y,h1,h2⟩
 ·exact .inl e
 ·refine .inr ⟨y,h1,?_⟩
  rw[j_]
  ·exact h2
  ·intro e
   rw[e,h.c]at h2
   cases h2
end Go.Proofs.YtohnaepcgnbaiaaGreatDoor
