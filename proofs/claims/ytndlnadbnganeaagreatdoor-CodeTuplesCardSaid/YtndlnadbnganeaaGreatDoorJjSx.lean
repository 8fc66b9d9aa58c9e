/- Walks of functions that the claim reaches, and plain facts of them. Conditions: those in the statements. -/
import Derived.Test.YtndlnadbnganeaaGreatDoorJjSw
set_option linter.unusedSimpArgs false
set_option linter.unusedVariables false
set_option maxRecDepth 100000
namespace Go.Proofs.YtndlnadbnganeaaGreatDoor
open Go.RowKit
attribute [-go_sem] p_and p_or p_shl p_shr
theorem PutRowF_S (l:List (List Int))(r:List Int)(o1 o2:Own)(hl:RowsOk l)(hr:r.length≤1000000000)(t:St):SRet Tryz.prog 20 [.lst (rwsC l) o1,.lst (intsL r) o2] t (.lst (rwsC (putRow l r)) .no) t:=by
 refine SCalls.wk (PutRow_S l r o1 hl hr t) rfl fun j x y hx hy=>?_
 match j with
 |0=>simp at hx hy;subst hx;subst hy;exact Wk.refl _
 |1=>simp at hx hy;subst hx;subst hy;exact Wk.lst _ _
 |j+2=>simp at hx
abbrev Tri:=Int×Int×Int
def trisC (T:List Tri):List (List VV):=T.map fun t=>[.int .i64 t.1,.int .i64 t.2.1,.int .i64 t.2.2]
theorem trisC_len {T:List Tri}:(trisC T).length=T.length:=by simp[trisC]
theorem trisC_at {T:List Tri}{i:Nat}{t:Tri}(h:T[i]?=some t):(trisC T)[i]?=some [.int .i64 t.1,.int .i64 t.2.1,.int .i64 t.2.2]:=by simp[trisC,h]
def normT (x y:Nat)(t:Tri):List Nat:=[addP 8 t.1 % szD x y 0,addP 8 t.2.1 % szD x y 1,addP 8 t.2.2 % szD x y 2]
theorem and_ff (a:Int):vint .and .i64 a 255=some (.int .i64 ((addP 8 a:Nat):Int)):=by
 have h:=and_low (w:=8) (by omega) a
 have e:IntKind.i64.wrap (((2 ^ 8:Nat):Int) - 1)=255:=by decide
 rwa [e]at h
set_option maxHeartbeats 16000000 in
theorem CodeTuples_S (s:St)(a a2 od:Int)(T:List Tri)(hT:T.length≤140737488355328):SRet Tryz.prog 5 [.agg [.int .i64 a,.int .i64 a2],.int .i64 od,.lst (trisC T) .no] s (.bool true) s:=by
 have w3:=fun s=>Cthree_S s a a2 od
 have wa:=Cawake_S
 have W3:=Lib.hid w3
 have WA:=Lib.hid wa
 have hTl:=trisC_len (T:=T)
 have hat:=fun(i:Nat) (t:Tri) (h:T[i]?=some t)=>trisC_at h
 have HAT:=Lib.hid hat
 clear w3 wa hat
 generalize trisC T=TC at *
 refine G_enter Tryz.func5 rfl Tryz.ntmps5 rfl fun Q hQ hQe=>?_
 (repeat'(first|refine Ctl ?_|((with_reducible refine Kof.use hK ?_);clear hK hE K E)|((first|(with_reducible refine G_region fun K E hK hE=>?_)|((with_reducible refine W_fresh (fun b hb=>?_))))<;>(try simp(disch:=omega) only[go_sem,seval, *]))))
 have hb3:s b=.free:=by assumption
 obtain⟨u0,hu0⟩:∃u,u=s.set b (.obj 22 [.int .i64 a,.int .i64 a2]):=⟨_,rfl⟩
 rw[← hu0]
 have g0:∀z,s z≠.free→u0 z=s z:=fun z hz=>by rw[hu0,St.set_other _ _ (nef hb3 hz).1]
 obtain⟨x,y,hx,hy,ex,ey,w3⟩:=W3.out u0
 refine call_ex can10 w3 (fun z h=>?_)
 obtain⟨o,L⟩:=Law.of h hx hy
 obtain⟨u1,KK,q,c⟩:=z
 dsimp only at L ⊢
 have L1:=L.from g0
 clear w3 h hu0 g0 hb hb3 ex ey L
 have HX:=Lib.hid (And.intro hx hy)
 by_cases h30:(T.length:Int) > 30
 ·have wa:=WA.out u1
  have HFG:=Lib.hid L1.fg
  clear L1
  generalize domsC (dsT x y)=DC at *
  simp only[go_sem,seval]
  (repeat'(first|refine Ctl ?_|((with_reducible refine Kof.use hK ?_);clear hK hE K E)|((with_reducible refine W_cond (fun h=>?_) (fun h=>?_))<;>(try(exfalso;assumption)))|(((with_reducible first|refine G_region fun K E hK hE=>?_|refine call_ret can12 (wa) ?_))<;>(try simp(disch:=omega) only[go_sem,seval,h30,hTl, *]))))
  all_goals(refine W_ret res5 hQ ?_)
  all_goals exact⟨_,_,Wk.refl _,HFG.out,rfl,rfl⟩
 ·have h30':T.length≤30:=by omega
  have hdx:∀n,n<3→(domsC (dsT x y))[n]?=some [.str [65+UInt8.ofNat n],.int .i64 ((szD x y n:Nat):Int)]:=fun n hn=>domsC_at (dsT_at hn)
  have d0:=hdx 0 (by omega)
  have d1:=hdx 1 (by omega)
  have d2:=hdx 2 (by omega)
  have hok:∀t:Tri,(∀(i k v:Nat),[0,1,2][i]?=some k→(normT x y t)[i]?=some v→v<szD x y k):=fun t i k v h1 h2=>by
   have hp:∀n,n<3→0<szD x y n:=fun n hn=>(L1.wid hn).2.2.1
   match i with
   |0=>simp[normT]at h1 h2;subst h1 h2;exact Nat.mod_lt _ (hp 0 (by omega))
   |1=>simp[normT]at h1 h2;subst h1 h2;exact Nat.mod_lt _ (hp 1 (by omega))
   |2=>simp[normT]at h1 h2;subst h1 h2;exact Nat.mod_lt _ (hp 2 (by omega))
   |i+3=>simp at h1
  have hrows:sortR (tupR (treeT 12 (orF o (T.map (normT x y)))) o [0,1,2])=putA (T.map (normT x y)):=or_rows L1.D rfl fun t ht=>by
   obtain⟨t,_,rfl⟩:=List.mem_map.1 ht
   refine⟨_,_,_,rfl,?_,?_,?_⟩
   ·exact Nat.lt_of_lt_of_le (Nat.mod_lt _ (L1.wid (d:=0) (by omega)).2.2.1) (L1.wid (d:=0) (by omega)).2.2.2.2
   ·exact Nat.lt_of_lt_of_le (Nat.mod_lt _ (L1.wid (d:=1) (by omega)).2.2.1) (L1.wid (d:=1) (by omega)).2.2.2.2
   ·exact Nat.lt_of_lt_of_le (Nat.mod_lt _ (L1.wid (d:=2) (by omega)).2.2.1) (L1.wid (d:=2) (by omega)).2.2.2.2
  have hrok:∀i,RowsOk (putA ((T.take i).map (normT x y))):=fun i=>putA_ok (fun t ht=>by obtain⟨t,_,rfl⟩:=List.mem_map.1 ht;simp[normT]) (by rw[List.length_map,List.length_take];omega)
  have hlen:(putA (T.map (normT x y))).length≤30:=by
   have:=putA_len (T:=T.map (normT x y)) (l:=[])
   rw[List.length_map]at this
   simp only[List.length_nil]at this
   unfold putA
   omega
  have hks3:∀k,k∈[0,1,2]→k<3:=fun k hk=>by simp at hk;omega
  have wt:=fun(u:St) (K':OB) (ns:List Tr) (N:Nat) (h:Law s u K' q c ns x y o N) (hm:treeT 12 (orF o (T.map (normT x y)))∈ns)=>h.tup hm [0,1,2] .full hks3 (by simp) (by decide) (orF_dep _ _) (most:=30) (by omega) hrows hlen
  have hall:RowsOk (putA (T.map (normT x y))):=by have:=hrok T.length;rwa [List.take_length]at this
  have hsame:=fun(u:St) (o1 o2:Own)=>SameRows_S (putA (T.map (normT x y))) (putA (T.map (normT x y))) o1 o2 hall hall u
  rw[decide_eq_true rfl]at hsame
  have c0:=L1.C.om.c0.1
  have hI:Law s u1 KK q c [.lf false,.lf true] x y o (2+24 * 0):=L1
  have hm0:treeT 12 (orF o ((T.take 0).map (normT x y)))∈[.lf false,.lf true]:=c0.1
  have hk0:ixF 12 [.lf false,.lf true] (orF o ((T.take 0).map (normT x y)))=0:=c0.2
  have HI:=Lib.hid (And.intro hI hm0)
  have HD:=Lib.hid (And.intro d0 (And.intro d1 d2))
  have HOK:=Lib.hid hok
  have HROK:=Lib.hid hrok
  have HS:=Lib.hid hsame
  have WT:=Lib.hid wt
  have HK0:=Lib.hid hk0
  have HSZ:=Lib.hid (fun n hn=>(L1.wid (d:=n) hn).2.2)
  clear L1 hdx hok hrows hlen wt hall hsame c0 hI hm0 hk0 hx hy hrok d0 d1 d2
  generalize hDC:domsC (dsT x y)=DC at *
  clear hDC
  simp only[go_sem,seval]
  (repeat'(first|refine Ctl ?_|((with_reducible refine Kof.use hK ?_);clear hK hE K E)|((with_reducible refine W_cond (fun h=>?_) (fun h=>?_))<;>(try(exfalso;assumption)))|(((with_reducible refine G_region fun K E hK hE=>?_))<;>(try simp(disch:=omega) only[go_sem,seval,h30,hTl, *]))))
  refine G_loop (fun f env s'=>∃(i:Nat) (K':OB) (ns':List Tr) (ow:Own),i≤T.length∧f+i=T.length∧Hid (Law s s' K' q c ns' x y o (2+24 * i)∧treeT 12 (orF o ((T.take i).map (normT x y)))∈ns')∧env 2=.lst TC .no∧env 7=.ptr c 0∧env 8=.lst DC .no∧env 10=.int .i64 (ixF 12 ns' (orF o ((T.take i).map (normT x y))):Nat)∧env 11=.lst (rwsC (putA ((T.take i).map (normT x y)))) ow∧env 12=.int .i64 (i:Int)) T.length ?_ ?_
  ·exact⟨_,Fg.refl _,0,KK,_,.full,by omega,by omega,HI,z_sl,z_sl,z_sl,by(rw[HK0.out];((try simp(disch:=assumption) only[go_sem,seval, *])<;>rfl)),by(rw[show rwsC (putA ((T.take 0).map (normT x y)))=[] from rfl];((try simp(disch:=assumption) only[go_sem,seval, *])<;>rfl)),z_sl⟩
  clear HI HK0
  rintro f env s' ⟨i,K',ns',ow,hi,hfi,HI,e2,e7,e8,e10,e11,e12⟩
  obtain⟨LL,hmem⟩:=HI.out
  by_cases h7:i<T.length
  ·obtain⟨t,ht⟩:∃t,T[i]?=some t:=⟨_,List.getElem?_eq_getElem h7⟩
   have hx:=HAT.out i t ht
   obtain⟨t1,t2,t3⟩:=t
   dsimp only at hx
   obtain⟨d0,d1,d2⟩:=HD.out
   have a1:=and_ff t1
   have a2:=and_ff t2
   have a3:=and_ff t3
   have r1:=rem_nat (k:=addP 8 t1) (m:=szD x y 0)
   have r2:=rem_nat (k:=addP 8 t2) (m:=szD x y 1)
   have r3:=rem_nat (k:=addP 8 t3) (m:=szD x y 2)
   have z1:=HSZ.out 0 (by omega)
   have z2:=HSZ.out 1 (by omega)
   have z3:=HSZ.out 2 (by omega)
   have hT1:(T.take (i+1)).map (normT x y)=(T.take i).map (normT x y)++[normT x y (t1,t2,t3)]:=by
    rw[List.take_add_one,ht];simp
   have wu:=LL.tuple [0,1,2] (normT x y (t1,t2,t3)) .full .full hks3 (by simp) (by decide) rfl (HOK.out (t1,t2,t3)) (by omega)
   have hk3:∀k,k∈[0,1,2]→k<3:=hks3
   have hd1:DepF (varsOf o [0,1,2]) (orF o ((T.take i).map (normT x y))):=orF_dep o _
   have hor:=fun(u:St) (K2:OB) (ns2:List Tr) (h:Law s u K2 q c ns2 x y o (2+24 * i+12)) (m1:treeT 12 (orF o ((T.take i).map (normT x y)))∈ns2) (m2:treeT 12 (tupF o [0,1,2] (normT x y (t1,t2,t3)))∈ns2)=>h.or1 (ks:=[0,1,2]) (vals:=normT x y (t1,t2,t3)) hk3 (by simp) (by decide) rfl (HOK.out (t1,t2,t3)) hd1 m1 m2 (by omega)
   have hrk:=HROK.out i
   have hpu:=PutRowF_S (putA ((T.take i).map (normT x y))) (rowN (normT x y (t1,t2,t3))) ow .full hrk (by simp[rowN,normT])
   rw[← putA_add,← hT1]at hpu
   have hadd:(fun z=>orF o ((T.take i).map (normT x y)) z || tupF o [0,1,2] (normT x y (t1,t2,t3)) z)=orF o ((T.take (i+1)).map (normT x y)):=by rw[hT1];exact orF_add
   have hin:intsL (rowN (normT x y (t1,t2,t3)))=[[.int .i64 ((addP 8 t1 % szD x y 0:Nat):Int)],[.int .i64 ((addP 8 t2 % szD x y 1:Nat):Int)],[.int .i64 ((addP 8 t3 % szD x y 2:Nat):Int)]]:=rfl
   rw[hin]at hpu
   have hnu:natsL (normT x y (t1,t2,t3))=[[.int .i64 ((addP 8 t1 % szD x y 0:Nat):Int)],[.int .i64 ((addP 8 t2 % szD x y 1:Nat):Int)],[.int .i64 ((addP 8 t3 % szD x y 2:Nat):Int)]]:=rfl
   rw[hnu]at wu
   have HPU:=Lib.hid hpu
   have HOR:=Lib.hid hor
   have HAD:=Lib.hid hadd
   have HLL:=Lib.hid LL
   have HMM:=Lib.hid hmem
   have q0':¬ ((szD x y 0:Nat):Int)=0:=by omega
   have q1':¬ ((szD x y 1:Nat):Int)=0:=by omega
   have q2':¬ ((szD x y 2:Nat):Int)=0:=by omega
   unfold OpFC at wu
   clear hT1 hk3 hd1 hor hrk hpu hadd hin hnu LL hmem HI z1 z2 z3 ht
   generalize hF1:tupF o [0,1,2] (normT x y (t1,t2,t3))=FT at *
   clear hF1
   generalize addP 8 t1 % szD x y 0=w0 at *
   generalize addP 8 t2 % szD x y 1=w1 at *
   generalize addP 8 t3 % szD x y 2=w2 at *
   generalize addP 8 t1=p1 at *
   generalize addP 8 t2=p2 at *
   generalize addP 8 t3=p3 at *
   generalize szD x y 0=s0 at *
   generalize szD x y 1=s1 at *
   generalize szD x y 2=s2 at *
   generalize hFi:orF o ((T.take i).map (normT x y))=FI at *
   have HFI:=Lib.hid hFi
   clear hFi
   generalize hki:ixF 12 ns' FI=ki at *
   have HKI:=Lib.hid hki
   clear hki
   generalize hRi:rwsC (putA ((T.take i).map (normT x y)))=RI at *
   clear hRi
   (repeat'(first|refine Ctl ?_|(with_reducible first|(refine Kof.use hK ?_;clear hK hE K E)|(refine Kof.use hKh ?_;clear hKh Kh)|refine G_plan 9 [] [0,1,2,3,4,5,6,7,8,9,10,11,12,13,14,15,16,17,18,19,20,21,22,23,24,25,26,27,28,29,30,31,32,33,34] hQe fun K E hK hE=>?_)|((with_reducible refine W_cond (fun h=>?_) (fun h=>?_))<;>(try(exfalso;assumption)))|(((with_reducible first|refine G_region fun K E hK hE=>?_|refine W_if ?_|refine P_fin fun Kh hKh=>?_))<;>(try simp(disch:=omega) only[go_sem,seval,hTl,hx,a1,a2,a3,r1,r2,r3,d0,d1,d2, *]))))
   refine call_ex can16 wu (fun a h=>?_)
   obtain⟨u2,K2,ns2⟩:=a
   have L2:=HLL.out.step h
   have m2:=h.mem
   have m1:=(sub_of h.pre HMM.out).1
   have hk2:ixF 12 ns2 FI=ki:=(sub_of h.pre HMM.out).2.trans HKI.out
   dsimp only at L2 m1 m2 ⊢
   have wn:=(HOR.out u2 K2 ns2 L2 m1 m2).mono (show 2+24 * i+12+12≤2+24 * (i+1) by omega)
   have wq:=L2.cq
   have wo:=L2.co
   rw[hk2,HAD.out]at wn
   have HL2:=Lib.hid L2
   unfold OpFC at wn
   clear h L2 m1 m2 hk2 wu HOR
   generalize ixF 12 ns2 FT=kt at *
   simp only[go_sem,seval]
   (repeat'(first|refine Ctl ?_|((with_reducible refine Kof.use hK ?_);clear hK hE K E)|(((with_reducible first|refine G_region fun K E hK hE=>?_|refine call_ret can17 (wq) ?_|refine call_ret can18 (wo) ?_))<;>(try simp(disch:=omega) only[go_sem,seval, *]))))
   refine call_ex can19 wn (fun a h=>?_)
   obtain⟨u3,K3,ns3⟩:=a
   have I3:=Lib.hid (And.intro (HL2.out.step h) h.mem)
   have wp:=HPU.out u3
   dsimp only at I3 ⊢
   clear h HL2 HPU wn wq wo
   simp only[go_sem,seval]
   (repeat'(first|refine Ctl ?_|((with_reducible refine Kof.use hK ?_);clear hK hE K E)|((with_reducible refine W_cond (fun h=>?_) (fun h=>?_))<;>(try(exfalso;assumption)))|(((with_reducible first|refine G_region fun K E hK hE=>?_|refine call_ret can20 (wp) ?_))<;>(try simp(disch:=omega) only[go_sem,seval, *]))))
   all_goals exact⟨_,Fg.refl _,f - 1,by omega,i+1,K3,ns3,.no,by omega,by omega,I3,z_sl,z_sl,z_sl,z_sl,z_sl,z_sl⟩
  ·have hin:i=T.length:=by omega
   rw[hin,List.take_length]at e10 e11 hmem
   have wt:=WT.out s' K' ns' _ LL hmem
   have hs:=HS.out s' .no ow
   have wa:=WA.out s'
   simp only[natsL,List.map_cons,List.map_nil]at wt
   have HFG:=Lib.hid LL.fg
   clear LL hmem HI
   generalize ixF 12 ns' (orF o (T.map (normT x y)))=kz at *
   generalize rwsC (putA (T.map (normT x y)))=RC at *
   (repeat'(first|refine Ctl ?_|((with_reducible refine Kof.use hK ?_);clear hK hE K E)|((with_reducible refine W_cond (fun h=>?_) (fun h=>?_))<;>(try(exfalso;omega)))|(((with_reducible first|refine G_region fun K E hK hE=>?_|refine call_ret can13 (wt) ?_|refine call_ret can14 (hs) ?_|refine call_ret can12 (wa) ?_))<;>(try simp(disch:=omega) only[go_sem,seval,hTl, *]))))
   all_goals(refine W_ret res5 hQ ?_)
   all_goals exact⟨_,_,Wk.refl _,HFG.out,rfl,rfl⟩
end Go.Proofs.YtndlnadbnganeaaGreatDoor
