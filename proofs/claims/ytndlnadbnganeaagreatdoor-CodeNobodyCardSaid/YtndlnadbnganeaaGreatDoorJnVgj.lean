/- Walks of functions that the claim reaches, and plain facts of them. Conditions: those in the statements. -/
import Derived.Test.YtndlnadbnganeaaGreatDoorJnRyj
import Derived.Test.YtndlnadbnganeaaGreatDoorJnWa
set_option linter.unusedSimpArgs false
set_option linter.unusedVariables false
set_option maxRecDepth 100000
namespace Go.Proofs.YtndlnadbnganeaaGreatDoor
open Go.RowKit
attribute [-go_sem] p_and p_or p_shl p_shr
set_option maxHeartbeats 4000000 in
theorem DBits_S (s:St)(ds:List Dm)(ow:Own)(hl:ds.length≤1000000)(hnl:∀d,d∈ds→d.1.length≤1000000000):SRet Tryz.prog 27 [.lst (domsI ds) ow] s (.int .i64 (if mayDs ds=true then(wdL ds).sum else 0:Nat)) s:=by
 have wm:=fun s=>DMay_S s ds ow hl hnl
 have hlD:=domsI_len (ds:=ds)
 cases hm:mayDs ds with
 |false=>
  rw[hm]at wm
  generalize domsI ds=D at *
  clear hm hnl
  refine G_enter Tryz.func27 rfl Tryz.ntmps27 rfl fun Q hQ hQe=>?_
  (repeat'(first|refine Ctl ?_|((with_reducible refine Kof.use hK ?_);clear hK hE K E)|((with_reducible refine W_cond (fun h=>?_) (fun h=>?_))<;>(try(exfalso;assumption)))|(((with_reducible first|refine G_region fun K E hK hE=>?_|refine call_ret can50 (wm _) ?_))<;>(try simp(disch:=omega) only[go_sem,seval, *]))))
  all_goals(refine W_ret res27 hQ ?_)
  all_goals exact⟨_,_,Wk.refl _,Fg.refl _,rfl,rfl⟩
 |true=>
  rw[hm]at wm
  rw[if_pos rfl]
  have hok:okDs [] ds=true:=by unfold mayDs at hm;rw[Bool.and_eq_true]at hm;exact hm.1
  have hrow:∀i,i<ds.length→∃nm:List UInt8,∃z:Nat,(domsI ds)[i]?=some [.str nm,.int .i64 (z:Int)]∧1≤z∧z≤1073741824∧(wdL (ds.take (i+1))).sum=(wdL (ds.take i)).sum+widthN z:=fun i hi=>by
   have h1:=List.getElem?_eq_getElem hi
   have h2:=okDs_size hok _ (List.mem_of_getElem? h1)
   have h3:=wdL_app h1
   have h4:=domsI_at h1
   generalize ds[i]=d at *
   obtain⟨nm,sz⟩:=d
   dsimp only at h2 h4
   obtain⟨z,rfl⟩:∃z:Nat,sz=(z:Int):=⟨sz.toNat,by omega⟩
   exact⟨nm,z,h4,by omega,by omega,h3⟩
  have HROW:=Lib.hid hrow
  have hlen:ds.length≤32:=by
   unfold mayDs at hm
   simp only[Bool.and_eq_true,decide_eq_true_eq]at hm
   exact hm.2.2
  clear hm hnl hok hrow
  generalize domsI ds=D at *
  refine G_enter Tryz.func27 rfl Tryz.ntmps27 rfl fun Q hQ hQe=>?_
  (repeat'(first|refine Ctl ?_|((with_reducible refine Kof.use hK ?_);clear hK hE K E)|((with_reducible refine W_cond (fun h=>?_) (fun h=>?_))<;>(try(exfalso;assumption)))|(((with_reducible first|refine G_region fun K E hK hE=>?_|refine call_ret can50 (wm _) ?_))<;>(try simp(disch:=omega) only[go_sem,seval,hlD, *]))))
  refine L_loop (fun m env s'=>∃(i:Nat),i≤ds.length∧m+i=ds.length∧s'=s∧env 0=.lst D ow∧env 3=.int .i64 ((wdL (ds.take i)).sum:Nat)∧env 4=.int .i64 i) ds.length
   ⟨0,by omega,by omega,rfl,z_sl,z_sl,z_sl⟩ ?_
  rintro m env s' ⟨i,hi,hmi,rfl,e0,e3,e4⟩
  have hle:=wdL_le (ds.take i)
  have hle2:(wdL (ds.take i)).sum≤2000:=by rw[List.length_take]at hle;omega
  clear hle
  by_cases h1:i<ds.length
  ·obtain⟨nm,z,hx,hz1,hz2,hnx⟩:=HROW.out i h1
   have ww:=fun s=>Dwidth_S s nm z hz1 hz2
   have hwz:=width_le z
   have HNX:=Lib.hid hnx
   clear hnx
   generalize (wdL (ds.take i)).sum=sm at *
   (repeat'(first|refine Ctl ?_|((with_reducible refine Kof.use hK ?_);clear hK hE K E)|((with_reducible refine W_cond (fun h=>?_) (fun h=>?_))<;>(try(exfalso;assumption)))|(((with_reducible first|refine G_region fun K E hK hE=>?_|refine call_ret can52 (ww _) ?_))<;>(try simp(disch:=omega) only[go_sem,seval,hlD,hx, *]))))
   all_goals exact⟨m - 1,by omega,i+1,by omega,by omega,rfl,z_sl,by(rw[HNX.out];((try simp(disch:=assumption) only[go_sem,seval, *])<;>rfl)),z_sl⟩
  ·have hie:i=ds.length:=by omega
   rw[hie,List.take_length]at e3
   generalize (wdL ds).sum=sm at *
   (repeat'(first|refine Ctl ?_|((with_reducible refine Kof.use hK ?_);clear hK hE K E)|((with_reducible refine W_cond (fun h=>?_) (fun h=>?_))<;>(try(exfalso;omega)))|(((with_reducible refine G_region fun K E hK hE=>?_))<;>(try simp(disch:=omega) only[go_sem,seval,hlD, *]))))
   all_goals(refine W_ret res27 hQ ?_)
   all_goals exact⟨_,_,Wk.refl _,Fg.refl _,rfl,rfl⟩
theorem splitC_app {c:UInt8}:∀{p q:List UInt8},c∉p→splitC c (p++c::q)=p::splitC c q
 |[],q,_=>by simp[splitC]
 |b::p,q,h=>by
  have hb:b≠c:=fun e=>h (by simp[e])
  have ih:=splitC_app (c:=c) (p:=p) (q:=q) (fun hm=>h (List.mem_cons_of_mem _ hm))
  rw[List.cons_append,splitC,if_neg hb,ih]
theorem splitC_one {c:UInt8}:∀{p:List UInt8},c∉p→splitC c p=[p]
 |[],_=>rfl
 |b::p,h=>by
  have hb:b≠c:=fun e=>h (by simp[e])
  have ih:=splitC_one (c:=c) (p:=p) (fun hm=>h (List.mem_cons_of_mem _ hm))
  rw[splitC,if_neg hb,ih]
set_option maxHeartbeats 8000000 in
theorem DSplit_S (s:St)(t:List UInt8)(c:UInt8)(hl:t.length≤10000):SRet Tryz.prog 80 [.str t,.int .u8 (c.toNat:Int)] s (.lst (strs (splitC c t)) .no) s:=by
 obtain⟨R,hR⟩:∃R,splitC c t=R:=⟨_,rfl⟩
 rw[hR]
 have HR0:Hid (R=[]++splitC c (t.drop 0)):=Lib.hid (by rw[List.drop_zero,hR];rfl)
 clear hR
 have hs0:strs ([]:List (List UInt8))=[]:=rfl
 refine G_enter Tryz.func80 rfl Tryz.ntmps80 rfl fun Q hQ hQe=>?_
 (repeat'(first|refine Ctl ?_|((with_reducible refine Kof.use hK ?_);clear hK hE K E)|(((with_reducible refine G_region fun K E hK hE=>?_))<;>(try simp(disch:=omega) only[go_sem,seval, *]))))
 refine G_loop (fun m env s'=>∃(i fr:Nat) (O:List (List UInt8)) (o:Own),i≤t.length+1∧m+i=t.length+1∧fr≤i∧O.length≤i∧Hid ((i≤t.length→R=O++splitC c (t.drop fr))∧(i=t.length+1→R=O)∧∀j,fr≤j→j<i→t[j]?≠some c)∧OwnOk s o O.length∧s'=s.own o 9 1 O.length∧env 0=.str t∧env 1=.int .u8 (c.toNat:Int)∧env 5=.lst (strs O) o∧env 6=.int .i64 fr∧env 7=.int .i64 i) (t.length+1) ?_ ?_
 ·exact⟨_,Fg.refl _,0,0,[],.full,by omega,by omega,by omega,by simp,Lib.hid ⟨fun _=>HR0.out,fun h=>by omega,fun j h1 h2=>by omega⟩,rfl,rfl,z_sl,z_sl,by(rw[hs0];((try simp(disch:=assumption) only[go_sem,seval, *])<;>rfl)),z_sl,z_sl⟩
 clear HR0 hs0
 rintro m env s' ⟨i,fr,O,o,hi,hm,hfr,hOl,HH,hO,rfl,e0,e1,e5,e6,e7⟩
 have hsl:(strs O).length=O.length:=by simp[strs]
 have hadd:∀x,strs (O++[x])=strs O++[[.str x]]:=fun x=>by simp[strs]
 by_cases h1:i<t.length
 ·obtain⟨x,hx⟩:∃x,t[i]?=some x:=⟨_,List.getElem?_eq_getElem h1⟩
  have hne:((i:Int)=(t.length:Int))=False:=eq_false (by omega)
  have hle:(i:Int)≤(t.length:Int):=by omega
  by_cases he:x=c
  ·subst he
   have hseg:R=(O++[(t.take i).drop fr])++splitC x (t.drop (i+1)):=by
    obtain⟨a1,a2,a3⟩:=HH.out
    rw[a1 (by omega)]
    have e:t.drop fr=(t.take i).drop fr++x::t.drop (i+1):=by
     have h2:t=t.take i++x::t.drop (i+1):=by
      conv=>lhs;rw[← List.take_append_drop i t,List.drop_eq_getElem_cons h1]
      rw[List.getElem?_eq_getElem h1]at hx
      injection hx with hx
      rw[hx]
     conv=>lhs;rw[h2,List.drop_append_of_le_length (by rw[List.length_take];omega)]
    rw[e,splitC_app,List.append_assoc]
    ·rfl
    ·intro hm
     obtain⟨j,hj⟩:=List.mem_iff_getElem?.1 hm
     rw[List.getElem?_drop]at hj
     have hjl:=(List.getElem?_eq_some_iff.1 hj).1
     rw[List.length_take]at hjl
     rw[List.getElem?_take_of_lt (by omega)]at hj
     exact a3 _ (by omega) (by omega) hj
   have HS:Hid ((i+1≤t.length→R=(O++[(t.take i).drop fr])++splitC x (t.drop (i+1)))∧(i+1=t.length+1→R=O++[(t.take i).drop fr])∧∀j,i+1≤j→j<i+1→t[j]?≠some x):=Lib.hid ⟨fun _=>hseg,fun h=>by omega,fun j h1 h2=>by omega⟩
   have HAD:=Lib.hid (hadd ((t.take i).drop fr))
   have hll:(O++[(t.take i).drop fr]).length=O.length+1:=by simp
   have HLL:=Lib.hid hll
   clear hseg hll hadd HH
   generalize hsg:(t.take i).drop fr=seg at *
   generalize strs O=SO at *
   generalize O.length=ol at *
   (repeat'(first|refine Ctl ?_|((with_reducible refine Kof.use hK ?_);clear hK hE K E)|((with_reducible refine W_cond (fun h=>?_) (fun h=>?_))<;>(try(exfalso;assumption)))|((first|(with_reducible first|refine G_region fun K E hK hE=>?_|refine W_if ?_)|((with_reducible refine W_app (fun o2 ho=>?_));(try simp(disch:=assumption) only[disown_set,disown_own,ownok_o,ownok_m,List.length_map,List.length_cons,List.length_nil,Nat.zero_add,hx,hne,hle,hsl,hsg]at ho)))<;>(try simp(disch:=first|assumption|omega) only[go_sem,seval,hx,hne,hle,hsl,hsg, *]))))
   all_goals exact⟨_,Fg.refl _,m - 1,by omega,i+1,i+1,O++[seg],o2,by omega,by omega,by omega,by rw[HLL.out];omega,HS,by rw[HLL.out];exact ho,by rw[HLL.out],z_sl,z_sl,by(rw[HAD.out];((try simp(disch:=assumption) only[go_sem,seval, *])<;>rfl)),z_sl,z_sl⟩
  ·have hne2:((x.toNat:Int)=(c.toNat:Int))=False:=eq_false fun h=>he (by
    have:x.toNat=c.toNat:=by omega
    exact UInt8.toNat_inj.1 this)
   have HS:Hid ((i+1≤t.length→R=O++splitC c (t.drop fr))∧(i+1=t.length+1→R=O)∧∀j,fr≤j→j<i+1→t[j]?≠some c):=by
    obtain⟨a1,a2,a3⟩:=HH.out
    refine Lib.hid ⟨fun _=>a1 (by omega),fun h=>by omega,fun j h1 h2 h3=>?_⟩
    by_cases e:j=i
    ·subst e;rw[hx]at h3;injection h3 with h3;exact he h3
    ·exact a3 j h1 (by omega) h3
   clear hadd HH he
   (repeat'(first|refine Ctl ?_|((with_reducible refine Kof.use hK ?_);clear hK hE K E)|((with_reducible refine W_cond (fun h=>?_) (fun h=>?_))<;>(try(exfalso;assumption)))|(((with_reducible refine G_region fun K E hK hE=>?_))<;>(try simp(disch:=omega) only[go_sem,seval,hx,hne,hle,hne2, *]))))
   all_goals exact⟨_,Fg.refl _,m - 1,by omega,i+1,fr,O,o,by omega,by omega,by omega,by omega,HS,hO,rfl,z_sl,z_sl,z_sl,z_sl,z_sl⟩
 ·by_cases h2:i=t.length
  ·have hle:(i:Int)≤(t.length:Int):=by omega
   have heq:((i:Int)=(t.length:Int))=True:=eq_true (by omega)
   have hseg:R=O++[(t.take i).drop fr]:=by
    obtain⟨a1,a2,a3⟩:=HH.out
    rw[a1 (by omega),h2,List.take_length,splitC_one]
    intro hm
    obtain⟨j,hj⟩:=List.mem_iff_getElem?.1 hm
    rw[List.getElem?_drop]at hj
    have hjl:=(List.getElem?_eq_some_iff.1 hj).1
    exact a3 _ (by omega) (by omega) hj
   have HS:Hid ((i+1≤t.length→R=(O++[(t.take i).drop fr])++splitC c (t.drop (i+1)))∧(i+1=t.length+1→R=O++[(t.take i).drop fr])∧∀j,i+1≤j→j<i+1→t[j]?≠some c):=Lib.hid ⟨fun h=>by omega,fun _=>hseg,fun j h1 h2=>by omega⟩
   have HAD:=Lib.hid (hadd ((t.take i).drop fr))
   have hll:(O++[(t.take i).drop fr]).length=O.length+1:=by simp
   have HLL:=Lib.hid hll
   clear hseg hll hadd HH
   clear h2 h1
   generalize hsg:(t.take i).drop fr=seg at *
   generalize strs O=SO at *
   generalize O.length=ol at *
   (repeat'(first|refine Ctl ?_|((with_reducible refine Kof.use hK ?_);clear hK hE K E)|((with_reducible refine W_cond (fun h=>?_) (fun h=>?_))<;>(try(exfalso;assumption)))|((first|(with_reducible first|refine G_region fun K E hK hE=>?_|refine W_if ?_)|((with_reducible refine W_app (fun o2 ho=>?_));(try simp(disch:=assumption) only[disown_set,disown_own,ownok_o,ownok_m,List.length_map,List.length_cons,List.length_nil,Nat.zero_add,heq,hle,hsl,hsg]at ho)))<;>(try simp(disch:=first|assumption|omega) only[go_sem,seval,heq,hle,hsl,hsg, *]))))
   all_goals exact⟨_,Fg.refl _,m - 1,by omega,i+1,i+1,O++[seg],o2,by omega,by omega,by omega,by rw[HLL.out];omega,HS,by rw[HLL.out];exact ho,by rw[HLL.out],z_sl,z_sl,by(rw[HAD.out];((try simp(disch:=assumption) only[go_sem,seval, *])<;>rfl)),z_sl,z_sl⟩
  ·have hle:¬ (i:Int)≤(t.length:Int):=by omega
   have hR:R=O:=HH.out.2.1 (by omega)
   subst hR
   clear HH hadd
   generalize strs R=SO at *
   (repeat'(first|refine Ctl ?_|((with_reducible refine Kof.use hK ?_);clear hK hE K E)|((with_reducible refine W_cond (fun h=>?_) (fun h=>?_))<;>(try(exfalso;assumption)))|(((with_reducible refine G_region fun K E hK hE=>?_))<;>(try simp(disch:=omega) only[go_sem,seval,hle, *]))))
   all_goals(refine W_ret res80 hQ ?_)
   all_goals exact⟨_,_,Wk.lst _ _,Fg.own hO,rfl,rfl⟩
set_option maxHeartbeats 4000000 in
theorem DFind_S (s:St)(ds:List Dm)(ow:Own)(x:List UInt8)(hl:ds.length≤1000000):SRet Tryz.prog 81 [.lst (domsI ds) ow,.str x] s (.int .i64 (ixD x ds 0)) s:=by
 have hln:=domsI_len (ds:=ds)
 have hat:=fun i d h=>domsI_at (ds:=ds) (i:=i) (d:=d) h
 have HA:=Lib.hid hat
 obtain⟨R,hR⟩:∃R,ixD x ds 0=R:=⟨_,rfl⟩
 rw[hR]
 have h0:Hid (ixD x (ds.drop 0) 0=R):=Lib.hid (by rw[List.drop_zero];exact hR)
 clear hR hat
 generalize domsI ds=D at *
 refine G_enter Tryz.func81 rfl Tryz.ntmps81 rfl fun Q hQ hQe=>?_
 (repeat'(first|refine Ctl ?_|((with_reducible refine Kof.use hK ?_);clear hK hE K E)|(((with_reducible refine G_region fun K E hK hE=>?_))<;>(try simp(disch:=omega) only[go_sem,seval,hln, *]))))
 refine L_loop (fun m env s'=>∃(i:Nat),i≤ds.length∧m+i=ds.length∧Hid (ixD x (ds.drop i) i=R)∧s'=s∧env 0=.lst D ow∧env 1=.str x∧env 5=.int .i64 i) ds.length
  ⟨0,by omega,by omega,h0,rfl,z_sl,z_sl,z_sl⟩ ?_
 clear h0
 rintro m env s' ⟨i,hi,hm,HH,rfl,e0,e1,e5⟩
 by_cases h1:i<ds.length
 ·have h2:=List.getElem?_eq_getElem h1
  have h3:=HH.out
  rw[List.drop_eq_getElem_cons h1]at h3
  generalize ds[i]=d at h2 h3
  obtain⟨nm,sz⟩:=d
  have hx:=HA.out i _ h2
  dsimp only at hx
  simp only[ixD]at h3
  by_cases he:nm=x
  ·rw[if_pos he]at h3
   subst he
   obtain rfl:R=(i:Int):=h3.symm
   clear h3 h2 HH
   (repeat'(first|refine Ctl ?_|((with_reducible refine Kof.use hK ?_);clear hK hE K E)|((with_reducible refine W_cond (fun h=>?_) (fun h=>?_))<;>(try(exfalso;assumption)))|(((with_reducible refine G_region fun K E hK hE=>?_))<;>(try simp(disch:=omega) only[go_sem,seval,hln,hx, *]))))
   all_goals(refine W_ret res81 hQ ?_)
   all_goals exact⟨_,_,Wk.refl _,Fg.refl _,rfl,rfl⟩
  ·rw[if_neg he]at h3
   have HH2:=Lib.hid h3
   have he':=eq_false he
   clear h3 h2 HH he
   (repeat'(first|refine Ctl ?_|((with_reducible refine Kof.use hK ?_);clear hK hE K E)|((with_reducible refine W_cond (fun h=>?_) (fun h=>?_))<;>(try(exfalso;assumption)))|(((with_reducible refine G_region fun K E hK hE=>?_))<;>(try simp(disch:=omega) only[go_sem,seval,hln,hx,he', *]))))
   all_goals exact⟨m - 1,by omega,i+1,by omega,by omega,HH2,rfl,z_sl,z_sl,z_sl⟩
 ·have hie:i=ds.length:=by omega
  have h3:=HH.out
  rw[List.drop_of_length_le (by omega)]at h3
  simp only[ixD]at h3
  subst h3
  clear HH
  (repeat'(first|refine Ctl ?_|((with_reducible refine Kof.use hK ?_);clear hK hE K E)|((with_reducible refine W_cond (fun h=>?_) (fun h=>?_))<;>(try(exfalso;omega)))|(((with_reducible refine G_region fun K E hK hE=>?_))<;>(try simp(disch:=omega) only[go_sem,seval,hln, *]))))
  all_goals(refine W_ret res81 hQ ?_)
  all_goals exact⟨_,_,Wk.refl _,Fg.refl _,rfl,rfl⟩
end Go.Proofs.YtndlnadbnganeaaGreatDoor
namespace Go.Proofs.YtndlnadbnganeaaGreatDoor
open Go.RowKit
def gsF (ds:List Dm):List (List UInt8)→List (List Nat)→List Nat→Option (List (List Nat)×List Nat)
 |[],o,sn=>some (o,sn)
 |g::r,o,sn=>match grpF ds (splitC 42 g) [] sn with
  |none=>none
  |some (l,sn')=>gsF ds r (o++[l]) sn'
def okG (ds:List Dm)(od:List UInt8):Bool:=if od=[] then decide (ds.length=0)else match gsF ds (splitC 95 od) [] []with
 |none=>false
 |some (_,sn)=>decide (sn.length=ds.length)
def gsOut (ds:List Dm)(od:List UInt8):List (List Nat):=if od=[] then [] else match gsF ds (splitC 95 od) [] []with
 |none=>[]
 |some (o,_)=>o
def SnOk (n:Nat)(sn:List Nat):Prop:=sn.Nodup∧∀k,k∈sn→k<n
theorem ixD_ltD {nm:List UInt8}:∀{ds:List Dm} {i:Nat},ixD nm ds i=-1∨∃k:Nat,ixD nm ds i=((i+k:Nat):Int)∧k<ds.length
 |[],i=>.inl rfl
 |d::r,i=>by
  simp only[ixD]
  split
  ·exact .inr ⟨0,by simp,by simp⟩
  ·rcases ixD_ltD (nm:=nm) (ds:=r) (i:=i+1)with h|⟨k,h,hk⟩
   ·exact .inl h
   ·exact .inr ⟨k+1,by rw[h];congr 1;omega,by simp;omega⟩
theorem grpF_ok {ds:List Dm}:∀{ps:List (List UInt8)} {l sn:List Nat} {r:List Nat×List Nat},grpF ds ps l sn=some r→SnOk ds.length sn→(∀k,k∈l→k<ds.length)→SnOk ds.length r.2∧(∀k,k∈r.1→k<ds.length)∧r.1.length=l.length+ps.length
 |[],l,sn,r,h,h1,h2=>by
  simp only[grpF,Option.some.injEq]at h
  subst h
  exact⟨h1,h2,rfl⟩
 |p::ps,l,sn,r,h,h1,h2=>by
  simp only[grpF]at h
  split at h
  ·cases h
  ·rename_i hc
   rcases ixD_ltD (nm:=p) (ds:=ds) (i:=0)with e|⟨k,e,hk⟩
   ·exact absurd (.inl (by rw[e];omega)) hc
   ·rw[e]at h hc
    simp only[Nat.zero_add,Int.toNat_natCast]at h hc
    have hns:k∉sn:=fun hm=>hc (.inr hm)
    have:=grpF_ok h ⟨by rw[List.nodup_append];exact⟨h1.1,by simp,fun a ha b hb e2=>by simp at hb;subst hb;subst e2;exact hns ha⟩,fun x hx=>by
     rcases List.mem_append.1 hx with hx|hx
     ·exact h1.2 x hx
     ·simp at hx;omega⟩ (fun x hx=>by
     rcases List.mem_append.1 hx with hx|hx
     ·exact h2 x hx
     ·simp at hx;omega)
    exact⟨this.1,this.2.1,by rw[this.2.2];simp;omega⟩
theorem SnOk.len {n:Nat}{sn:List Nat}(h:SnOk n sn):sn.length≤n:=by
 have:=nodup_le (Y:=List.range n) h.1 fun k hk=>List.mem_range.2 (h.2 k hk)
 rwa [List.length_range]at this
def seenC (n:Nat)(sn:List Nat):List VV:=(List.range n).map fun k=>.bool (decide (k∈sn))
theorem seenC_len {n:Nat}{sn:List Nat}:(seenC n sn).length=n:=by simp[seenC]
theorem seenC_at {n k:Nat}{sn:List Nat}(h:k<n):(seenC n sn)[k]?=some (.bool (decide (k∈sn))):=by simp[seenC,h]
theorem seenC_new {n:Nat}:List.replicate n (VV.bool false)=seenC n []:=by
 apply List.ext_getElem
 ·simp[seenC]
 ·intro i h1 h2;simp[seenC]
theorem seenC_set {n k:Nat}{sn:List Nat}(h:k<n):splice (seenC n sn) k [.bool true]=seenC n (sn++[k]):=by
 have:splice (seenC n sn) k [VV.bool true]=(seenC n sn).set k (.bool true):=by
  rw[splice,List.set_eq_take_append_cons_drop,if_pos (by rw[seenC_len];exact h)]
  simp
 rw[this]
 apply List.ext_getElem
 ·simp[seenC]
 ·intro j h1 h2
  simp only[seenC,List.getElem_set,List.getElem_map,List.getElem_range]
  by_cases e:k=j
  ·subst e;simp
  ·rw[if_neg e]
   congr 1
   simp only[List.mem_append,List.mem_singleton,decide_eq_decide]
   constructor
   ·exact fun h=>.inl h
   ·rintro(h|h)
    ·exact h
    ·exact absurd h.symm e
theorem splitC_memD {c:UInt8}{p:List UInt8}:∀{t:List UInt8},p∈splitC c t→p.length≤t.length
 |[],h=>by simp[splitC]at h;subst h;simp
 |b::l,h=>by
  simp only[splitC]at h
  split at h
  ·rcases List.mem_cons.1 h with rfl|h
   ·simp
   ·have:=splitC_memD h;simp;omega
  ·cases hs:splitC c l with
   |nil=>rw[hs]at h;simp at h;subst h;simp
   |cons q r=>
    rw[hs]at h
    rcases List.mem_cons.1 h with rfl|h
    ·have:=splitC_memD (c:=c) (p:=q) (t:=l) (by rw[hs];simp)
     simp;omega
    ·have:=splitC_memD (c:=c) (p:=p) (t:=l) (by rw[hs];simp[h])
     simp;omega
theorem fg_in {s B:St}{o:Own}{T:TypeId}{sz n m b:Nat}{c:Cell}(hO:OwnOk B o m)(hB:∀z,s z≠.free→B z=s z)(hb:s b=.free):Fg ((B.own o T sz n).set b c) s:=fun z=>by
 by_cases hz:s z=.free
 ·exact .inl hz
 ·refine .inr ?_
  rw[St.set_other _ _ (nef hb hz).1]
  rcases Fg.own (T:=T) (sz:=sz) (n:=n) hO z with e|e
  ·exact absurd ((hB z hz).symm.trans e) hz
  ·rw[← e,hB z hz]
set_option maxHeartbeats 16000000 in
theorem DGroups_S (s:St)(ds:List Dm)(ow:Own)(od:List UInt8)(hl:ds.length≤32)(hod:od.length≤10000) :
    SRet Tryz.prog 51 [.lst (domsI ds) ow,.str od] s (.tup [.lst (atC (gsOut ds od)) .no,.bool (okG ds od)]) s:=by
  have hln:=domsI_len (ds:=ds)
  have wf:=fun s x=>DFind_S s ds ow x (by omega)
  have hnew:=seenC_new (n:=ds.length)
  by_cases h0:od=[]
  · subst h0
    have e1:gsOut ds []=[]:=rfl
    have e2:okG ds []=decide (ds.length=0):=rfl
    rw[e1,e2]
    have e3:atC []=[]:=rfl
    rw[e3]
    clear wf e1 e2 e3
    generalize domsI ds=D at *
    by_cases hd:ds.length=0
    · have hd':((ds.length:Nat):Int)=0:=by omega
      rw[decide_eq_true hd]
      rw[hd]at hln
      rw[hd]at hnew
      clear hd' hl
      generalize ds.length=nl at *
      subst hd
      refine G_enter Tryz.func51 rfl Tryz.ntmps51 rfl fun Q hQ hQe=>?_
      (repeat'(first|refine Ctl ?_|((with_reducible refine Kof.use hK ?_);clear hK hE K E)|((with_reducible refine W_cond (fun h=>?_) (fun h=>?_))<;>(try(exfalso;assumption)))|((first|(with_reducible refine G_region fun K E hK hE=>?_)|((with_reducible refine W_fresh (fun b hb=>?_))))<;>(try simp(disch:=omega) only[go_sem,seval,hln,Int.ofNat_zero,Int.natCast_zero, *]))))
      all_goals(refine W_ret res51 hQ ?_)
      all_goals exact⟨_,_,Wk.tupQ,Fg.of_set _ hb,rfl,rfl⟩
    · have hd':¬ ((ds.length:Nat):Int)=0:=by omega
      rw[decide_eq_false hd]
      refine G_enter Tryz.func51 rfl Tryz.ntmps51 rfl fun Q hQ hQe=>?_
      (repeat'(first|refine Ctl ?_|((with_reducible refine Kof.use hK ?_);clear hK hE K E)|((with_reducible refine W_cond (fun h=>?_) (fun h=>?_))<;>(try(exfalso;assumption)))|((first|(with_reducible first|refine G_region fun K E hK hE=>?_|refine W_and ?_)|((with_reducible refine W_fresh (fun b hb=>?_))))<;>(try simp(disch:=omega) only[go_sem,seval,hln,hd', *]))))
      all_goals(refine W_ret res51 hQ ?_)
      all_goals exact⟨_,_,Wk.tupQ,Fg.of_set _ hb,rfl,rfl⟩
  · obtain⟨RES,hRES⟩:∃R,gsF ds (splitC 95 od) [] []=R:=⟨_,rfl⟩
    obtain⟨RV,hRV⟩:∃RV,VV.tup [.lst (atC (gsOut ds od)) .no,.bool (okG ds od)]=RV:=⟨_,rfl⟩
    have hr0:RES=none→RV=.tup [.lst [] .no,.bool false]:=fun h=>by
      rw[← hRV]
      unfold gsOut okG
      rw[if_neg h0,if_neg h0,hRES,h]
      rfl
    have hr1:∀O sn,RES=some (O,sn)→RV=.tup [.lst (atC O) .no,.bool (decide (sn.length=ds.length))]:=fun O sn h=>by
      rw[← hRV]
      unfold gsOut okG
      rw[if_neg h0,if_neg h0,hRES,h]
    rw[hRV]
    have wsp:=fun s=>DSplit_S s od 95 hod
    have hPl:(splitC 95 od).length≤10001:=by have:=splitC_len 95 od;omega
    have hPm:∀p,p∈splitC 95 od→p.length≤10000:=fun p hp=>by have:=splitC_memD hp;omega
    have h0':¬ od=[]:=h0
    have HR0:=Lib.hid hr0
    have HR1:=Lib.hid hr1
    have HRES:=Lib.hid hRES
    have HPM:=Lib.hid hPm
    have HWF:=Lib.hid wf
    clear hr0 hr1 hRES hRV hPm h0 wf
    generalize splitC 95 od=P at *
    have hPs:(strs P).length=P.length:=by simp[strs]
    have hPa:∀(i:Nat) (p:List UInt8),P[i]?=some p→(strs P)[i]?=some [VV.str p]:=fun i p h=>by simp[strs,h]
    have HPA:=Lib.hid hPa
    clear hPa
    generalize hSP:strs P=SP at *
    clear hSP
    generalize hD:domsI ds=D at *
    clear hD
    have hne:((od:List UInt8)=[])=False:=eq_false h0'
    rw[show (((95:UInt8).toNat:Nat):Int)=95 from rfl]at wsp
    have I0:Hid (gsF ds (P.drop 0) [] []=RES∧SnOk ds.length []):=Lib.hid ⟨by rw[List.drop_zero];exact HRES.out,by simp,by simp⟩
    have hat0:atC []=[]:=rfl
    refine G_enter Tryz.func51 rfl Tryz.ntmps51 rfl fun Q hQ hQe=>?_
    (repeat'(first|refine Ctl ?_|((with_reducible refine Kof.use hK ?_);clear hK hE K E)|((with_reducible refine W_cond (fun h=>?_) (fun h=>?_))<;>(try(exfalso;assumption)))|((first|(with_reducible first|refine G_region fun K E hK hE=>?_|refine call_ret can80 (wsp _) ?_|refine W_and ?_)|((with_reducible refine W_fresh (fun b hb=>?_))))<;>(try simp(disch:=omega) only[go_sem,seval,hln,hne,hnew,hPs, *]))))
    obtain⟨bs,hbs⟩:∃z,z=b:=⟨_,rfl⟩
    subst hbs
    have HBS:=Lib.hid hb
    refine G_loop (fun m env s'=>∃(i:Nat) (O:List (List Nat)) (sn:List Nat) (o:Own),i≤P.length∧m+i=P.length∧Hid (gsF ds (P.drop i) O sn=RES∧SnOk ds.length sn)∧O.length=i∧OwnOk s o i∧NotOwn o bs∧s'=(s.own o 34 1 i).set bs (.obj 4 (seenC ds.length sn))∧env 0=.lst D ow∧env 6=.lst (atC O) o∧env 7=.msl bs ds.length∧env 8=.int .i64 sn.length∧env 9=.lst SP .no∧env 10=.int .i64 i) P.length ?_ ?_
    · exact⟨_,Fg.refl _,0,[],[],.full,by omega,by omega,I0,rfl,rfl,trivial,rfl,z_sl,by(rw[hat0];((try simp(disch:=assumption) only[go_sem,seval, *])<;>rfl)),z_sl,z_sl,z_sl,z_sl⟩
    clear I0 wsp hat0 hnew hb
    rintro m env s' ⟨i,O,sn,o,hi,hm,HH,hOl,hO,hno,rfl,e0,e6,e7,e8,e9,e10⟩
    have hsl:=HH.out.2.len
    by_cases h1:i<P.length
    · obtain⟨p,hp⟩:∃p,P[i]?=some p:=⟨_,List.getElem?_eq_getElem h1⟩
      have hx:=HPA.out i p hp
      have hp2:=HPM.out p (List.mem_of_getElem? hp)
      have wsp:=fun s=>DSplit_S s p 42 hp2
      rw[show (((42:UInt8).toNat:Nat):Int)=42 from rfl]at wsp
      have hNl:(splitC 42 p).length≤10001:=by have:=splitC_len 42 p;omega
      obtain⟨GR,hGR⟩:∃GR,grpF ds (splitC 42 p) [] sn=GR:=⟨_,rfl⟩
      have hdr:P.drop i=p::P.drop (i+1):=by
        rw[List.drop_eq_getElem_cons h1]
        rw[List.getElem?_eq_getElem h1]at hp
        injection hp with hp
        rw[hp]
      have hg0:GR=none→RES=none:=fun h=>by
        rw[← HH.out.1,hdr]
        simp only[gsF,hGR,h]
      have hg1:∀l sn',GR=some (l,sn')→gsF ds (P.drop (i+1)) (O++[l]) sn'=RES:=fun l sn' h=>by
        rw[← HH.out.1,hdr]
        simp only[gsF,hGR,h]
      have HG0:=Lib.hid hg0
      have HG1:=Lib.hid hg1
      have J0:Hid (grpF ds ((splitC 42 p).drop 0) [] sn=GR∧SnOk ds.length sn∧∀k,k∈([]:List Nat)→k<ds.length):=Lib.hid ⟨by rw[List.drop_zero];exact hGR,HH.out.2,fun k hk=>by cases hk⟩
      obtain⟨B,hB⟩:∃B,B=(s.own o 34 1 i).set bs (.obj 4 (seenC ds.length sn)):=⟨_,rfl⟩
      rw[← hB]
      have hBb:B bs=.obj 4 (seenC ds.length sn):=by rw[hB,St.set_same]
      have hBlive:B bs≠.free:=by rw[hBb];simp
      have hBf:∀z,s z≠.free→B z=s z:=fun z hz=>by
        rw[hB,St.set_other _ _ (nef HBS.out hz).1]
        rcases Fg.own (T:=34) (sz:=1) (n:=i) hO z with e|e
        · exact absurd e hz
        · exact e.symm
      have hB0:B=(B.own .full 3 1 0).set bs (.obj 4 (seenC ds.length sn)):=by
        rw[show B.own .full 3 1 0=B from rfl,St.set_self _ _ _ hBb]
      have HB:=Lib.hid (And.intro hB (And.intro hBf hB0))
      have hNs:(strs (splitC 42 p)).length=(splitC 42 p).length:=by simp[strs]
      have hNa:∀(j:Nat) (q:List UInt8),(splitC 42 p)[j]?=some q→(strs (splitC 42 p))[j]?=some [VV.str q]:=fun j q h=>by simp[strs,h]
      have HNA:=Lib.hid hNa
      have hn0:natsL []=[]:=rfl
      clear hNa hB hBf hB0 hg0 hg1 hGR hdr hp hp2 HH
      generalize splitC 42 p=N at *
      generalize hSN:strs N=SN at *
      clear hSN
      generalize hAO:atC O=AO at *
      have HAO:=Lib.hid hAO
      clear hAO
      have HO:=Lib.hid (And.intro hO (And.intro hno hOl))
      clear hO hno hOl
      (repeat'(first|refine Ctl ?_|((with_reducible refine Kof.use hK ?_);clear hK hE K E)|((with_reducible refine W_cond (fun h=>?_) (fun h=>?_))<;>(try(exfalso;assumption)))|(((with_reducible first|refine G_region fun K E hK hE=>?_|refine call_ret can80 (wsp _) ?_))<;>(try simp(disch:=omega) only[go_sem,seval,hx,hPs,hNs, *]))))
      refine G_loop (fun m2 env s2=>∃(j:Nat) (g sn2:List Nat) (o1:Own),j≤N.length∧m2+j=N.length∧Hid (grpF ds (N.drop j) g sn2=GR∧SnOk ds.length sn2∧∀k,k∈g→k<ds.length)∧g.length=j∧OwnOk B o1 j∧NotOwn o1 bs∧s2=(B.own o1 3 1 j).set bs (.obj 4 (seenC ds.length sn2))∧env 0=.lst D ow∧env 6=.lst AO o∧env 7=.msl bs ds.length∧env 8=.int .i64 sn2.length∧env 9=.lst SP .no∧env 10=.int .i64 i∧env 11=.lst SN .no∧env 12=.lst (natsL g) o1∧env 13=.int .i64 j) N.length ?_ ?_
      · exact⟨_,Fg.refl _,0,[],sn,.full,by omega,by omega,J0,rfl,rfl,trivial,HB.out.2.2,z_sl,z_sl,z_sl,z_sl,z_sl,z_sl,z_sl,by(rw[hn0];((try simp(disch:=assumption) only[go_sem,seval, *])<;>rfl)),z_sl⟩
      clear J0 wsp hn0 e0 e6 e7 e8 e9 e10 hsl hx
      rintro m2 env s2 ⟨j,g,sn2,o1,hj,hm2,HJ,hgl,hO1,hno1,rfl,e0,e6,e7,e8,e9,e10,e11,e12,e13⟩
      have hsl:=HJ.out.2.1.len
      by_cases h2:j<N.length
      · obtain⟨x,hxx⟩:∃x,N[j]?=some x:=⟨_,List.getElem?_eq_getElem h2⟩
        have hx:=HNA.out j x hxx
        have hdr:N.drop j=x::N.drop (j+1):=by
          rw[List.drop_eq_getElem_cons h2]
          rw[List.getElem?_eq_getElem h2]at hxx
          injection hxx with hxx
          rw[hxx]
        have hstep:=HJ.out.1
        rw[hdr]at hstep
        simp only[grpF]at hstep
        have wfx:=fun s=>HWF.out s x
        rcases ixD_ltD (nm:=x) (ds:=ds) (i:=0)with e|⟨k,e,hk⟩
        · rw[e]at wfx hstep
          rw[if_pos (.inl (by omega))]at hstep
          have hRV:=HR0.out (HG0.out hstep.symm)
          have HF:Hid (Fg ((B.own o1 3 1 j).set bs (.obj 4 (seenC ds.length sn2))) s):=Lib.hid (fg_in hO1 HB.out.2.1 HBS.out)
          clear hstep e hdr hxx
          subst hRV
          generalize seenC ds.length sn2=SC at *
          (repeat'(first|refine Ctl ?_|((with_reducible refine Kof.use hK ?_);clear hK hE K E)|((with_reducible refine W_cond (fun h=>?_) (fun h=>?_))<;>(try(exfalso;assumption)))|(((with_reducible first|refine G_region fun K E hK hE=>?_|refine call_ret can81 (wfx _) ?_))<;>(try simp(disch:=omega) only[go_sem,seval,hx,hNs, *]))))
          all_goals(refine W_ret res51 hQ ?_)
          all_goals exact⟨_,_,Wk.tupQ,HF.out,rfl,rfl⟩
        · rw[Nat.zero_add]at e
          rw[e]at wfx hstep
          have hsc:=seenC_at (n:=ds.length) (sn:=sn2) hk
          have hscl:=seenC_len (n:=ds.length) (sn:=sn2)
          by_cases hm:k∈sn2
          · rw[if_pos (.inr (by simpa using hm))]at hstep
            have hRV:=HR0.out (HG0.out hstep.symm)
            have HF:Hid (Fg ((B.own o1 3 1 j).set bs (.obj 4 (seenC ds.length sn2))) s):=Lib.hid (fg_in hO1 HB.out.2.1 HBS.out)
            rw[decide_eq_true hm]at hsc
            clear hstep e hdr hxx hm
            subst hRV
            generalize seenC ds.length sn2=SC at *
            (repeat'(first|refine Ctl ?_|((with_reducible refine Kof.use hK ?_);clear hK hE K E)|((with_reducible refine W_cond (fun h=>?_) (fun h=>?_))<;>(try(exfalso;assumption)))|((first|(with_reducible first|refine G_region fun K E hK hE=>?_|refine call_ret can81 (wfx _) ?_|refine W_if ?_)|((with_reducible refine W_gd (fun h=>?_) (fun h=>?_))<;>(try(exfalso;omega))))<;>(try simp(disch:=omega) only[go_sem,seval,hx,hNs,hsc,hscl, *]))))
            all_goals(refine W_ret res51 hQ ?_)
            all_goals exact⟨_,_,Wk.tupQ,HF.out,rfl,rfl⟩
          · rw [if_neg (by rintro (h | h); · omega
                           · exact hm (by simpa using h))]at hstep
            simp only[Int.toNat_natCast]at hstep
            rw[decide_eq_false hm]at hsc
            have hset:=seenC_set (sn:=sn2) hk
            have HJ2:Hid (grpF ds (N.drop (j+1)) (g++[k]) (sn2++[k])=GR∧SnOk ds.length (sn2++[k])∧∀q,q∈g++[k]→q<ds.length):=by
              obtain⟨_,⟨a1,a2⟩,a3⟩:=HJ.out
              refine Lib.hid ⟨hstep,⟨by rw[List.nodup_append];exact⟨a1,by simp,fun a ha b hb e2=>by simp at hb;subst hb;subst e2;exact hm ha⟩,fun q hq=>?_⟩,fun q hq=>?_⟩
              · rcases List.mem_append.1 hq with hq|hq
                · exact a2 q hq
                · simp at hq;omega
              · rcases List.mem_append.1 hq with hq|hq
                · exact a3 q hq
                · simp at hq;omega
            have hgn:natsL (g++[k])=natsL g++[[.int .i64 (k:Int)]]:=natsL_add
            have hgl2:(natsL g).length=j:=by rw[natsL_len,hgl]
            have hsl2:(sn2++[k]).length=sn2.length+1:=by simp
            have HSL2:=Lib.hid (And.intro hgn (And.intro hsl2 (show (g++[k]).length=j+1 by simp;omega)))
            clear hstep e hdr hxx hm hgn hsl2 hgl HJ
            generalize hS2:seenC ds.length (sn2++[k])=SC2 at *
            have HS2:=Lib.hid hS2
            clear hS2
            generalize seenC ds.length sn2=SC at *
            generalize natsL g=NG at *
            generalize sn2.length=sl at *
            (repeat'(first|refine Ctl ?_|((with_reducible refine Kof.use hK ?_);clear hK hE K E)|((with_reducible refine W_cond (fun h=>?_) (fun h=>?_))<;>(try(exfalso;assumption)))|((first|(with_reducible first|refine G_region fun K E hK hE=>?_|refine call_ret can81 (wfx _) ?_|refine W_if ?_|refine W_ifS ?_)|((with_reducible refine W_app (fun o2 ho=>?_));(try simp(disch:=assumption) only[disown_set,disown_own,ownok_o,ownok_m,List.length_map,List.length_cons,List.length_nil,Nat.zero_add,hx,hNs,hsc,hscl,hset,hgl2]at ho);(repeat(obtain⟨_,ho⟩:=ho)))|((with_reducible refine W_gd (fun h=>?_) (fun h=>?_))<;>(try(exfalso;omega))))<;>(try simp(disch:=first|assumption|omega) only[go_sem,seval,hx,hNs,hsc,hscl,hset,hgl2, *]))))
            all_goals exact⟨_,Fg.refl _,m2 - 1,by omega,j+1,g++[k],sn2++[k],o2,by omega,by omega,HJ2,HSL2.out.2.2,ho,by assumption,by rw[HS2.out],z_sl,z_sl,z_sl,by(rw[HSL2.out.2.1];((try simp(disch:=assumption) only[go_sem,seval, *])<;>rfl)),z_sl,z_sl,z_sl,by(rw[HSL2.out.1];((try simp(disch:=assumption) only[go_sem,seval, *])<;>rfl)),z_sl⟩
      · have hGR:GR=some (g,sn2):=by
          have h:=HJ.out.1
          rw[List.drop_of_length_le (by omega)]at h
          simp only[grpF]at h
          exact h.symm
        have HN:Hid (gsF ds (P.drop (i+1)) (O++[g]) sn2=RES∧SnOk ds.length sn2):=Lib.hid ⟨HG1.out g sn2 hGR,HJ.out.2.1⟩
        (repeat'(first|(with_reducible refine Kp_atQ 21 ?_)|refine Ctl ?_|((with_reducible refine Kof.use hK ?_);clear hK hE K E)|((with_reducible refine W_cond (fun h=>?_) (fun h=>?_))<;>(try(exfalso;assumption)))|(((with_reducible refine G_region fun K E hK hE=>?_))<;>(try simp(disch:=omega) only[go_sem,seval,hNs, *]))))
        unfold StopQ
        refine Kp_wkt 12 (x:=.lst (natsL g) o1) (y:=.lst (natsL g) .no) (z_sl) (Wk.lst _ _) ?_
        have hfg:=(Fg.own (T:=3) (sz:=1) (n:=j) hO1).set bs (.obj 4 (seenC ds.length sn2))
        rw[HB.out.1,St.set_set]at hfg
        rw[HB.out.1]
        refine Kp_forget hfg ?_
        obtain⟨hO,hno,hOl⟩:=HO.out
        have hat:atC (O++[g])=AO++[[.lst (natsL g) .no]]:=by rw[← HAO.out];simp[atC]
        have hAl:AO.length=i:=by rw[← HAO.out,atC_len,hOl]
        have HAT:=Lib.hid (And.intro hat (show (O++[g]).length=i+1 by simp;omega))
        clear hfg hGR HJ hat hOl hBb hBlive hO1 hno1 HB
        generalize hSC:seenC ds.length sn2=SC at *
        have HSC:=Lib.hid hSC
        clear hSC
        generalize natsL g=NG at *
        (repeat'(first|refine Ctl ?_|((with_reducible refine Kof.use hK ?_);clear hK hE K E)|((first|(with_reducible refine G_region fun K E hK hE=>?_)|((with_reducible refine W_app (fun o2 ho=>?_));(try simp(disch:=assumption) only[disown_set,disown_own,ownok_o,ownok_m,List.length_map,List.length_cons,List.length_nil,Nat.zero_add,hAl]at ho);(repeat(obtain⟨_,ho⟩:=ho))))<;>(try simp(disch:=first|assumption|omega) only[go_sem,seval,hAl, *]))))
        all_goals exact⟨_,Fg.refl _,m - 1,by omega,i+1,O++[g],sn2,o2,by omega,by omega,HN,HAT.out.2,ho,by assumption,by rw[HSC.out],z_sl,by(rw[HAT.out.1];((try simp(disch:=assumption) only[go_sem,seval, *])<;>rfl)),z_sl,z_sl,z_sl,z_sl⟩
    · have hRES:RES=some (O,sn):=by
        have h:=HH.out.1
        rw[List.drop_of_length_le (by omega)]at h
        simp only[gsF]at h
        exact h.symm
      have hRV:=HR1.out O sn hRES
      have HF:Hid (Fg ((s.own o 34 1 i).set bs (.obj 4 (seenC ds.length sn))) s):=Lib.hid (Fg.setA (Fg.own hO) HBS.out)
      clear hRES
      subst hRV
      generalize seenC ds.length sn=SC at *
      generalize atC O=AO at *
      (repeat'(first|refine Ctl ?_|((with_reducible refine Kof.use hK ?_);clear hK hE K E)|((with_reducible refine W_cond (fun h=>?_) (fun h=>?_))<;>(try(exfalso;assumption)))|(((with_reducible refine G_region fun K E hK hE=>?_))<;>(try simp(disch:=omega) only[go_sem,seval,hPs,hln, *]))))
      all_goals(refine W_ret res51 hQ ?_)
      all_goals exact⟨_,_,Wk.tupQ,HF.out,rfl,rfl⟩
theorem uget {α:Type}{l:List α}{i:Nat}(h:i<l.length):∃x,l[i]?=some x:=⟨_,List.getElem?_eq_getElem h⟩
theorem lst_eq {α:Type}{a b:List α}(hl:a.length=b.length)(h:∀i:Nat,i<a.length→a[i]?=b[i]?):a=b:=by
 apply List.ext_getElem?
 intro i
 by_cases hi:i<a.length
 ·exact h i hi
 ·rw[List.getElem?_eq_none (by omega),List.getElem?_eq_none (by omega)]
def RowsOk (l:List (List Int)):Prop:=l.length≤1000000000∧∀r,r∈l→r.length≤1000000000
theorem rwsC_atL {rows:List (List Int)}{i:Nat}{r:List Int}(h:rows[i]?=some r):(rwsC rows)[i]?=some [.lst (intsL r) .no]:=rwsC_at h
set_option maxHeartbeats 2000000 in
theorem SameInts_S (a b:List Int)(o1 o2:Own)(ha:a.length≤140737488355328)(hb:b.length≤140737488355328)(t:St):SRet Tryz.prog 22 [.lst (intsL a) o1,.lst (intsL b) o2] t (.bool (decide (a=b))) t:=by
 have la:(intsL a).length=a.length:=intsL_len
 have lb:(intsL b).length=b.length:=intsL_len
 by_cases hl:a.length=b.length
 ·have hli:((a.length:Int)=(b.length:Int))=True:=eq_true (by omega)
  have hlz:((b.length:Int)=(b.length:Int))=True:=eq_true rfl
  refine G_enter Tryz.func22 rfl Tryz.ntmps22 rfl fun Q hQ hQe=>?_
  (repeat'(first|refine Ctl ?_|((with_reducible refine Kof.use hK ?_);clear hK hE K E)|((with_reducible refine W_cond (fun h=>?_) (fun h=>?_))<;>(try(exfalso;assumption)))|(((with_reducible refine G_region fun K E hK hE=>?_))<;>(try simp(disch:=omega) only[go_sem,seval,la,lb,hl, *]))))
  refine G_loop (fun m env s'=>∃i:Nat,i≤a.length∧m+i=a.length∧s'=t∧Hid (∀j:Nat,j<i→a[j]?=b[j]?)∧env 0=.lst (intsL a) o1∧env 1=.lst (intsL b) o2∧env 5=.int .i64 i) a.length ?_ ?_
  ·exact⟨t,Fg.refl _,0,by omega,by omega,rfl,Lib.hid (fun j hj=>by omega),z_sl,z_sl,z_sl⟩
  ·rintro m env s' ⟨i,hi,hm,rfl,HE,e0,e1,e5⟩
   by_cases hlt:i<a.length
   ·obtain⟨c,hc⟩:=uget hlt
    obtain⟨d,hd⟩:=uget (l:=b) (i:=i) (by omega)
    have hsx:=intsL_at hc
    have hsy:=intsL_at hd
    have HC:=Lib.hid hc
    have HD:=Lib.hid hd
    clear hc hd
    by_cases hcd:c=d
    ·have HCD:=Lib.hid hcd
     have hcc:(c=d)=True:=eq_true hcd
     (repeat'(first|refine Ctl ?_|(with_reducible first|(refine Kof.use hK ?_;clear hK hE K E)|(refine Kof.use hKh ?_;clear hKh Kh)|refine G_plan 6 [] [0,1,2,3,4,5,6,7,8] hQe fun K E hK hE=>?_)|((with_reducible refine W_cond (fun h=>?_) (fun h=>?_))<;>(try(exfalso;first|assumption|omega)))|(((with_reducible first|refine G_region fun K E hK hE=>?_|refine P_fin fun Kh hKh=>?_))<;>(try simp(disch:=omega) only[go_sem,seval,la,lb,hl,hsx,hsy, *]))))
     refine⟨s',Fg.refl _,m - 1,by omega,i+1,by omega,by omega,rfl,Lib.hid (fun j hj=>?_),z_sl,z_sl,z_sl⟩
     by_cases hj2:j=i
     ·subst hj2;rw[HC.out,HD.out,HCD.out]
     ·exact HE.out j (by omega)
    ·have hcc:(c=d)=False:=eq_false hcd
     (repeat'(first|refine Ctl ?_|(with_reducible first|(refine Kof.use hK ?_;clear hK hE K E)|(refine Kof.use hKh ?_;clear hKh Kh)|refine G_plan 6 [] [0,1,2,3,4,5,6,7,8] hQe fun K E hK hE=>?_)|((with_reducible refine W_cond (fun h=>?_) (fun h=>?_))<;>(try(exfalso;first|assumption|omega)))|(((with_reducible first|refine G_region fun K E hK hE=>?_|refine P_fin fun Kh hKh=>?_))<;>(try simp(disch:=omega) only[go_sem,seval,la,lb,hl,hsx,hsy, *]))))
     all_goals(refine W_ret res22 hQ ?_)
     all_goals(refine⟨_,_,Wk.of_eq ?_,?_,rfl,rfl⟩)
     ·rw[decide_eq_false (fun h=>hcd (by have:=HC.out;rw[h,HD.out]at this;injection this with this;exact this.symm))]
     ·(exact z_fg)
   ·(repeat'(first|refine Ctl ?_|((with_reducible refine Kof.use hK ?_);clear hK hE K E)|((with_reducible refine W_cond (fun h=>?_) (fun h=>?_))<;>(try(exfalso;omega)))|(((with_reducible refine G_region fun K E hK hE=>?_))<;>(try simp(disch:=omega) only[go_sem,seval,la,lb,hl, *]))))
    all_goals(refine W_ret res22 hQ ?_)
    all_goals(refine⟨_,_,Wk.of_eq ?_,?_,rfl,rfl⟩)
    ·rw[decide_eq_true (lst_eq hl (fun j hj=>HE.out j (by omega)))]
    ·(exact z_fg)
 ·have hli:((a.length:Int)=(b.length:Int))=False:=eq_false (by omega)
  refine G_enter Tryz.func22 rfl Tryz.ntmps22 rfl fun Q hQ hQe=>?_
  (repeat'(first|refine Ctl ?_|((with_reducible refine Kof.use hK ?_);clear hK hE K E)|((with_reducible refine W_cond (fun h=>?_) (fun h=>?_))<;>(try(exfalso;assumption)))|(((with_reducible refine G_region fun K E hK hE=>?_))<;>(try simp(disch:=omega) only[go_sem,seval,la,lb, *]))))
  all_goals(refine W_ret res22 hQ ?_)
  all_goals(refine⟨_,_,Wk.of_eq ?_,?_,rfl,rfl⟩)
  ·rw[decide_eq_false (fun h=>hl (by rw[h]))]
  ·(exact z_fg)
set_option maxHeartbeats 4000000 in
theorem SameRows_S (a b:List (List Int))(o1 o2:Own)(ha:RowsOk a)(hb:RowsOk b)(t:St):SRet Tryz.prog 14 [.lst (rwsC a) o1,.lst (rwsC b) o2] t (.bool (decide (a=b))) t:=by
 have hl1:(rwsC a).length=a.length:=rwsC_len
 have hl2:(rwsC b).length=b.length:=rwsC_len
 obtain⟨ha1,ha2⟩:=ha
 obtain⟨hb1,hb2⟩:=hb
 by_cases hlen:a.length=b.length
 ·generalize hR:decide (a=b)=R
  have HR:=Lib.hid hR
  clear hR
  refine G_enter Tryz.func14 rfl Tryz.ntmps14 rfl fun Q hQ hQe=>?_
  (repeat'(first|refine Ctl ?_|((with_reducible refine Kof.use hK ?_);clear hK hE K E)|((with_reducible refine W_cond (fun h=>?_) (fun h=>?_))<;>(try(exfalso;assumption)))|(((with_reducible refine G_region fun K E hK hE=>?_))<;>(try simp(disch:=omega) only[go_sem,seval,hl1,hl2,hlen, *]))))
  refine L_loop (fun m env s'=>∃(i:Nat),i≤b.length∧m+i=b.length∧Hid (a.take i=b.take i)∧s'=t∧env 0=.lst (rwsC a) o1∧env 1=.lst (rwsC b) o2∧env 5=.int .i64 i) b.length
   ⟨0,by omega,by omega,Lib.hid rfl,rfl,z_sl,z_sl,z_sl⟩ ?_
  rintro m env s' ⟨i,hi,hm,HH,rfl,e0,e1,e5⟩
  by_cases h2:i<b.length
  ·obtain⟨x,hx⟩:∃x,a[i]?=some x:=⟨_,List.getElem?_eq_getElem (by omega)⟩
   obtain⟨y,hy⟩:∃y,b[i]?=some y:=⟨_,List.getElem?_eq_getElem h2⟩
   have sx:=rwsC_atL hx
   have sy:=rwsC_atL hy
   have w1:=fun s=>SameInts_S x y .no .no (by have:=ha2 x (List.mem_of_getElem? hx);omega) (by have:=hb2 y (List.mem_of_getElem? hy);omega) s
   have t1:a.take (i+1)=a.take i++[x]:=by rw[List.take_add_one,hx];rfl
   have t2:b.take (i+1)=b.take i++[y]:=by rw[List.take_add_one,hy];rfl
   have HT:x=y→a.take (i+1)=b.take (i+1):=fun e=>by rw[t1,t2,HH.out,e]
   have HN:¬ x=y→a≠b:=fun e=>by rintro rfl;exact e (by rw[hx]at hy;injection hy)
   clear t1 t2 hx hy
   by_cases e:x=y
   ·have HT2:=Lib.hid (HT e)
    rw[show decide (x=y)=true by simp[e]]at w1
    clear HT HN e
    (repeat'(first|refine Ctl ?_|(with_reducible first|(refine Kof.use hK ?_;clear hK hE K E)|(refine Kof.use hKh ?_;clear hKh Kh)|(refine Kof.use hKb (P_next ?_);clear hKb Kb)|refine G_plan 6 [([0,1,2,3,4,5,6,7],8,[[]])] [9] hQe fun K E hK hE=>?_)|((with_reducible refine W_cond (fun h=>?_) (fun h=>?_))<;>(try(exfalso;assumption)))|(((with_reducible first|refine G_region fun K E hK hE=>?_|refine call_ret can22 (w1 _) ?_|refine P_heads fun Kh hKh=>?_|refine P_fin fun Kh hKh=>?_|refine P_each fun Kb hKb=>?_))<;>(try simp(disch:=omega) only[go_sem,seval,hl1,hl2,sx,sy,hlen, *]))))
    all_goals exact⟨m - 1,by omega,i+1,by omega,by omega,HT2,rfl,z_sl,z_sl,z_sl⟩
   ·have hR:R=false:=by rw[← HR.out];simp[HN e]
    subst hR
    rw[show decide (x=y)=false by simp[e]]at w1
    clear HT HN e
    (repeat'(first|refine Ctl ?_|(with_reducible first|(refine Kof.use hK ?_;clear hK hE K E)|(refine Kof.use hKh ?_;clear hKh Kh)|(refine Kof.use hKb (P_next ?_);clear hKb Kb)|refine G_plan 6 [([0,1,2,3,4,5,6,7],8,[[]])] [9] hQe fun K E hK hE=>?_)|((with_reducible refine W_cond (fun h=>?_) (fun h=>?_))<;>(try(exfalso;assumption)))|(((with_reducible first|refine G_region fun K E hK hE=>?_|refine call_ret can22 (w1 _) ?_|refine P_heads fun Kh hKh=>?_|refine P_fin fun Kh hKh=>?_|refine P_each fun Kb hKb=>?_))<;>(try simp(disch:=omega) only[go_sem,seval,hl1,hl2,sx,sy,hlen, *]))))
    all_goals(refine W_ret res14 hQ ?_)
    all_goals(refine⟨_,_,Wk.of_eq ?_,?_,rfl,rfl⟩)
    all_goals first|rfl|(exact z_fg)
  ·have hR:R=true:=by
    have h3:=HH.out
    rw[List.take_of_length_le (by omega),List.take_of_length_le (by omega)]at h3
    rw[← HR.out];simp[h3]
   subst hR
   (repeat'(first|refine Ctl ?_|((with_reducible refine Kof.use hK ?_);clear hK hE K E)|((with_reducible refine W_cond (fun h=>?_) (fun h=>?_))<;>(try(exfalso;assumption)))|(((with_reducible refine G_region fun K E hK hE=>?_))<;>(try simp(disch:=omega) only[go_sem,seval,hl1,hl2,hlen, *]))))
   all_goals(refine W_ret res14 hQ ?_)
   all_goals(refine⟨_,_,Wk.of_eq ?_,?_,rfl,rfl⟩)
   all_goals first|rfl|(exact z_fg)
 ·have hR:decide (a=b)=false:=by
   have:a≠b:=fun e=>hlen (by rw[e])
   simp[this]
  rw[hR]
  have hln:((a.length:Int)=(b.length:Int))=False:=eq_false (by omega)
  clear hR
  refine G_enter Tryz.func14 rfl Tryz.ntmps14 rfl fun Q hQ hQe=>?_
  (repeat'(first|refine Ctl ?_|((with_reducible refine Kof.use hK ?_);clear hK hE K E)|((with_reducible refine W_cond (fun h=>?_) (fun h=>?_))<;>(try(exfalso;assumption)))|(((with_reducible refine G_region fun K E hK hE=>?_))<;>(try simp(disch:=omega) only[go_sem,seval,hl1,hl2,hln, *]))))
  all_goals(refine W_ret res14 hQ ?_)
  all_goals(refine⟨_,_,Wk.of_eq ?_,?_,rfl,rfl⟩)
  all_goals first|rfl|(exact z_fg)
theorem num_ex:∀(L:List (List Nat×Nat)),(L.map (·.1)).flatten.Nodup→(∀p,p∈L→p.2<2 ^ p.1.length)→∃x:Nat→Bool,∀p,p∈L→numA p.1 x=p.2
 |[],_,_=>⟨fun _=>false,fun p h=>by simp at h⟩
 |q::L,hn,hl=>by
  rw[List.map_cons,List.flatten_cons,List.nodup_append]at hn
  obtain⟨h1,h2,h3⟩:=hn
  obtain⟨x,hx⟩:=num_ex L h2 fun p hp=>hl p (List.mem_cons_of_mem _ hp)
  refine⟨asgV q.1 q.2 x,fun p hp=>?_⟩
  rcases List.mem_cons.1 hp with rfl|hp
  ·rw[numA_asg h1,Nat.mod_eq_of_lt (hl p (List.mem_cons_self ..))]
  ·rw[← hx p hp]
   refine numA_congr fun v hv=>asgV_out fun hq=>?_
   exact h3 v hq v (List.mem_flatten.2 ⟨p.1,List.mem_map.2 ⟨p,hp,rfl⟩,hv⟩) rfl
theorem tup_mem {n:Nat}{ds:List (List UInt8×Nat)}{at_:List (List Nat)}(hD:DOk n ds at_){ks:List Nat}(hks:∀k,k∈ks→k<ds.length)(hnd:ks.Nodup){g:(Nat→Bool)→Bool}(hg:DepF (varsOf at_ ks) g){r:List Int} :
  r∈tupR (treeT n g) at_ ks↔∃x,g x=true∧r=ks.map fun k=>((numA (at_.getD k []) x:Nat):Int):=by
 have hlt:=varsOf_lt hD hks
 have hI:InV ((ks.map fun k=>at_.getD k []).flatten) (treeT n g):=treeT_inV (S:=varsOf at_ ks) hlt hg
 have hN:((ks.map fun k=>at_.getD k []).flatten).Nodup:=varsOf_nd hD hnd hks
 have hh:Hang n g:=hg.hang hlt
 constructor
 ·intro h
  simp only[tupR,List.mem_map]at h
  obtain⟨m,hm,rfl⟩:=h
  have h2:=(sat_rows (n:=n) (t:=treeT n g) treeT_ok hI hN (r:=splitW (wdsOf at_ ks) m)).1 (by rw[wdsOf_eq];exact List.mem_map.2 ⟨m,hm,rfl⟩)
  obtain⟨x,hx,e⟩:=h2
  rw[treeT_ev hh]at hx
  refine⟨x,hx,?_⟩
  rw[rowU,e,List.map_map,List.map_map]
  rfl
 ·rintro⟨x,hx,rfl⟩
  have h2:=(sat_rows (n:=n) (t:=treeT n g) treeT_ok hI hN (r:=(ks.map fun k=>at_.getD k []).map fun a=>numA a x)).2 ⟨x,by rw[treeT_ev hh];exact hx,rfl⟩
  obtain⟨m,hm,e⟩:=List.mem_map.1 h2
  refine List.mem_map.2 ⟨m,hm,?_⟩
  rw[rowU,wdsOf_eq,e,List.map_map,List.map_map]
  rfl
theorem occ_tree {n:Nat}{S:List Nat}{g:(Nat→Bool)→Bool}(hs:∀v,v∈S→v<n)(hg:DepF S g):∀v,occT v (treeT n g)=true→v∈S:=fun v h=>occ_inV (treeT_inV hs hg) h
theorem SCalls.wk {P:Program}{f:FuncId}{xs ys:List VV}{s:St}{Q:SEnd→St→Prop}(h:SCalls P f ys s Q)(hl:xs.length=ys.length)(hw:∀(j:Nat) (x y:VV),xs[j]?=some x→ys[j]?=some y→Wk x y):SCalls P f xs s Q:=by
 intro w0 G w vs hS hR
 refine h w0 G w vs hS ⟨hR.1.trans hl,fun j v y hv hy=>?_⟩
 have hj:j<xs.length:=by rw[hl];exact(List.getElem?_eq_some_iff.1 hy).1
 exact hw j _ y (List.getElem?_eq_getElem hj) hy G v (hR.2 j v _ hv (List.getElem?_eq_getElem hj))
theorem Wk.rowsG {l l':List (List VV)}{o:Own}(hl:l'.length=l.length)
  (hw:∀(i:Nat) (x':List VV),l'[i]?=some x'→∃x,l[i]?=some x∧x'.length=x.length∧∀(j:Nat) (y':VV),x'[j]?=some y'→∃y,x[j]?=some y∧Wk y y'∧(y.one=true→y'.one=true)):Wk (.lst l o) (.lst l' .no):=fun G v h=>by
 generalize hq:VV.lst l o=q at h
 cases h with
 |emp a cap o2 ho=>
  injection hq with hq1 hq2;subst hq1;subst hq2
  obtain rfl:l'=[]:=List.eq_nil_of_length_eq_zero hl
  exact .emp _ _ _ (.inl rfl)
 |lst b' off len cap sz' xs' o f hl2 hc' hz h1' hK hR' ho'=>
  injection hq with hq1 hq2;subst hq1;subst hq2
  refine .lst b' off len cap sz' l' _ f (hl.trans hl2) hc' (fun x hx=>?_) (fun x hx y hy=>?_) hK (fun i j x y hx hy=>?_) (.inl rfl)
  ·obtain⟨i,hi⟩:=List.getElem?_of_mem hx
   obtain⟨x0,h0,h2,_⟩:=hw i x hi
   rw[← hz x0 (List.mem_of_getElem? h0),h2]
  ·obtain⟨i,hi⟩:=List.getElem?_of_mem hx
   obtain⟨j,hj⟩:=List.getElem?_of_mem hy
   obtain⟨x0,h0,_,h2⟩:=hw i x hi
   obtain⟨y0,h3,_,h5⟩:=h2 j y hj
   exact h5 (h1' x0 (List.mem_of_getElem? h0) y0 (List.mem_of_getElem? h3))
  ·obtain⟨x0,h0,_,h2⟩:=hw i x hx
   obtain⟨y0,h3,h4,_⟩:=h2 j y hy
   exact h4 G _ (hR' i j x0 y0 h0 h3)
 |_=>cases hq
def rwsF (rows:List (List Int))(o:Own):List (List VV):=rows.map fun r=>[.lst (intsL r) o]
theorem rwsF_wk (rows:List (List Int))(o o2:Own):Wk (.lst (rwsF rows o) o2) (.lst (rwsC rows) .no):=by
 refine Wk.rowsG (by simp[rwsF,rwsC]) fun i x' hx=>?_
 simp only[rwsC,List.getElem?_map]at hx
 obtain⟨r,hr,rfl⟩:=Option.map_eq_some_iff.1 hx
 refine⟨[.lst (intsL r) o],by simp[rwsF,hr],rfl,fun j y' hy=>?_⟩
 cases j with
 |zero=>
  simp at hy
  subst hy
  exact⟨_,rfl,Wk.lst _ _,fun _=>rfl⟩
 |succ j=>simp at hy
theorem SameRowsF_S (a b:List (List Int))(o1 o2 o3:Own)(ha:RowsOk a)(hb:RowsOk b)(t:St):SRet Tryz.prog 14 [.lst (rwsC a) o1,.lst (rwsF b o2) o3] t (.bool (decide (a=b))) t:=by
 refine SCalls.wk (SameRows_S a b o1 .no ha hb t) rfl fun j x y hx hy=>?_
 match j with
 |0=>simp at hx hy;subst hx;subst hy;exact Wk.refl _
 |1=>simp at hx hy;subst hx;subst hy;exact rwsF_wk _ _ _
 |j+2=>simp at hx
theorem disown_fl {s:St}:s.disown .full=s:=rfl
theorem owned_fl {s:St}{T sz n:Nat}:Owned s .full T sz n=(n=0):=rfl
theorem own_fl {s:St}{T sz n:Nat}:s.own .full T sz n=s:=rfl
attribute [local go_sem] disown_fl owned_fl own_fl
end Go.Proofs.YtndlnadbnganeaaGreatDoor
namespace Go.Proofs.YtndlnadbnganeaaGreatDoor
open Go.RowKit
def samF (va vb:List Nat)(sz:Nat)(x:Nat→Bool):Bool:=decide (numA va x<sz) && decide (numA va x=numA vb x)
theorem samF_dep (va vb:List Nat)(sz:Nat):DepF (va++vb) (samF va vb sz):=fun x y e=>by
 simp only[samF,numA_congr fun v hv=>e v (List.mem_append_left _ hv),numA_congr fun v hv=>e v (List.mem_append_right va hv)]
theorem varsOf_two (at_:List (List Nat))(a b:Nat):varsOf at_ [a,b]=at_.getD a []++at_.getD b []:=by simp[varsOf]
theorem eq_rows {n a a2 sz:Nat}{ds:List (List UInt8×Nat)}{at_:List (List Nat)}(hD:DOk n ds at_)(ha:a<ds.length)(hb:a2<ds.length)(hne:a≠a2)(s1:sz≤2 ^ (at_.getD a []).length)(s2:sz≤2 ^ (at_.getD a2 []).length) :
  sortR (tupR (treeT n (samF (at_.getD a []) (at_.getD a2 []) sz)) at_ [a,a2])=(List.range sz).map fun(v:Nat)=>[(v:Int),(v:Int)]:=by
 symm
 have hks:∀k,k∈[a,a2]→k<ds.length:=fun k hk=>by simp at hk;rcases hk with rfl|rfl<;>assumption
 have hnd:[a,a2].Nodup:=by simp[hne]
 have hg:DepF (varsOf at_ [a,a2]) (samF (at_.getD a []) (at_.getD a2 []) sz):=by rw[varsOf_two];exact samF_dep _ _ _
 refine sortR_uniq ?_ fun r=>?_
 ·unfold Rising
  rw[List.pairwise_map]
  refine List.Pairwise.imp (fun {x y} h=>?_) List.pairwise_lt_range
  simp only[cmpZ]
  rw[if_pos (by omega)]
  decide
 ·rw[tup_mem hD hks hnd hg]
  simp only[List.mem_map,List.mem_range,List.map_cons,List.map_nil]
  constructor
  ·rintro⟨v,hv,rfl⟩
   have hN:=varsOf_nd hD hnd hks
   obtain⟨x,hx⟩:=num_ex [(at_.getD a [],v),(at_.getD a2 [],v)] (by simpa [varsOf]using hN) (fun p hp=>by
    simp at hp
    rcases hp with rfl|rfl
    ·exact Nat.lt_of_lt_of_le hv s1
    ·exact Nat.lt_of_lt_of_le hv s2)
   have e1:=hx _ (List.mem_cons_self ..)
   have e2:=hx _ (List.mem_cons_of_mem _ (List.mem_cons_self ..))
   dsimp only at e1 e2
   refine⟨x,?_,by rw[e1,e2]⟩
   simp only[samF,e1,e2,Bool.and_eq_true,decide_eq_true_eq]
   exact⟨hv,trivial⟩
  ·rintro⟨x,hx,rfl⟩
   simp only[samF,Bool.and_eq_true,decide_eq_true_eq]at hx
   exact⟨_,hx.1,by rw[← hx.2]⟩
set_option maxHeartbeats 8000000 in
theorem Cawake_S (s:St):SRet Tryz.prog 12 [] s (.bool true) s:=by
 obtain⟨x,y,hx,hy,ex,ey,w3⟩:=Cthree_S s 3 3 1
 have e3:vint .and .i64 3 15=some (.int .i64 3):=by rfl
 have hx3:x=3:=by rw[e3]at ex;injection ex with ex;injection ex with _ ex;omega
 have hy3:y=3:=by rw[e3]at ey;injection ey with ey;injection ey with _ ey;omega
 subst hx3 hy3
 clear hx hy ex ey e3
 refine G_enter Tryz.func12 rfl Tryz.ntmps12 rfl fun Q hQ hQe=>?_
 (repeat'(first|refine Ctl ?_|((with_reducible refine Kof.use hK ?_);clear hK hE K E)|(((with_reducible refine G_region fun K E hK hE=>?_))<;>(try simp(disch:=omega) only[go_sem,seval, *]))))
 refine call_ex can10 w3 (fun z h=>?_)
 obtain⟨u1,KK,q,c⟩:=z
 obtain⟨o,hD,hL,hC,hF⟩:=h
 dsimp only at hC hF ⊢
 have hol:o.length=3:=by have:=congrArg List.length hL;simpa using this
 have hla:∀k,k<3→(o.getD k []).length=2:=fun k hk=>by
  have h1:(o.map (·.length))[k]?=some (o.getD k []).length:=by
   rw[List.getElem?_map,List.getD_eq_getElem?_getD,List.getElem?_eq_getElem (by omega)];rfl
  rw[hL]at h1
  have hw:widthN (1+3)=2:=by rfl
  rw[hw]at h1
  match k,hk with
  |0,_=>simp at h1;exact h1.symm
  |1,_=>simp at h1;exact h1.symm
  |2,_=>simp at h1;exact h1.symm
 have hat:∀k,k<3→o[k]?=some (o.getD k []):=fun k hk=>by rw[List.getD_eq_getElem?_getD,List.getElem?_eq_getElem (by omega)];rfl
 have hcn:CntN [.lf false,.lf true] 2:=⟨_,Nat.le_refl _,fun t h=>h⟩
 have we:=Ceq_S (a:=0) (a2:=1) (N:=2) hC hD rfl rfl (hat 0 (by omega)) (hat 1 (by omega)) (by rw[hla 0 (by omega),hla 1 (by omega)]) (by decide) hcn (by rw[hla 0 (by omega)];decide)
 have hrow:=eq_rows (n:=12) (sz:=4) hD (a:=0) (a2:=1) (by simp[dsT]) (by simp[dsT]) (by decide) (by rw[hla 0 (by omega)];decide) (by rw[hla 1 (by omega)];decide)
 have hks:∀k,k∈[0,1]→k<(dsT 3 3).length:=fun k hk=>by simp at hk;rcases hk with rfl|rfl<;>simp[dsT]
 have hv4:(varsOf o [0,1]).length=4:=by rw[varsOf_two,List.length_append,hla 0 (by omega),hla 1 (by omega)]
 have hg:DepF (varsOf o [0,1]) (samF (o.getD 0 []) (o.getD 1 []) 4):=by rw[varsOf_two];exact samF_dep _ _ _
 have hoc:=occ_tree (n:=12) (varsOf_lt hD hks) hg
 have hlen:(tupR (treeT 12 (samF (o.getD 0 []) (o.getD 1 []) 4)) o [0,1]).length≤9:=by
  have e1:=((List.perm_ext_iff_of_nodup (sortR_rising (tupR (treeT 12 (samF (o.getD 0 []) (o.getD 1 []) 4)) o [0,1])).nodup (tupR_nodup _ _ _)).2 fun r=>sortR_mem).length_eq
  rw[← e1,hrow]
  simp
 have wt:=fun(u:St) (KK':OB) (ns:List Tr) (h1:CMem u KK' q c 12 16384 ns (dsT 3 3) o) (h2:treeT 12 (samF (o.getD 0 []) (o.getD 1 []) 4)∈ns)=>Ctuples_S h1 hD (by omega) [0,1] .full hks (by simp) (by decide) h2 hoc (by omega) (most:=9) (by omega) hlen
 rw[hrow]at wt
 have hkeep:=fun(u:St) (K':OB) (ns:List Tr) (h1:OMem u K' 12 16384 ns) (h2:OKeep u1 u KK K')=>hC.keep h1 h2
 have WT:=Lib.hid wt
 have HKEEP:=Lib.hid hkeep
 have HF:=Lib.hid hF
 have hsame:=fun(u:St)=>SameRowsF_S ((List.range 4).map fun(v:Nat)=>[(v:Int),(v:Int)]) [[0,0],[1,1],[2,2],[3,3]] .no .full .full ⟨by simp,fun r hr=>by simp at hr;obtain⟨v,_,rfl⟩:=hr;simp⟩ ⟨by simp,fun r hr=>by simp at hr;rcases hr with rfl|rfl|rfl|rfl<;>simp⟩ u
 have hd:decide ((List.range 4).map (fun(v:Nat)=>[(v:Int),(v:Int)])=[[0,0],[1,1],[2,2],[3,3]])=true:=by decide
 rw[hd]at hsame
 have HS:=Lib.hid hsame
 unfold OpFC at we
 clear hrow hks hv4 hg hoc hlen wt hkeep hF hsame hd hC hD hL hol hla hat hcn w3
 simp only[go_sem,seval]
 (repeat'(first|refine Ctl ?_|((with_reducible refine Kof.use hK ?_);clear hK hE K E)|((with_reducible refine W_cond (fun h=>?_) (fun h=>?_))<;>(try(exfalso;assumption)))|(((with_reducible refine G_region fun K E hK hE=>?_))<;>(try simp(disch:=omega) only[go_sem,seval, *]))))
 refine call_ex can15 we (fun a h=>?_)
 obtain⟨u2,K2,ns2⟩:=a
 have hm:=h.m
 have hk:=h.k
 have hmem:=h.mem
 dsimp only at hm hk hmem
 have wt:SRet Tryz.prog 13 [.ptr c 0,.int .i64 ((ixF 12 ns2 fun x=>decide (numA (o.getD 0 []) x<4) && decide (numA (o.getD 0 []) x=numA (o.getD 1 []) x):Nat):Int),.lst [[.int .i64 0],[.int .i64 1]] .full,.int .i64 9] u2 _ u2:=WT.out u2 K2 ns2 (HKEEP.out u2 K2 ns2 hm hk) hmem
 have hs:=HS.out u2
 have hfg:Fg u2 s:=fun z=>by
  by_cases hz:s z=.free
  ·exact .inl hz
  ·obtain⟨e1,e2⟩:=HF.out z hz
   exact .inr (by rw[← e1];exact(hk.out z (by rw[e1];exact hz) e2).symm)
 have HFG:=Lib.hid hfg
 simp only[rwsF,intsL,List.map_cons,List.map_nil]at hs
 clear h hm hk hmem hfg we
 dsimp only
 generalize (ixF 12 ns2 fun x=>decide (numA (o.getD 0 []) x<4) && decide (numA (o.getD 0 []) x=numA (o.getD 1 []) x))=kz at *
 generalize rwsC ((List.range 4).map fun(v:Nat)=>[(v:Int),(v:Int)])=RC at *
 simp only[go_sem,seval]
 (repeat'(first|refine Ctl ?_|((with_reducible refine Kof.use hK ?_);clear hK hE K E)|(((with_reducible first|refine G_region fun K E hK hE=>?_|refine call_ret can13 (wt) ?_|refine call_ret can14 (hs) ?_))<;>(try simp(disch:=omega) only[go_sem,seval, *]))))
 all_goals(refine W_ret res12 hQ ?_)
 exact⟨_,_,Wk.refl _,HFG.out,rfl,rfl⟩
end Go.Proofs.YtndlnadbnganeaaGreatDoor
