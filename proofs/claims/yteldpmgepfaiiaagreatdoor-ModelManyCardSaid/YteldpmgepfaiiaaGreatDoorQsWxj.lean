/- Walks of functions, and plain facts. Conditions: those in the statements. -/
import Derived.Test.YteldpmgepfaiiaaGreatDoorQsZcj
set_option linter.unusedSimpArgs false
set_option linter.unusedVariables false
set_option maxRecDepth 100000
namespace Go.Proofs.YteldpmgepfaiiaaGreatDoor
open Go.RowKit
attribute [local go_sem] aH aV cH
def cP (g:List Tbl):Rlt:=fun n row=>row∈aW g n
def pe (x:Pgm)(T0:Rlt):Prop:=∃s n l,s<=x.decls.length/\List.Nodup l/\16384<l.length/\∀r,r∈l->Mdl x.rules (stN x) T0 s n r
structure EvalOk (x:Pgm) (T0:Rlt) (L:List Tbl):Prop where
 nm:L.map (·.nm)=x.decls.map (·.name)
 row:∀t,t∈L->Rising t.rs/\t.rs.length<=16384/\∀r,r∈t.rs↔Mdl x.rules (stN x) T0 x.decls.length t.nm r
def bQ (x:Pgm)(g:List Tbl)(L:List Tbl)(e:Int):Prop:=
 if (soundP x).2.1≠0 then L=[]/\e=(soundP x).2.1
 else if cQ x [] g=false then L=[]/\e=1
 else(e=0/\EvalOk x (cP g) L)\/(e=2/\L=[]/\pe x (cP g))
theorem ir {t u:St}(h:∀z,t z≠.free->u z=t z):Fg u t:=fun z=>by
 by_cases hz:t z=.free
 ·exact .inl hz
 ·exact .inr (h z hz).symm
theorem dD {x:Pgm}:∀{l:List Tbl} {seen:List (List UInt8)},cQ x seen l=true->∀t,t∈l->∃k d,cO x.decls t.nm=some k/\x.decls[k]?=some d/\t.nm∉seen/\dC x.doms d.doms none t.rs=true
 |[],seen,_,t,ht=>by cases ht
 |a::l,seen,h,t,ht=>by
  simp only[cQ]at h
  cases hk:cO x.decls a.nm with
  |none=>rw[hk]at h;cases h
  |some k=>
   rw[hk]at h
   simp only at h
   cases hd:x.decls[k]? with
   |none=>rw[hd]at h;cases h
   |some d=>
    rw[hd]at h
    simp only[Bool.and_eq_true,Bool.not_eq_true',decide_eq_false_iff_not]at h
    rcases F_.1 ht with rfl|ht
    ·exact⟨k,d,hk,hd,h.1.1,h.1.2⟩
    ·obtain⟨k',d',g1,g2,g3,g4⟩:=dD h.2 t ht
     exact⟨k',d',g1,g2,fun e=>g3 (by simp[e]),g4⟩
theorem fQ {l:List Tbl}{n:List UInt8}{r:List Int}(h:r∈aW l n):∃t,t∈l/\t.nm=n/\r∈t.rs:=by
 unfold aW at h
 cases hf:l.find? (fun t=>decide (t.nm=n))with
 |none=>rw[hf]at h;cases h
 |some t=>
  rw[hf]at h
  exact⟨t,List.mem_of_find?_eq_some hf,by simpa using List.find?_some hf,h⟩
theorem D8 {x:Pgm}{g:List Tbl}{X:List Tab}(hg:cQ x [] g=true)(hX:X.map (·.l)=x.decls.map (fun d=>aW g d.name))(n:List UInt8)(row:List Int):TT x X n row↔cP g n row:=by
 unfold TT bV cP
 cases hk:cO x.decls n with
 |none=>
  simp only[List.not_mem_nil,false_iff]
  intro h
  obtain⟨t,ht,rfl,_⟩:=fQ h
  obtain⟨k,d,h1,_⟩:=dD hg t ht
  rw[hk]at h1
  cases h1
 |some k=>
  have h1:=cI (show ixT n (x.decls.map (·.name))=some k from hk)
  rw[c_]at h1
  obtain⟨d,hd,rfl⟩:=Option.map_eq_some_iff.1 h1
  have h2:(X.map (·.l))[k]?=some (aW g d.name):=by rw[hX,c_,hd];rfl
  rw[c_]at h2
  simp only[h2,Option.getD_some]
theorem D9 {x:Pgm}{g:List Tbl}{X:List Tab}(hd:∀d,d∈x.doms->d.size<=256)(hdd:∀d,d∈x.decls->d.doms.length<=100000)(hg:cQ x [] g=true)(hdn:(x.decls.map (·.name)).Nodup)(hX:X.map (·.l)=x.decls.map (fun d=>aW g d.name))(hle:∀y,y∈X->y.l.length<=16384):TbOk x X:=by
 have key:∀(k:Nat) (y:Tab) (d:Dcl),X[k]?=some y->x.decls[k]?=some d->y.l=aW g d.name:=fun k y d hy hd=>by
  have h1:(X.map (·.l))[k]?=some y.l:=by rw[c_,hy];rfl
  rw[hX,c_,hd]at h1
  injection h1 with h1
  exact h1.symm
 have key2:∀(k:Nat) (d:Dcl),x.decls[k]?=some d->dC x.doms d.doms none (aW g d.name)=true:=fun k d hk=>by
  unfold aW
  cases hf:g.find? (fun t=>decide (t.nm=d.name))with
  |none=>rfl
  |some t=>
   obtain⟨k',d',h1,h2,_,h4⟩:=dD hg t (List.mem_of_find?_eq_some hf)
   have hn:t.nm=d.name:=by simpa using List.find?_some hf
   have h5:=gz hdn (show (x.decls.map (·.name))[k]?=some d.name by rw[c_,hk];rfl)
   rw[hn]at h1
   have h6:k'=k:=by have:=h1.symm.trans h5;injection this
   subst h6
   rw[hk]at h2
   injection h2 with h2
   subst h2
   exact h4
 have hlen:X.length=x.decls.length:=by have:=congrArg List.length hX;simpa using this
 refine⟨hlen,fun k y d hy hd2 r hr=>?_,fun y hy=>?_,hle⟩
 ·rw[key k y d hy hd2]at hr
  obtain⟨h1,h2⟩:=jz (key2 k d hd2) r hr
  exact⟨h1,kD hd h2 h1 (hdd d (p_ hd2))⟩
 ·obtain⟨k,hk⟩:=h_.1 hy
  obtain⟨d,hd2⟩:=aN (l:=x.decls) (i:=k) (by rw[<- hlen];exact(n_.1 hk).1)
  rw[key k y d hk hd2]
  exact(iq (key2 k d hd2)).1.nodup
theorem wP {x:Pgm}(h:cp x=0):(x.doms.map (·.name)).Nodup/\(x.decls.map (·.name)).Nodup:=by
 unfold cp at h
 split at h
 ·cases h
 ·split at h
  ·cases h
  ·split at h
   ·cases h
   ·rename_i hn
    exact⟨Classical.byContradiction fun e=>hn (.inl e),Classical.byContradiction fun e=>hn (.inr e)⟩
def jI (X:List Tab):Nat:=(X.map fun y=>y.l.length).sum
theorem wv {X:List Tab}(h:∀y,y∈X->y.l.length<=16384):jI X<=X.length*16384:=by
 unfold jI
 induction X with
 |nil=>simp
 |cons a X ih=>
  simp only[List.map_cons,List.sum_cons,List.length_cons]
  have h1:=h a (by simp)
  have h2:=ih fun y hy=>h y (by simp[hy])
  omega
theorem si:∀{X:List Tab} {k:Nat} {y z:Tab},X[k]?=some y->jI (X.set k z)+y.l.length=jI X+z.l.length
 |[],k,y,z,h=>by simp at h
 |a::X,0,y,z,h=>by
  simp only[List.getElem?_cons_zero,Option.some.injEq]at h
  subst h
  simp only[jI,List.set_cons_zero,List.map_cons,List.sum_cons]
  omega
 |a::X,k+1,y,z,h=>by
  have ih:=si (X:=X) (k:=k) (z:=z) (by simpa using h)
  simp only[jI,List.set_cons_succ,List.map_cons,List.sum_cons]at ih ⊢
  omega
theorem uH {x:Pgm}{X Y:List Tab}(h:X.map (·.l)=Y.map (·.l))(n:List UInt8)(row:List Int):TT x X n row↔TT x Y n row:=by
 unfold TT bV
 cases cO x.decls n with
 |none=>exact Iff.rfl
 |some k=>
  have h1:(X[k]?).map (·.l)=(Y[k]?).map (·.l):=by rw[<- c_,<- c_,h]
  simp only[h1]
theorem zW {x:Pgm}{k n:Nat}(h:k<n):(varsL x n)[k]?=some (varsP x (k:Int)).1.vs:=by
 unfold varsL
 rw[c_,List.getElem?_range h]
 rfl
theorem yw {x:Pgm}{n:Nat}:(varsL x n).length=n:=by simp[varsL]
def mE (x:Pgm)(X:List Tab)(i:Nat):List Tbl:=(List.zipWith (fun(d:Dcl) (y:Tab)=>(⟨d.name,dH y.l⟩:Tbl)) x.decls X).take i
theorem pC {l:List (List Int)}(h:l.Nodup):(dH l).length=l.length:=
 (List.perm_ext_iff_of_nodup (gZ l).nodup h).2 (fun r=>sortR_mem)|>.length_eq
theorem nV {s u:St}{o:Own}{n:Nat}(h:OwnOk s o n)(hk:∀z,s z=.free->ay o z\/u z=.free):OwnOk u o n:=by
 cases o with
 |at_ x=>
  simp only[OwnOk,ay]at h hk ⊢
  rcases hk x h with e|e
  ·exact absurd rfl e
  ·exact e
 |_=>exact h
theorem pr:Wk (.raw (.slice none 0 0)) (.lst [] .no):=fun G v h=>by
 cases h with
 |raw=>exact .emp none 0 .no (.inl rfl)
theorem yN {l:List (List Int)}:(l.map ca).map (fun y=>[y])=aF l:=by unfold aF;rw[List.map_map];rfl
def Ev (p:Prop):Prop:=p
theorem CW {P:Program}{N:Nat}{D:List Deferred}{k:List Itm}{Q:Pst}{env:Env}{s:St}(r:Nat){os:Array Oper}{fl:Bool}(h:Ev (Kp P N D (.code (.region r os fl)::k) Q .norm env s)):Kp P N D (.code (.region r os fl)::k) Q .norm env s:=h
set_option maxHeartbeats 16000000 in
theorem rW (x:Pgm)(g:List Tbl)(oL:Own)(hx:PgmOk x)(hds:∀d,d∈x.doms->d.size<=256)(hll:g.length<=100000)(hrs:∀t,t∈g->t.rs.length<=100000/\∀r,r∈t.rs->r.length<=100000)(t:St) :
  SCalls Tryz.prog 14 [.agg (pgC x),.lst (g.map aX) oL] t fun w u=>∃q:List Tbl×Int,w=.ret (.tup [.lst (q.1.map aX) .no,.int .i64 q.2])/\u=t/\bQ x g q.1 q.2:=by
 have w1:=fun s=>JD x hx s
 by_cases hs:(soundP x).2.1=0
 ·obtain⟨st,hsp,hr0,hb0,hst⟩:=eq hs
  obtain⟨hdl,hrl,hbd⟩:=ij (dL hr0)
  have hnd:=wP hr0
  have w2:=fun s=>SCalls.mono (EL x hx ⟨by omega,by omega⟩ hnd.1 hnd.2 s) (fun w u h=>by
   obtain⟨p,bm,bz,X,h1,h2⟩:=h
   exact(⟨(p,u),h1,rfl,bm,bz,X,h2⟩:∃a:Nat×St,w=.ret (.ptr a.1 0)/\u=a.2/\∃bm bz X,MdAt a.2 a.1 bm bz x (varsL x x.rules.length) X/\X.map (·.l)=List.replicate x.decls.length []/\Fg a.2 s/\∀z,(z=a.1\/z=bm\/z=bz\/TbF X z)->s z=.free))
  rw[hsp]at w1
  have hcl:(x.decls.map az).length=x.decls.length:=by simp
  have hrl1:(x.rules.map ax).length=x.rules.length:=by simp
  have HX:=u_ hx
  simp only[pgC]at w1 w2 ⊢
  refine aw Tryz.func14 rfl Tryz.ntmps14 rfl fun Q hQ hQe=>?_
  (repeat'(first|refine Ctl ?_|((with_reducible refine j_ hK ?_);clear hK hE K E)|((with_reducible refine aj (fun h=>?_) (fun h=>?_))<;>(try(exfalso;assumption)))|((first|(with_reducible first|refine ae fun K E hK hE=>?_|refine ak Fs (w1 _) ?_)|((with_reducible refine aO MJ (w2 _) (fun a h=>?_)))|((with_reducible refine ao (fun b hb=>?_))))<;>(try simp(disch:=omega) only[go_sem,seval, *]))))
  obtain⟨bp,hbp⟩:∃z,z=b:=⟨_,rfl⟩
  subst hbp
  obtain⟨p,S1⟩:=a
  obtain⟨bm,bz,X0,g1,g2,g3,g4⟩:=h
  simp only at g1 g3 g4 ⊢
  have hK1:∀z,t z≠.free->S1 z=t z:=fun z hz=>by
   rcases g3 z with e|e
   ·rw[k_ _ _ (aT hz hb)]at e;exact absurd e hz
   ·rw[<- e,k_ _ _ (aT hz hb)]
  have hB1:S1 bp=.obj 26 [.lst (x.doms.map dmC) .no,.lst (x.decls.map az) .no,.lst (x.rules.map ax) .no]:=by
   rcases g3 bp with e|e
   ·rw[q_]at e;cases e
   ·rw[<- e,q_]
  have hMf:∀z,MdF p bm bz X0 z->t z=.free/\z≠bp:=fun z hz=>by
   have:=g4 z hz
   have hne:z≠bp:=fun e=>by rw[e,q_]at this;cases this
   rw[k_ _ _ hne]at this
   exact⟨this,hne⟩
  have hdd:∀d,d∈x.decls->d.doms.length<=100000:=fun d hd=>by
   have hp:=dL hr0
   unfold cm at hp
   simp only[Bool.and_eq_true,List.all_eq_true]at hp
   have:=hp.1.2 d hd
   unfold eS at this
   simp only[Bool.and_eq_true,decide_eq_true_eq]at this
   omega
  have wf:=EM x p bm bz (varsL x x.rules.length) X0 g oL hds hdd (by omega) hll hrs hnd.2 g2 S1 g1
  refine aO MI wf (fun S2 h=>?_)
  obtain⟨h1,h2⟩:=h
  have hK2:∀z,t z≠.free->S2 z=t z:=fun z hz=>by
   rw[h1 z (by rw[hK1 z hz];exact hz) (fun e=>hz (hMf z e).1)];exact hK1 z hz
  have hB2:S2 bp=.obj 26 [.lst (x.doms.map dmC) .no,.lst (x.decls.map az) .no,.lst (x.rules.map ax) .no]:=by
   rw[h1 bp (by rw[hB1];simp) (fun e=>(hMf bp e).2 rfl)];exact hB1
  have HK2:=u_ hK2
  have HS1:Hid (∀z,S1 z=.free->t z=.free/\z≠bp):=u_ fun z hz=>⟨by
   by_cases e:t z=.free
   ·exact e
   ·rw[hK1 z e]at hz;exact absurd hz e,fun e=>by rw[e,hB1]at hz;cases hz⟩
  cases hT:cQ x [] g with
  |false=>
   have HP:Hid (bQ x g [] 1):=u_ (by unfold bQ;rw[if_neg (by simp[hs]),if_pos hT];exact⟨rfl,rfl⟩)
   clear h1 h2 wf hK1 hB1 hMf g1 g2 g3 g4 w1 w2 hK2 hb
   simp only[go_sem,seval]
   (repeat'(first|refine Ctl ?_|((with_reducible refine j_ hK ?_);clear hK hE K E)|((with_reducible refine aj (fun h=>?_) (fun h=>?_))<;>(try(exfalso;assumption)))|(((with_reducible refine ae fun K E hK hE=>?_))<;>(try simp(disch:=omega) only[go_sem,seval, *]))))
   all_goals(refine ap pS hQ ?_)
   all_goals exact⟨_,t,Wk.tup2,ir HK2.out,([],1),rfl,rfl,HP.out⟩
  |true=>
   obtain⟨X1,m1,m2,m3⟩:=h2 hT
   have HM:=u_ m1
   have HXE:=u_ m2
   have HMF:Hid (∀z,MdF p bm bz X1 z->t z=.free/\z≠bp):=u_ fun z hz=>(m3 z hz).elim (hMf z) (HS1.out z)
   have HDD:=u_ hdd
   have HTT:=u_ hT
   have hX1:X1.length=x.decls.length:=by have:=congrArg List.length m2;simpa using this
   have hXl:(X1.map fun y=>[VV.ptr y.b 0]).length=x.decls.length:=by rw[a_];exact hX1
   have q1:=m1.o
   clear h1 h2 wf hK1 hB1 hMf g1 g2 g3 g4 w1 w2 hK2 hb HS1 hdd m1 m2 m3
   clear hT
   simp only[go_sem,seval]
   (repeat'(first|refine Ctl ?_|((with_reducible refine j_ hK ?_);clear hK hE K E)|((with_reducible refine aj (fun h=>?_) (fun h=>?_))<;>(try(exfalso;assumption)))|(((with_reducible refine ae fun K E hK hE=>?_))<;>(try simp(disch:=omega) only[go_sem,seval, *]))))
   refine bB (fun m env s'=>∃i:Nat,i<=x.decls.length/\m+i=x.decls.length/\S2=s'/\Hid (∀j y,j<i->X1[j]?=some y->y.l.length<=16384)/\env 2=.ptr bp 0/\env 6=.lst (aB (st.map fun n:Nat=>(n:Int))) .no/\env 8=.ptr p 0/\env 36=.lst (X1.map fun y=>[VV.ptr y.b 0]) .no/\env 37=.int .i64 x.decls.length/\env 38=.int .i64 i) x.decls.length ?_ ?_
   ·exact⟨0,by omega,by omega,rfl,u_ (fun j y hj=>absurd hj (Nat.not_lt_zero _)),ab,ab,ab,ab,ab,ab⟩
   rintro m env s' ⟨i,hi,hm,rfl,HLE,e2,e6,e8,e36,e37,e38⟩
   by_cases hlt:i<x.decls.length
   ·obtain⟨y,hy⟩:∃y,X1[i]?=some y:=aN (by rw[hX1];exact hlt)
    have hsy:(X1.map fun y=>[VV.ptr y.b 0])[i]?=some [.ptr y.b 0]:=by rw[c_,hy];rfl
    have q3:=(HM.out.tb.at_ y (p_ hy)).o
    have HY:=u_ hy
    clear hy
    generalize X1.map (fun y=>[VV.ptr y.b 0])=XL at *
    by_cases hbig:16384<y.l.length
    ·have hb1:((16384:Int)<(y.l.length:Int))=True:=eq_true (by omega)
     have HP:Hid (bQ x g [] 2):=u_ (by
      unfold bQ
      rw[if_neg (by simp[hs]),if_neg (by simp[HTT.out])]
      refine .inr ⟨rfl,rfl,?_⟩
      obtain⟨d,hd⟩:=aN (l:=x.decls) (i:=i) hlt
      have hyl:y.l=aW g d.name:=by
       have h1:(X1.map (·.l))[i]?=some y.l:=by rw[c_,HY.out];rfl
       rw[HXE.out,c_,hd]at h1
       injection h1 with h1
       exact h1.symm
      have hnd2:y.l.Nodup:=by
       rw[hyl]
       unfold aW
       cases hf:g.find? (fun t=>decide (t.nm=d.name))with
       |none=>exact List.nodup_nil
       |some tt=>
        obtain⟨k',d',_,_,_,h4⟩:=dD HTT.out tt (List.mem_of_find?_eq_some hf)
        exact(iq h4).1.nodup
      exact⟨0,d.name,y.l,by omega,hnd2,hbig,fun r hr=>by rw[hyl]at hr;exact hr⟩)
     (repeat'(first|refine Ctl ?_|((with_reducible refine j_ hK ?_);clear hK hE K E)|((with_reducible refine aj (fun h=>?_) (fun h=>?_))<;>(try(exfalso;assumption)))|(((with_reducible refine ae fun K E hK hE=>?_))<;>(try simp(disch:=omega) only[go_sem,seval,dM, *]))))
     all_goals(refine ap pS hQ ?_)
     all_goals exact⟨_,t,Wk.tup2,ir HK2.out,([],2),rfl,rfl,HP.out⟩
    ·have hb1:((16384:Int)<(y.l.length:Int))=False:=eq_false (by omega)
     have HLE2:Hid (∀j y,j<i+1->X1[j]?=some y->y.l.length<=16384):=u_ fun j y' hj hy'=>by
      by_cases e:j=i
      ·subst e;rw[HY.out]at hy';injection hy' with hy';subst hy';omega
      ·exact HLE.out j y' (by omega) hy'
     (repeat'(first|refine Ctl ?_|((with_reducible refine j_ hK ?_);clear hK hE K E)|((with_reducible refine aj (fun h=>?_) (fun h=>?_))<;>(try(exfalso;assumption)))|(((with_reducible refine ae fun K E hK hE=>?_))<;>(try simp(disch:=omega) only[go_sem,seval,dM, *]))))
     all_goals exact⟨m - 1,by omega,i+1,by omega,by omega,rfl,HLE2,ab,ab,ab,ab,ab,ab⟩
   ·obtain rfl:i=x.decls.length:=by omega
    have HTB:Hid (TbOk x X1):=u_ (D9 hds HDD.out HTT.out hnd.2 HXE.out fun y hy=>by
     obtain⟨j,hj⟩:=h_.1 hy
     exact HLE.out j y (by rw[<- hX1];exact(n_.1 hj).1) hj)
    have HT0:Hid (∀n row,TT x X1 n row↔Mdl x.rules (stN x) (cP g) 0 n row):=u_ fun n row=>D8 HTT.out HXE.out n row
    clear HLE q1 hXl
    (repeat'(first|refine Ctl ?_|((with_reducible refine j_ hK ?_);clear hK hE K E)|((with_reducible refine aj (fun h=>?_) (fun h=>?_))<;>(try(exfalso;assumption)))|(((with_reducible refine ae fun K E hK hE=>?_))<;>(try simp(disch:=omega) only[go_sem,seval, *]))))
    refine bB (fun m env S=>∃(sg:Nat) (X:List Tab),sg<=x.decls.length/\m+sg=x.decls.length/\Hid (MdAt S p bm bz x (varsL x x.rules.length) X)/\Hid (TbOk x X)/\Hid (∀z,MdF p bm bz X z->t z=.free/\z≠bp)/\Hid (∀z,t z≠.free->S z=t z)/\S bp=.obj 26 [.lst (x.doms.map dmC) .no,.lst (x.decls.map az) .no,.lst (x.rules.map ax) .no]/\Hid (∀n row,TT x X n row↔Mdl x.rules (stN x) (cP g) sg n row)/\env 2=.ptr bp 0/\env 6=.lst (aB (st.map fun n:Nat=>(n:Int))) .no/\env 8=.ptr p 0/\env 51=.int .i64 x.decls.length/\env 52=.int .i64 sg) x.decls.length ?_ ?_
    ·exact⟨0,X1,by omega,by omega,HM,HTB,HMF,HK2,hB2,HT0,ab,ab,ab,ab,ab⟩
    clear e2 e6 e8 e36 e37 e38 HM HTB HMF HK2 hB2 HT0 HXE hX1 env hi hm hlt S2 m
    rintro m env S ⟨sg,X,hi,hm,HM,HTB,HMF,HK,hB,HT,e2,e6,e8,e51,e52⟩
    by_cases hlt:sg<x.decls.length
    ·(repeat'(first|refine Ctl ?_|((with_reducible refine j_ hK ?_);clear hK hE K E)|((with_reducible refine aj (fun h=>?_) (fun h=>?_))<;>(try(exfalso;assumption)))|(((with_reducible refine ae fun K E hK hE=>?_))<;>(try simp(disch:=omega) only[go_sem,seval, *]))))
     have hN:=HTB.out.len
     have hle0:=wv HTB.out.le
     rw[hN]at hle0
     refine bB (fun m2 env S=>∃(ag:Bool) (X:List Tab),m2+jI X=x.decls.length*16384+ag.toNat/\jI X<=x.decls.length*16384/\Hid (MdAt S p bm bz x (varsL x x.rules.length) X)/\Hid (TbOk x X)/\Hid (∀z,MdF p bm bz X z->t z=.free/\z≠bp)/\Hid (∀z,t z≠.free->S z=t z)/\S bp=.obj 26 [.lst (x.doms.map dmC) .no,.lst (x.decls.map az) .no,.lst (x.rules.map ax) .no]/\Hid (∀n row,Mdl x.rules (stN x) (cP g) sg n row->TT x X n row)/\Hid (∀n row,TT x X n row->Mdl x.rules (stN x) (cP g) (sg+1) n row)/\Hid (ag=false->pq x.rules (stN x) sg (TT x X))/\env 2=.ptr bp 0/\env 6=.lst (aB (st.map fun n:Nat=>(n:Int))) .no/\env 8=.ptr p 0/\env 51=.int .i64 x.decls.length/\env 52=.int .i64 sg/\env 11=.int .i64 sg/\env 12=.bool ag) (x.decls.length*16384+1 - jI X) ?_ ?_
     ·exact⟨true,X,by simp only[Bool.toNat_true];omega,by omega,HM,HTB,HMF,HK,hB,u_ (fun n row h=>(HT.out n row).2 h),u_ (fun n row h=>im ((HT.out n row).1 h)),u_ (fun h=>by cases h),ab,ab,ab,ab,ab,ab,ab⟩
     clear e2 e6 e8 e51 e52 HM HTB HMF HK hB HT env S X hN hle0
     rintro m2 env S ⟨ag,X,hm2,htot,HM,HTB,HMF,HK,hB,HLO,HUP,HCL,e2,e6,e8,e51,e52,e11,e12⟩
     cases ag with
     |false=>
      (repeat'(first|refine Ctl ?_|((with_reducible refine j_ hK ?_);clear hK hE K E)|((with_reducible refine aj (fun h=>?_) (fun h=>?_))<;>(try(exfalso;assumption)))|(((with_reducible refine ae fun K E hK hE=>?_))<;>(try simp(disch:=omega) only[go_sem,seval, *]))))
      exact⟨m - 1,by omega,sg+1,X,by omega,by omega,HM,HTB,HMF,HK,hB,u_ (xi HLO.out HUP.out (HCL.out rfl)),ab,ab,ab,ab,ab⟩
     |true=>
      (repeat'(first|refine Ctl ?_|((with_reducible refine j_ hK ?_);clear hK hE K E)|((with_reducible refine aj (fun h=>?_) (fun h=>?_))<;>(try(exfalso;assumption)))|(((with_reducible refine ae fun K E hK hE=>?_))<;>(try simp(disch:=omega) only[go_sem,seval, *]))))
      simp only[Bool.toNat_true]at hm2
      refine bB (fun m3 env S'=>∃(k:Nat) (ah:Bool) (Y:List Tab),k<=x.rules.length/\m3+k=x.rules.length/\Hid (MdAt S' p bm bz x (varsL x x.rules.length) Y)/\Hid (TbOk x Y)/\Hid (∀z,MdF p bm bz Y z->t z=.free/\z≠bp)/\Hid (∀z,t z≠.free->S' z=t z)/\S' bp=.obj 26 [.lst (x.doms.map dmC) .no,.lst (x.decls.map az) .no,.lst (x.rules.map ax) .no]/\Hid (∀n row,Mdl x.rules (stN x) (cP g) sg n row->TT x Y n row)/\Hid (∀n row,TT x Y n row->Mdl x.rules (stN x) (cP g) (sg+1) n row) /\
       Hid (ah=false->Y.map (·.l)=X.map (·.l)/\∀j r,j<k->x.rules[j]?=some r->stN x r.head.rel=sg->∀g,Sat (TT x Y) g r.body->TT x Y r.head.rel (ei g r.head.ts))/\Hid (jI X<=jI Y/\(ah=true->jI X<jI Y))/\env 2=.ptr bp 0/\env 6=.lst (aB (st.map fun n:Nat=>(n:Int))) .no/\env 8=.ptr p 0/\env 51=.int .i64 x.decls.length/\env 52=.int .i64 sg/\env 11=.int .i64 sg/\env 12=.bool ah/\env 57=.lst (x.rules.map ax) .no/\env 58=.int .i64 x.rules.length/\env 59=.int .i64 k) x.rules.length ?_ ?_
      ·exact⟨0,false,X,by omega,by omega,HM,HTB,HMF,HK,hB,HLO,HUP,u_ (fun _=>⟨rfl,fun j r hj=>absurd hj (Nat.not_lt_zero _)⟩),u_ ⟨Nat.le_refl _,fun h=>by cases h⟩,ab,ab,ab,ab,ab,ab,ab,ab,ab,ab⟩
      clear e2 e6 e8 e51 e52 e11 e12 HM HTB HMF HK hB HLO HUP HCL env
      rintro m3 env S' ⟨k,ah,Y,hk,hm3,HM,HTB,HMF,HK,hB,HLO,HUP,HAF,HTO,e2,e6,e8,e51,e52,e11,e12,e57,e58,e59⟩
      by_cases hltk:k<x.rules.length
      ·obtain⟨r,hr⟩:=aN hltk
       have hsr:=kA hr
       have hsnd:=jY hds hs hr
       obtain⟨hi',d0,hh,hd0,hdl0⟩:=hsnd.hd
       obtain⟨y,hy⟩:=HTB.out.at_ hh
       have hlk:=(j6 (cs:=x.decls) r.head.rel).trans (by rw[hh];rfl:_=some (hi':Int))
       have hstl:st.length=x.decls.length:=(jp hst).1
       have hhl:hi'<x.decls.length:=(n_.1 hd0).1
       obtain⟨sv,hsv⟩:∃sv,st[hi']?=some sv:=aN (by omega)
       have hsst:(aB (st.map fun n:Nat=>(n:Int)))[hi']?=some [.int .i64 (sv:Int)]:=cD (by rw[c_,hsv];rfl)
       have hstl2:(aB (st.map fun n:Nat=>(n:Int))).length=x.decls.length:=by rw[bH,a_,hstl]
       have hsN:stN x r.head.rel=sv:=by unfold stN ixR;rw[hsp,hh];simp only[gt,Option.getD_some,hsv]
       have q1:=HM.out.o
       have q2:=HM.out.h1
       have l1:S' p≠.free:=by rw[q1];simp
       have l2:S' bm≠.free:=by rw[q2];simp
       have lB:S' bp≠.free:=by rw[hB];simp
       have HR:=u_ hr
       have HSND:=u_ hsnd
       have HH:=u_ hh
       have HY:=u_ hy
       have HSN:=u_ hsN
       obtain⟨rh,rb⟩:=r
       simp only[ax]at hsr
       simp only at hlk
       clear hr hsnd hh hy hsN hd0 hdl0 hsv
       generalize rlA x.decls=RLA at *
       generalize hYL:Y.map (fun y=>[VV.ptr y.b 0])=YL at *
       by_cases hsg:sv=sg
       ·have hsgT:((sv:Int)=(sg:Int))=True:=eq_true (by omega)
        (repeat'(first|refine Ctl ?_|(with_reducible first|(refine j_ hK ?_;clear hK hE K E)|(refine j_ hKh ?_;clear hKh Kh)|refine aq 22 [] [0,1,2,3,4,5,6,7,8,9,10,11,12] hQe fun K E hK hE=>?_)|((with_reducible refine aj (fun h=>?_) (fun h=>?_))<;>(try(exfalso;assumption)))|((first|(with_reducible first|refine ae fun K E hK hE=>?_|refine aD fun Kh hKh=>?_)|((with_reducible refine ao (fun b hb=>?_));(try(obtain⟨_,_⟩:=nef hb l1;obtain⟨_,_⟩:=nef hb l2;obtain⟨_,_⟩:=nef hb lB))))<;>(try simp(disch:=omega) only[go_sem,seval,Option.getD_some, *]))))
        obtain⟨b14,hb14⟩:∃z,z=b:=⟨_,rfl⟩
        subst hb14
        have HMU:Hid (MdAt (S'.set b14 (.obj 43 [.bool rh.not,.str rh.rel,.lst (rh.ts.map aC) .no,.lst (rb.map aG) .no])) p bm bz x (varsL x x.rules.length) Y):=u_ (HM.out.keep fun z hz=>k_ _ _ (HM.out.obj_ne hz hb))
        have HKU:Hid (∀z,t z≠.free->(S'.set b14 (.obj 43 [.bool rh.not,.str rh.rel,.lst (rh.ts.map aC) .no,.lst (rb.map aG) .no])) z=t z):=u_ fun z hz=>by
         rw[k_ _ _ (aT (by rw[HK.out z hz];exact hz) hb)];exact HK.out z hz
        have hBU:(S'.set b14 (.obj 43 [.bool rh.not,.str rh.rel,.lst (rh.ts.map aC) .no,.lst (rb.map aG) .no])) bp=.obj 26 [.lst (x.doms.map dmC) .no,.lst (x.decls.map az) .no,.lst (x.rules.map ax) .no]:=by rw[k_ _ _ (aT lB hb)];exact hB
        generalize S'.set b14 (.obj 43 [.bool rh.not,.str rh.rel,.lst (rh.ts.map aC) .no,.lst (rb.map aG) .no])=U at *
        clear q1 q2 l1 l2 lB HM HK hB hb
        have hsnd:=HSND.out
        have wg:=CQ x p bm bz (varsL x x.rules.length) Y k ⟨rh,rb⟩ (varsP x (k:Int)).1.vs hi' y HR.out (zW hltk) HH.out HY.out (by omega) yw (HTB.out.matm hsnd) (by have:=hsnd.bl;omega) (by have:=hsnd.vl;omega) hsnd.nd
         (fun y hy=>by have:=HTB.out.le y hy;omega) hsnd.hf (by have:=hsnd.hl;omega) hsnd.hn (HTB.out.le y (p_ HY.out)) (HTB.out.rgood hsnd) U HMU.out
        have HNF:Hid (y.l.length+(il (bV x Y) ⟨rh,rb⟩ (varsP x (k:Int)).1.vs y.l).length<=16384->∀g,Sat (TT x Y) g rb->ei g rh.ts∈y.l\/ei g rh.ts∈il (bV x Y) ⟨rh,rb⟩ (varsP x (k:Int)).1.vs y.l):=u_ fun h g hg=>HTB.out.new_full hsnd (HTB.out.le y (p_ HY.out)) h hg
        have HNS:Hid (∀row,row∈il (bV x Y) ⟨rh,rb⟩ (varsP x (k:Int)).1.vs y.l->Mdl x.rules (stN x) (cP g) (sg+1) rh.rel row):=u_ fun row hrow=>by
         obtain⟨gg,hg1,hg2⟩:=HTB.out.new_src hsnd hrow
         rw[<- hg2]
         exact s9 (wC hs) HLO.out HUP.out (p_ HR.out) (HSN.out.trans hsg) hg1
        have HUPD:Hid ((y.l++il (bV x Y) ⟨rh,rb⟩ (varsP x (k:Int)).1.vs y.l).length<=16384->∀g',TbOk x (Y.set hi' ⟨y.b,y.m,g',y.l++il (bV x Y) ⟨rh,rb⟩ (varsP x (k:Int)).1.vs y.l⟩)):=u_ fun h g'=>HTB.out.upd hsnd HH.out HY.out h
        have HND:Hid ((y.l++il (bV x Y) ⟨rh,rb⟩ (varsP x (k:Int)).1.vs y.l).Nodup):=u_ (by
         have hrun:=gM (T:=bV x Y) (r:=⟨rh,rb⟩) (vars:=(varsP x (k:Int)).1.vs) (l:=y.l)
         rw[List.nodup_append]
         exact⟨HTB.out.nd y (p_ HY.out),hrun.nd,fun a ha b hb e=>hrun.dj b hb (e ▸ ha)⟩)
        clear hsnd HSND
        generalize il (bV x Y) ⟨rh,rb⟩ (varsP x (k:Int)).1.vs y.l=NW at *
        refine aO MH wg (fun U2 h=>?_)
        obtain⟨g',c1,c2,c3⟩:=h
        have hYF:∀z,y.F z->MdF p bm bz Y z:=fun z hz=>.inr (.inr (.inr ⟨y,p_ HY.out,hz⟩))
        have HMF2:Hid (∀z,MdF p bm bz (Y.set hi' ⟨y.b,y.m,g',y.l++NW⟩) z->t z=.free/\z≠bp):=u_ fun z hz=>by
         rcases hz with h|h|h|h
         ·exact HMF.out z (.inl h)
         ·exact HMF.out z (.inr (.inl h))
         ·exact HMF.out z (.inr (.inr (.inl h)))
         ·rcases xU h with h|h
          ·exact HMF.out z (.inr (.inr (.inr h)))
          ·rcases c3 z h with h|h
           ·exact HMF.out z (hYF z h)
           ·refine⟨?_,fun e=>by rw[e,hBU]at h;cases h⟩
            by_cases e:t z=.free
            ·exact e
            ·rw[HKU.out z e]at h;exact absurd h e
        have HK2:Hid (∀z,t z≠.free->U2 z=t z):=u_ fun z hz=>by
         rw[c2 z (by rw[HKU.out z hz];exact hz) (fun e=>hz (HMF.out z (hYF z e)).1)];exact HKU.out z hz
        have hB2:U2 bp=.obj 26 [.lst (x.doms.map dmC) .no,.lst (x.decls.map az) .no,.lst (x.rules.map ax) .no]:=by rw[c2 bp (by rw[hBU];simp) (fun e=>(HMF.out bp (hYF bp e)).2 rfl)];exact hBU
        have HM2:=u_ c1
        have hhd:bV x Y rh.rel=y.l:=jn HH.out HY.out
        have HHD:=u_ hhd
        clear c1 c2 c3 hYF wg hBU HMU HKU hhd U HMF
        by_cases hbig:16384<(y.l++NW).length
        ·have HP:Hid (bQ x g [] 2):=u_ (by
          unfold bQ
          rw[if_neg (by simp[hs]),if_neg (by simp[HTT.out])]
          refine .inr ⟨rfl,rfl,sg+1,rh.rel,y.l++NW,by omega,HND.out,hbig,fun r hr=>?_⟩
          rcases l_.1 hr with hr|hr
          ·exact HUP.out _ _ (by unfold TT;rw[HHD.out];exact hr)
          ·exact HNS.out r hr)
         rw[if_pos hbig]
         simp only[go_sem,seval]
         (repeat'(first|refine Ctl ?_|((with_reducible refine j_ hK ?_);clear hK hE K E)|((with_reducible refine aj (fun h=>?_) (fun h=>?_))<;>(try(exfalso;assumption)))|(((with_reducible refine ae fun K E hK hE=>?_))<;>(try simp(disch:=omega) only[go_sem,seval, *]))))
         all_goals(refine ap pS hQ ?_)
         all_goals exact⟨_,t,Wk.tup2,ir HK2.out,([],2),rfl,rfl,HP.out⟩
        ·have HTB2:=u_ (HUPD.out (by omega) g')
         have htu:=fun n row=>FI (x:=x) HH.out HY.out (g':=g') (new:=NW) n row
         have HTU:=u_ htu
         have hlt2:=si (z:=⟨y.b,y.m,g',y.l++NW⟩) HY.out
         rw[d_]at hbig
         have HT2:Hid (jI (Y.set hi' ⟨y.b,y.m,g',y.l++NW⟩)=jI Y+NW.length):=u_ (by simp only[d_]at hlt2;omega)
         have HLO2:Hid (∀n row,Mdl x.rules (stN x) (cP g) sg n row->TT x (Y.set hi' ⟨y.b,y.m,g',y.l++NW⟩) n row):=u_ fun n row h=>(htu n row).2 (.inl (HLO.out n row h))
         have HUP2:Hid (∀n row,TT x (Y.set hi' ⟨y.b,y.m,g',y.l++NW⟩) n row->Mdl x.rules (stN x) (cP g) (sg+1) n row):=u_ fun n row h=>by
          rcases(htu n row).1 h with h2|⟨h2,h3⟩
          ·exact HUP.out n row h2
          ·rw[h2];exact HNS.out row h3
         have HEQ:Hid (NW=[]->(Y.set hi' ⟨y.b,y.m,g',y.l++NW⟩).map (·.l)=Y.map (·.l)):=u_ fun h=>by
          rw[h,List.append_nil]
          refine List.ext_getElem? fun j=>?_
          rw[c_,c_]
          by_cases e:hi'=j
          ·subst e;rw[i_ (n_.1 HY.out).1,HY.out];rfl
          ·rw[s_ e]
         rw[if_neg (by rw[d_];exact hbig)]
         clear htu hlt2
         generalize hY2:Y.set hi' ⟨y.b,y.m,g',y.l++NW⟩=Y2 at *
         simp only[go_sem,seval]
         cases ah with
         |true=>
          (repeat'(first|refine Ctl ?_|((with_reducible refine j_ hK ?_);clear hK hE K E)|((with_reducible refine aj (fun h=>?_) (fun h=>?_))<;>(try(exfalso;omega)))|(((with_reducible refine ae fun K E hK hE=>?_))<;>(try simp(disch:=omega) only[go_sem,seval, *]))))
          have hto:=HTO.out
          all_goals exact⟨m3 - 1,by omega,k+1,true,Y2,by omega,by omega,HM2,HTB2,HMF2,HK2,hB2,HLO2,HUP2,u_ (fun h=>by cases h),u_ ⟨by rw[HT2.out];omega,fun _=>by have:=hto.2 rfl;rw[HT2.out];omega⟩,ab,ab,ab,ab,ab,ab,ab,ab,ab,ab⟩
         |false=>
          by_cases hnw:0<NW.length
          ·have hnwT:((0:Int)<(NW.length:Int))=True:=eq_true (by omega)
           (repeat'(first|refine Ctl ?_|((with_reducible refine j_ hK ?_);clear hK hE K E)|((with_reducible refine aj (fun h=>?_) (fun h=>?_))<;>(try(exfalso;omega)))|(((with_reducible refine ae fun K E hK hE=>?_))<;>(try simp(disch:=omega) only[go_sem,seval, *]))))
           have hto:=HTO.out
           all_goals exact⟨m3 - 1,by omega,k+1,true,Y2,by omega,by omega,HM2,HTB2,HMF2,HK2,hB2,HLO2,HUP2,u_ (fun h=>by cases h),u_ ⟨by rw[HT2.out];omega,fun _=>by rw[HT2.out];omega⟩,ab,ab,ab,ab,ab,ab,ab,ab,ab,ab⟩
          ·have hnwT:((0:Int)<(NW.length:Int))=False:=eq_false (by omega)
           have hnil:NW=[]:=t_ (by omega)
           have HNIL:=u_ hnil
           clear hnil
           (repeat'(first|refine Ctl ?_|((with_reducible refine j_ hK ?_);clear hK hE K E)|((with_reducible refine aj (fun h=>?_) (fun h=>?_))<;>(try(exfalso;omega)))|(((with_reducible refine ae fun K E hK hE=>?_))<;>(try simp(disch:=omega) only[go_sem,seval, *]))))
           have hto:=HTO.out
           all_goals refine⟨m3 - 1,by omega,k+1,false,Y2,by omega,by omega,HM2,HTB2,HMF2,HK2,hB2,HLO2,HUP2,u_ (fun _=>⟨(HEQ.out HNIL.out).trans (HAF.out rfl).1,fun j r hj hjr hst2 gg hgg=>?_⟩),u_ ⟨by rw[HT2.out];omega,fun h=>by cases h⟩,ab,ab,ab,ab,ab,ab,ab,ab,ab,ab⟩
           have hmap:=HEQ.out HNIL.out
           rw[uH hmap]
           have hgg2:Sat (TT x Y) gg r.body:=iQ (fun a _ _ row h=>(uH hmap _ _).1 h) (fun a _ _ row h=>(uH hmap _ _).2 h) hgg
           by_cases e:j=k
           ·subst e
            rw[HR.out]at hjr
            injection hjr with hjr
            subst hjr
            unfold TT
            rw[show (Rul.mk rh rb).head.rel=rh.rel from rfl,HHD.out]
            rcases HNF.out (by rw[HNIL.out];simp only[List.length_nil];omega) gg hgg2 with h|h
            ·exact h
            ·rw[HNIL.out]at h;cases h
           ·exact(HAF.out rfl).2 j r (by omega) hjr hst2 gg hgg2
       ·have hsgT:((sv:Int)=(sg:Int))=False:=eq_false (by omega)
        (repeat'(first|refine Ctl ?_|(with_reducible first|(refine j_ hK ?_;clear hK hE K E)|(refine j_ hKh ?_;clear hKh Kh)|refine aq 22 [] [0,1,2,3,4,5,6,7,8,9,10,11,12] hQe fun K E hK hE=>?_)|((with_reducible refine aj (fun h=>?_) (fun h=>?_))<;>(try(exfalso;assumption)))|((first|(with_reducible first|refine ae fun K E hK hE=>?_|refine aD fun Kh hKh=>?_)|((with_reducible refine ao (fun b hb=>?_));(try(obtain⟨_,_⟩:=nef hb l1;obtain⟨_,_⟩:=nef hb l2;obtain⟨_,_⟩:=nef hb lB))))<;>(try simp(disch:=omega) only[go_sem,seval,Option.getD_some, *]))))
        all_goals refine⟨m3 - 1,by omega,k+1,ah,Y,by omega,by omega,u_ (HM.out.keep fun z hz=>k_ _ _ (HM.out.obj_ne hz hb)),HTB,HMF,u_ (fun z hz=>by rw[k_ _ _ (aT (by rw[HK.out z hz];exact hz) hb)];exact HK.out z hz),by rw[k_ _ _ (aT lB hb)];exact hB,HLO,HUP,
         u_ (fun h=>⟨(HAF.out h).1,fun j r hj hjr hst2=>?_⟩),HTO,ab,ab,ab,ab,ab,ab,ab,ab,ab,ab⟩
        by_cases e:j=k
        ·subst e
         rw[HR.out]at hjr
         injection hjr with hjr
         subst hjr
         exact absurd (HSN.out.symm.trans hst2) hsg
        ·exact(HAF.out h).2 j r (by omega) hjr hst2
      ·obtain rfl:k=x.rules.length:=by omega
       (repeat'(first|refine Ctl ?_|((with_reducible refine j_ hK ?_);clear hK hE K E)|((with_reducible refine aj (fun h=>?_) (fun h=>?_))<;>(try(exfalso;assumption)))|(((with_reducible refine ae fun K E hK hE=>?_))<;>(try simp(disch:=omega) only[go_sem,seval, *]))))
       have htY:=wv HTB.out.le
       rw[HTB.out.len]at htY
       have hto:=HTO.out
       refine⟨x.decls.length*16384+ah.toNat - jI Y,?_,ah,Y,?_,htY,HM,HTB,HMF,HK,hB,HLO,HUP,u_ fun h r hr hs g hg=>?_,ab,ab,ab,ab,ab,ab,ab⟩
       ·cases ah
        ·simp only[Bool.toNat_false];omega
        ·have:=hto.2 rfl;simp only[Bool.toNat_true];omega
       ·omega
       ·obtain⟨j,hj⟩:=h_.1 hr
        exact(HAF.out h).2 j r (n_.1 hj).1 hj hs g hg
    ·obtain rfl:sg=x.decls.length:=by omega
     have hXN:X.length=x.decls.length:=HTB.out.len
     have q1:=HM.out.o
     have HAT:Hid (∀(k:Nat) (y:Tab),0<=k->X[k]?=some y->y.At S):=u_ fun k y _ hy=>HM.out.tb.at_ y (p_ hy)
     have HDIS:Hid (∀(j k:Nat) (y z:Tab),X[j]?=some y->X[k]?=some z->j≠k->∀b,y.F b->¬ z.F b):=u_ fun j k y z hj hk hne b hb=>HM.out.tb.apart hj hk hne hb
     have HPF:Hid (∀b,TbF X b->b≠p/\b≠bp/\t b=.free):=u_ fun b hb=>⟨(HM.out.dis b hb).1,(HMF.out b (.inr (.inr (.inr hb)))).2,(HMF.out b (.inr (.inr (.inr hb)))).1⟩
     have HPP:Hid (t p=.free/\p≠bp):=u_ (HMF.out p (.inl rfl))
     (repeat'(first|refine Ctl ?_|((with_reducible refine j_ hK ?_);clear hK hE K E)|((with_reducible refine aj (fun h=>?_) (fun h=>?_))<;>(try(exfalso;assumption)))|(((with_reducible refine ae fun K E hK hE=>?_))<;>(try simp(disch:=omega) only[go_sem,seval, *]))))
     clear HM HMF
     refine aI (fun m env s'=>∃(i:Nat) (o:Own) (U:St),i<=x.decls.length/\m+i=x.decls.length/\OwnOk U o i/\s'=U.own o 46 2 i/\Hid (∀(k:Nat) (y:Tab),i<=k->X[k]?=some y->y.At U)/\Hid (∀z,t z≠.free->U z=t z)/\U bp=.obj 26 [.lst (x.doms.map dmC) .no,.lst (x.decls.map az) .no,.lst (x.rules.map ax) .no] /\
      U p=.obj 77 [.lst (x.doms.map dmC) .no,.lst (x.decls.map az) .no,.lst (x.rules.map ax) .no,.mp bm,.mp bz,.lst (X.map fun y=>[.ptr y.b 0]) .no,.lst ((varsL x x.rules.length).map fun v=>[.lst (aA v) .no]) .no]/\env 2=.ptr bp 0/\env 8=.ptr p 0/\env 16=.lst ((mE x X i).map aX) o/\env 90=.lst (x.decls.map az) .no/\env 91=.int .i64 x.decls.length/\env 92=.int .i64 i) x.decls.length ?_ ?_
     ·exact⟨_,Fg.refl _,0,.full,S,by omega,by omega,b9,rfl,HAT,HK,hB,q1,ab,ab,ab,ab,ab,ab⟩
     clear e2 e6 e8 e51 e52 HAT HK hB q1 env S hi hm hlt m
     rintro m env s' ⟨i,o,U,hi,hm,hoo,rfl,HAT,HK,hB,q1,e2,e8,e16,e90,e91,e92⟩
     by_cases hlt:i<x.decls.length
     ·obtain⟨d,hd⟩:=aN hlt
      obtain⟨y,hy⟩:∃y,X[i]?=some y:=aN (by omega)
      have hsd:=dp hd
      have hsy:(X.map fun y=>[VV.ptr y.b 0])[i]?=some [.ptr y.b 0]:=by rw[c_,hy];rfl
      have hXl:(X.map fun y=>[VV.ptr y.b 0]).length=x.decls.length:=by rw[a_];exact hXN
      have hAt:=HAT.out i y (Nat.le_refl _) hy
      have q3:=hAt.o
      have q4:=hAt.r
      have l1:U p≠.free:=by rw[q1];simp
      have lB:U bp≠.free:=by rw[hB];simp
      have l3:U y.b≠.free:=by rw[q3];simp
      have o1:=hoo.not l1
      have oB:=hoo.not lB
      have o3:=hoo.not l3
      have hoL:((mE x X i).map aX).length=i:=by rw[a_,mE,A_,List.length_zipWith];omega
      have h1y:∀y,y∈(mE x X i).map aX->y.length=2:=fun y hy=>by
       obtain⟨q,_,rfl⟩:=E_.1 hy
       rfl
      have HOT:Hid ((mE x X (i+1)).map aX=(mE x X i).map aX++[[.str d.name,.lst (aF (dH y.l)) .no]]):=u_ (by
       unfold mE
       rw[bY (show (List.zipWith (fun(d:Dcl) (y:Tab)=>(⟨d.name,dH y.l⟩:Tbl)) x.decls X)[i]?=some ⟨d.name,dH y.l⟩ by rw[List.getElem?_zipWith,hd,hy]),List.map_append]
       rfl)
      have HY:=u_ hy
      have hys:=hAt.s
      have hyn:=HTB.out.nd y (p_ hy)
      have hyl:=HTB.out.le y (p_ hy)
      obtain⟨dn,dd⟩:=d
      simp only[az]at hsd
      simp only at HOT
      clear hd hy
      generalize (mE x X i).map aX=OL at *
      generalize hXP:X.map (fun y=>[VV.ptr y.b 0])=XP at *
      by_cases hnil:y.l=[]
      ·have hn1:eu y.l y.g=.raw (.slice none 0 0):=by rw[hnil];rfl
       have ws:=fun s=>Ex s []
       rw[hn1]at q3
       (repeat'(first|(with_reducible refine CW 34 ?_)|refine Ctl ?_|((with_reducible refine j_ hK ?_);clear hK hE K E)|((with_reducible refine aj (fun h=>?_) (fun h=>?_))<;>(try(exfalso;assumption)))|((first|(with_reducible first|refine ae fun K E hK hE=>?_|refine ak Fr (ws _) ?_)|((with_reducible refine ao (fun b hb=>?_));(repeat(obtain⟨_,hb⟩:=hb));(try(obtain⟨_,_⟩:=nef hb l1;obtain⟨_,_⟩:=nef hb lB;obtain⟨_,_⟩:=nef hb l3))))<;>(try simp(disch:=first|assumption|omega) only[go_sem,seval, *]))))
       unfold Ev
       have hzb:((U.own o 46 2 i).set b (.obj 66 [.str dn,.lst (aA dd) .no])) y.b=.obj 81 [.raw (.slice none 0 0),.mp y.m]:=by rw[k_ _ _ (‹_›),c7 o3];exact q3
       have hg:=GS.wkobj (ys:=[.lst [] .no,.mp y.m]) hzb rfl (fun j z hz=>by
        match j with
        |0=>simp at hz;subst hz;exact⟨_,rfl,pr,fun _=>rfl⟩
        |1=>simp at hz;subst hz;exact⟨_,rfl,Wk.refl _,id⟩
        |j+2=>simp at hz)
       refine pc hg ?_
       rw[cJ (x:=b) (y:=y.b) (‹_›),<- fU o3]
       have HU2:Hid ((U.set y.b (.obj 81 [.lst [] .no,.mp y.m])) y.b=.obj 81 [.lst (aF (dH y.l)) .no,.mp y.m]/\OwnOk (U.set y.b (.obj 81 [.lst [] .no,.mp y.m])) o i/\∀z,¬ y.F z->(U.set y.b (.obj 81 [.lst [] .no,.mp y.m])) z=U z):=u_ ⟨by rw[q_,hnil];rfl,nV hoo (fun z hz=>.inr (by rw[k_ _ _ (aT l3 hz).symm];exact hz)),fun z hz=>k_ _ _ (fun e=>hz (.inl e))⟩
       have hbU:(U.set y.b (.obj 81 [.lst [] .no,.mp y.m])) b=.free:=by rw[k_ _ _ (‹_›)];exact hb
       clear hzb hg hb
       have hb:=hbU
       generalize U.set y.b (.obj 81 [.lst [] .no,.mp y.m])=U2 at *
       have HAT2:Hid (∀(k:Nat) (z:Tab),i+1<=k->X[k]?=some z->z.At U2):=u_ fun k z hk hz=>TabAt.keep (HAT.out k z (by omega) hz) fun b hbz=>HU2.out.2.2 b (fun e=>HDIS.out k i z y hz HY.out (by omega) b hbz e)
       have HK2:Hid (∀z,t z≠.free->U2 z=t z):=u_ fun z hz=>by
        rw[HU2.out.2.2 z (fun e=>hz (HPF.out z ⟨y,p_ HY.out,e⟩).2.2)];exact HK.out z hz
       have hB2:U2 bp=.obj 26 [.lst (x.doms.map dmC) .no,.lst (x.decls.map az) .no,.lst (x.rules.map ax) .no]:=by rw[HU2.out.2.2 bp (fun e=>(HPF.out bp ⟨y,p_ HY.out,e⟩).2.1 rfl)];exact hB
       have q12:U2 p=.obj 77 [.lst (x.doms.map dmC) .no,.lst (x.decls.map az) .no,.lst (x.rules.map ax) .no,.mp bm,.mp bz,.lst XP .no,.lst ((varsL x x.rules.length).map fun v=>[.lst (aA v) .no]) .no]:=by
        rw[HU2.out.2.2 p (fun e=>(HPF.out p ⟨y,p_ HY.out,e⟩).1 rfl)];exact q1
       have q32:=HU2.out.1
       have hoo2:=HU2.out.2.1
       have l12:U2 p≠.free:=by rw[q12];simp
       have lB2:U2 bp≠.free:=by rw[hB2];simp
       have l32:U2 y.b≠.free:=by rw[q32];simp
       clear q1 q3 hB l1 lB l3 hoo HAT HK
       generalize hRS:aF (dH y.l)=RS at *
       (repeat'(first|refine Ctl ?_|(with_reducible first|(refine j_ hK ?_;clear hK hE K E)|(refine j_ hKh ?_;clear hKh Kh)|(refine j_ hKb (aL ?_);clear hKb Kb)|refine aq 34 [([0,1,2,3,4,5,6,7,8,9,10,11,12,13,14],15,[[]])] [16] hQe fun K E hK hE=>?_)|((first|(with_reducible first|refine ae fun K E hK hE=>?_|refine aE fun Kh hKh=>?_|refine aD fun Kh hKh=>?_|refine aM fun Kb hKb=>?_)|((with_reducible refine cq (fun o2 ho=>?_));(try simp(disch:=assumption) only[hoL]at ho);(repeat(obtain⟨_,ho⟩:=ho))))<;>(try simp(disch:=first|assumption|omega) only[go_sem,seval, *]))))
       all_goals exact⟨_,v_ _ (by rw[aR];exact⟨‹_›,‹_›⟩),m - 1,by omega,i+1,o2,U2,by omega,by omega,ho,rfl,HAT2,HK2,hB2,q12,ab,ab,by rw[HOT.out];((try simp(disch:=assumption) only[go_sem,seval, *])<;>rfl),ab,ab,ab⟩
      ·have q4':=q4 hnil
       have hpos:0<y.l.length:=by
        cases hyy:y.l with
        |nil=>exact absurd hyy hnil
        |cons a l=>simp
       have hn1:=kC (g:=y.g) hpos
       rw[hn1]at q3
       have l4:U y.g≠.free:=by rw[q4'];simp
       have o4:=hoo.not l4
       have n43:¬ y.g=y.b:=by intro e;rw[e,q3]at q4';cases q4'
       have n34:¬ y.b=y.g:=fun e=>n43 e.symm
       have ng1:¬ p=y.g:=ft q4' q1 (by intros;simp)
       have ngB:¬ bp=y.g:=ft q4' hB (by intros;simp)
       have ws:=fun s hs=>JE y.l y.g 48 (by omega) hyn (fun r hr=>by have:=(hys r hr).1;omega) s hs
       have hslen:((dH y.l).map ca).length=y.l.length:=by rw[a_];exact pC hyn
       have HFZ:Hid (((dH y.l).map ca).map (fun y=>[y])=aF (dH y.l)):=u_ yN
       generalize (dH y.l).map ca=SRT at *
       (repeat'(first|(with_reducible refine CW 34 ?_)|refine Ctl ?_|((with_reducible refine j_ hK ?_);clear hK hE K E)|((with_reducible refine aj (fun h=>?_) (fun h=>?_))<;>(try(exfalso;assumption)))|((first|(with_reducible first|refine ae fun K E hK hE=>?_|refine ak Fr (ws _ ab) ?_)|((with_reducible refine ao (fun b hb=>?_));(repeat(obtain⟨_,hb⟩:=hb));(try(obtain⟨_,_⟩:=nef hb l1;obtain⟨_,_⟩:=nef hb lB;obtain⟨_,_⟩:=nef hb l3;obtain⟨_,_⟩:=nef hb l4))))<;>(try simp(disch:=first|assumption|omega) only[go_sem,seval, *]))))
       unfold Ev
       have hzb:(((U.own o 46 2 i).set b (.obj 66 [.str dn,.lst (aA dd) .no])).set y.g (.row 48 1 SRT)) y.b=.obj 81 [.mrw y.g y.l.length,.mp y.m]:=by rw[k_ _ _ n34,k_ _ _ (‹_›),c7 o3];exact q3
       have hg:=GSg.frz (i:=0) hzb rfl (q_ _ _ _) hslen
       rw[St.set_set,HFZ.out]at hg
       refine JK hg ?_
       simp only[List.set_cons_zero]
       rw[cJ (x:=b) (y:=y.g) (‹_›),cJ (x:=b) (y:=y.b) (‹_›),<- fU o4,<- fU o3]
       have HU2:Hid (((U.set y.g .free).set y.b (.obj 81 [.lst (aF (dH y.l)) .no,.mp y.m])) y.b=.obj 81 [.lst (aF (dH y.l)) .no,.mp y.m]/\OwnOk ((U.set y.g .free).set y.b (.obj 81 [.lst (aF (dH y.l)) .no,.mp y.m])) o i/\∀z,¬ y.F z->((U.set y.g .free).set y.b (.obj 81 [.lst (aF (dH y.l)) .no,.mp y.m])) z=U z):=
        u_ ⟨q_ _ _ _,nV hoo (fun z hz=>.inr (by rw[k_ _ _ (aT l3 hz).symm,k_ _ _ (aT l4 hz).symm];exact hz)),fun z hz=>by rw[k_ _ _ (fun e=>hz (.inl e)),k_ _ _ (fun e=>hz (.inr (.inr ⟨hnil,e⟩)))]⟩
       have hbU:((U.set y.g .free).set y.b (.obj 81 [.lst (aF (dH y.l)) .no,.mp y.m])) b=.free:=by rw[k_ _ _ (‹_›),k_ _ _ (‹_›)];exact hb
       clear hzb hg hb q4 q4' l4
       have hb:=hbU
       generalize (U.set y.g .free).set y.b (.obj 81 [.lst (aF (dH y.l)) .no,.mp y.m])=U2 at *
       have HAT2:Hid (∀(k:Nat) (z:Tab),i+1<=k->X[k]?=some z->z.At U2):=u_ fun k z hk hz=>TabAt.keep (HAT.out k z (by omega) hz) fun b hbz=>HU2.out.2.2 b (fun e=>HDIS.out k i z y hz HY.out (by omega) b hbz e)
       have HK2:Hid (∀z,t z≠.free->U2 z=t z):=u_ fun z hz=>by
        rw[HU2.out.2.2 z (fun e=>hz (HPF.out z ⟨y,p_ HY.out,e⟩).2.2)];exact HK.out z hz
       have hB2:U2 bp=.obj 26 [.lst (x.doms.map dmC) .no,.lst (x.decls.map az) .no,.lst (x.rules.map ax) .no]:=by rw[HU2.out.2.2 bp (fun e=>(HPF.out bp ⟨y,p_ HY.out,e⟩).2.1 rfl)];exact hB
       have q12:U2 p=.obj 77 [.lst (x.doms.map dmC) .no,.lst (x.decls.map az) .no,.lst (x.rules.map ax) .no,.mp bm,.mp bz,.lst XP .no,.lst ((varsL x x.rules.length).map fun v=>[.lst (aA v) .no]) .no]:=by
        rw[HU2.out.2.2 p (fun e=>(HPF.out p ⟨y,p_ HY.out,e⟩).1 rfl)];exact q1
       have q32:=HU2.out.1
       have hoo2:=HU2.out.2.1
       have l12:U2 p≠.free:=by rw[q12];simp
       have lB2:U2 bp≠.free:=by rw[hB2];simp
       have l32:U2 y.b≠.free:=by rw[q32];simp
       clear q1 q3 hB l1 lB l3 hoo HAT HK
       generalize hRS:aF (dH y.l)=RS at *
       (repeat'(first|refine Ctl ?_|(with_reducible first|(refine j_ hK ?_;clear hK hE K E)|(refine j_ hKh ?_;clear hKh Kh)|(refine j_ hKb (aL ?_);clear hKb Kb)|refine aq 34 [([0,1,2,3,4,5,6,7,8,9,10,11,12,13,14],15,[[]])] [16] hQe fun K E hK hE=>?_)|((first|(with_reducible first|refine ae fun K E hK hE=>?_|refine aE fun Kh hKh=>?_|refine aD fun Kh hKh=>?_|refine aM fun Kb hKb=>?_)|((with_reducible refine cq (fun o2 ho=>?_));(try simp(disch:=assumption) only[hoL]at ho);(repeat(obtain⟨_,ho⟩:=ho))))<;>(try simp(disch:=first|assumption|omega) only[go_sem,seval, *]))))
       all_goals exact⟨_,v_ _ (by rw[aR];exact⟨‹_›,‹_›⟩),m - 1,by omega,i+1,o2,U2,by omega,by omega,ho,rfl,HAT2,HK2,hB2,q12,ab,ab,by rw[HOT.out];((try simp(disch:=assumption) only[go_sem,seval, *])<;>rfl),ab,ab,ab⟩
     ·obtain rfl:i=x.decls.length:=by omega
      have HP:Hid (bQ x g (mE x X x.decls.length) 0):=u_ (by
       unfold bQ
       rw[if_neg (by simp[hs]),if_neg (by simp[HTT.out])]
       refine .inl ⟨rfl,?_,fun tt htt=>?_⟩
       ·unfold mE
        rw[B_ (by rw[List.length_zipWith];omega)]
        refine List.ext_getElem? fun j=>?_
        rw[c_,List.getElem?_zipWith,c_]
        by_cases hj:j<x.decls.length
        ·obtain⟨d,hd⟩:=aN hj
         obtain⟨y,hy⟩:∃y,X[j]?=some y:=aN (by omega)
         rw[hd,hy];rfl
        ·rw[C_ (show x.decls.length<=j by omega)];rfl
       ·unfold mE at htt
        obtain⟨j,hj⟩:=h_.1 (List.mem_of_mem_take htt)
        rw[List.getElem?_zipWith]at hj
        cases hd:x.decls[j]? with
        |none=>rw[hd]at hj;cases hj
        |some d=>
         cases hy:X[j]? with
         |none=>rw[hd,hy]at hj;cases hj
         |some y=>
          rw[hd,hy]at hj
          simp only[Option.some.injEq]at hj
          subst hj
          have hk:=gz hnd.2 (show (x.decls.map (·.name))[j]?=some d.name by rw[c_,hd];rfl)
          refine⟨gZ _,?_,fun r=>?_⟩
          ·simp only
           rw[pC (HTB.out.nd y (p_ hy))]
           exact HTB.out.le y (p_ hy)
          ·simp only
           rw[sortR_mem,<- HT.out]
           unfold TT
           rw[jn (show cO x.decls d.name=some j from hk) hy])
      generalize mE x X x.decls.length=OT at *
      (repeat'(first|refine Ctl ?_|((with_reducible refine j_ hK ?_);clear hK hE K E)|((with_reducible refine aj (fun h=>?_) (fun h=>?_))<;>(try(exfalso;assumption)))|(((with_reducible refine ae fun K E hK hE=>?_))<;>(try simp(disch:=omega) only[go_sem,seval, *]))))
      all_goals(refine ap pS hQ ?_)
      all_goals exact⟨_,t,z_ (.lst _ _ (.same _ .nil)),(Fg.own hoo).trans (ir HK.out),(OT,0),rfl,rfl,HP.out⟩
 ·have hbad:=lm hs
  rw[hbad]at w1
  have HP:Hid (bQ x g [] (soundP x).2.1):=u_ (by unfold bQ;rw[if_pos hs];exact⟨rfl,rfl⟩)
  generalize (soundP x).2.1=e at *
  have hef:(e=0)=False:=eq_false hs
  simp only[pgC]at w1 ⊢
  clear hs hbad
  refine aw Tryz.func14 rfl Tryz.ntmps14 rfl fun Q hQ hQe=>?_
  (repeat'(first|refine Ctl ?_|((with_reducible refine j_ hK ?_);clear hK hE K E)|((with_reducible refine aj (fun h=>?_) (fun h=>?_))<;>(try(exfalso;assumption)))|((first|(with_reducible first|refine ae fun K E hK hE=>?_|refine ak Fs (w1 _) ?_)|((with_reducible refine ao (fun b hb=>?_))))<;>(try simp(disch:=omega) only[go_sem,seval, *]))))
  all_goals(refine ap pS hQ ?_)
  all_goals exact⟨_,t,Wk.tup2,bC,([],e),rfl,rfl,HP.out⟩
end Go.Proofs.YteldpmgepfaiiaaGreatDoor
namespace Go.Proofs.YteldpmgepfaiiaaGreatDoor
open Go.RowKit
attribute [local go_sem] aH aV cH
theorem rk:∀{l m:List (List Int)},l.Nodup->(∀x,x∈l->x∈m)->l.length<=m.length
 |[],m,_,_=>Nat.zero_le _
 |a::l,m,h,hs=>by
  rw[List.nodup_cons]at h
  have ha:=hs a (by simp)
  have ih:=rk (l:=l) (m:=m.erase a) h.2 fun x hx=>by
   have hne:x≠a:=by rintro rfl;exact h.1 hx
   exact(List.mem_erase_of_ne hne).2 (hs x (by simp[hx]))
  rw[List.length_erase_of_mem ha]at ih
  have:=List.length_pos_of_mem ha
  simp only[List.length_cons]
  omega
theorem nX {Q:List Rul}{st:List UInt8->Nat}{T0:Rlt}(h0:∀n,st n=0):∀(s:Nat) (n:List UInt8) (row:List Int),Mdl Q st T0 (s+1) n row↔Mdl Q st T0 1 n row
 |0,n,row=>Iff.rfl
 |s+1,n,row=>(zd (fun r _=>by rw[h0];omega) n row).trans (nX h0 s n row)
structure Conc (x:Pgm) (M:List UInt8->List (List Int)):Prop where
 s:(soundP x).2.1=0
 st:∀n,stN x n=0
 clo:pq x.rules (stN x) 0 (fun n r=>r∈M n)
 der:∀n r,r∈M n->Mdl x.rules (stN x) (cP []) 1 n r
 pos:0<x.decls.length
 ris:∀n,Rising (M n)
theorem Conc.up {x:Pgm}{M:List UInt8->List (List Int)}(h:Conc x M):∀(s:Nat) (n:List UInt8) (r:List Int),Mdl x.rules (stN x) (cP []) s n r->r∈M n
 |0,n,r,hm=>by cases hm
 |s+1,n,r,hm=>by
  have h1:=(nX h.st s n r).1 hm
  exact h1 (fun n r=>r∈M n) (fun n r h=>by cases h) (fun n r hn=>absurd (h.st n) hn) h.clo
theorem Conc.iff {x:Pgm}{M:List UInt8->List (List Int)}(h:Conc x M)(n:List UInt8)(r:List Int):Mdl x.rules (stN x) (cP []) x.decls.length n r↔r∈M n:=by
 obtain⟨k,hk⟩:∃k,x.decls.length=k+1:=⟨x.decls.length - 1,by have:=h.pos;omega⟩
 exact⟨h.up _ n r,fun hr=>by rw[hk];exact(nX h.st k n r).2 (h.der n r hr)⟩
theorem Conc.eval {x:Pgm}{M:List UInt8->List (List Int)}(h:Conc x M){L:List Tbl}{e:Int}(hp:bQ x [] L e) :
  (e=0/\L=x.decls.map (fun d=>⟨d.name,M d.name⟩)/\∀d,d∈x.decls->(M d.name).length<=16384)\/(e=2/\L=[]/\∃n,16384<(M n).length):=by
 unfold bQ at hp
 rw[if_neg (by simp[h.s]),if_neg (by simp[cQ])]at hp
 rcases hp with ⟨rfl,hnm,hrow⟩|⟨rfl,rfl,s,n,l,_,h1,h2,h3⟩
 ·left
  have hrs:∀t,t∈L->t.rs=M t.nm:=fun t ht=>by
   obtain⟨g1,_,g3⟩:=hrow t ht
   exact gJ g1 (h.ris _) fun r=>(g3 r).trans (h.iff _ r)
  have hL:L=x.decls.map (fun d=>⟨d.name,M d.name⟩):=by
   refine List.ext_getElem? fun j=>?_
   have hj:(L.map (·.nm))[j]?=(x.decls.map (·.name))[j]?:=by rw[hnm]
   rw[c_,c_]at hj
   rw[c_]
   cases hd:x.decls[j]? with
   |none=>
    rw[hd]at hj
    cases hl:L[j]? with
    |none=>rfl
    |some t=>rw[hl]at hj;cases hj
   |some d=>
    rw[hd]at hj
    cases hl:L[j]? with
    |none=>rw[hl]at hj;cases hj
    |some t=>
     rw[hl]at hj
     simp only[Option.map_some,Option.some.injEq]at hj ⊢
     have:=hrs t (p_ hl)
     obtain⟨tn,tr⟩:=t
     simp only at hj this
     rw[this,hj]
  refine⟨rfl,hL,fun d hd=>?_⟩
  have hm:(⟨d.name,M d.name⟩:Tbl)∈L:=by rw[hL];exact E_.2 ⟨d,hd,rfl⟩
  exact(hrow _ hm).2.1
 ·right
  exact⟨rfl,rfl,n,Nat.lt_of_lt_of_le h2 (rk h1 fun r hr=>h.up s n r (h3 r hr))⟩
def kv (a b:Trm)(n:Bool):Atm:=⟨n,[101],[a,b]⟩
def pg (a b:Trm):Atm:=⟨false,[112],[a,b]⟩
def tV (c:UInt8):Trm:=⟨true,[c],0⟩
def tN (k:Int):Trm:=⟨false,[],k⟩
def w13:Pgm:=⟨[⟨[86],4⟩],[⟨[101],[[86],[86]]⟩,⟨[112],[[86],[86]]⟩],
 [⟨kv (tN 1) (tN 2) false,[]⟩,⟨kv (tN 2) (tN 3) false,[]⟩,⟨pg (tV 120) (tV 121),[kv (tV 120) (tV 121) false]⟩,⟨pg (tV 120) (tV 122),[pg (tV 120) (tV 121),kv (tV 121) (tV 122) false]⟩]⟩
theorem w13T:nU [100,111,109,32,86,32,52,46,32,114,101,108,32,101,40,86,44,86,41,46,32,114,101,108,32,112,40,86,44,86,41,46,32,101,40,49,44,50,41,46,32,101,40,50,44,51,41,46,32,112,40,120,44,121,41,58,45,101,40,120,44,121,41,46,32,112,40,120,44,122,41,58,45,112,40,120,44,121,41,44,101,40,121,44,122,41,46]=.ok w13:=by kernel_rfl
theorem JP:PgmOk w13:=H7 (by kernel_rfl)
theorem w13L:gU 2 [⟨1,0,0⟩,⟨1,1,0⟩,⟨1,0,0⟩] [0,0]:=by
 refine⟨rfl,?_,?_,?_⟩
 ·intro e he
  simp only[F_,List.not_mem_nil,or_false]at he
  rcases he with rfl|rfl|rfl<;>decide
 ·intro f hf i
  match i with
  |0=>exact Nat.zero_le _
  |1=>exact Nat.zero_le _
  |i+2=>show 0<=_;exact Nat.zero_le _
 ·intro i hi
  match i with
  |0=>decide
  |1=>decide
theorem FE:soundP w13=(-1,0,[0,0]):=by
 have h1:cp w13=0:=by kernel_rfl
 have h2:em w13 0 w13.rules=none:=by kernel_rfl
 have h3:eJ w13=[⟨1,0,0⟩,⟨1,1,0⟩,⟨1,0,0⟩]:=by kernel_rfl
 have h4:stgP w13=some [0,0]:=by unfold stgP;rw[h3];exact iP w13L
 unfold soundP
 rw[if_neg (by rw[h1];simp),h2,h4]
def m13 (n:List UInt8):List (List Int):=if n=[101] then [[1,2],[2,3]] else if n=[112] then [[1,2],[1,3],[2,3]] else []
theorem ET (n:List UInt8):stN w13 n=0:=by
 unfold stN
 rw[FE]
 show gt [0,0] _=0
 generalize ixR w13 n=k
 match k with
 |0=>rfl
 |1=>rfl
 |k+2=>rfl
theorem w13c:Conc w13 m13:=by
 have hst:Cy w13.rules (stN w13):=wC (by rw[FE])
 have hclo:=xj (T0:=cP []) (s:=0) hst
 have hcl:=fun r hr g hg=>hclo r hr (ET _) g hg
 have e1:Mdl w13.rules (stN w13) (cP []) 1 [101] [1,2]:=hcl ⟨kv (tN 1) (tN 2) false,[]⟩ (by simp[w13]) (fun _=>0) (fun a ha=>by cases ha)
 have e2:Mdl w13.rules (stN w13) (cP []) 1 [101] [2,3]:=hcl ⟨kv (tN 2) (tN 3) false,[]⟩ (by simp[w13]) (fun _=>0) (fun a ha=>by cases ha)
 have r3:∀a b:Int,Mdl w13.rules (stN w13) (cP []) 1 [101] [a,b]->Mdl w13.rules (stN w13) (cP []) 1 [112] [a,b]:=fun a b h=>by
  have:=hcl ⟨pg (tV 120) (tV 121),[kv (tV 120) (tV 121) false]⟩ (by simp[w13]) (fun n=>if n=[120] then a else b) (fun q hq=>by
   rw[e_]at hq;subst hq
   exact h)
  exact this
 have r4:∀a b c:Int,Mdl w13.rules (stN w13) (cP []) 1 [112] [a,b]->Mdl w13.rules (stN w13) (cP []) 1 [101] [b,c]->Mdl w13.rules (stN w13) (cP []) 1 [112] [a,c]:=fun a b c h k=>by
  have:=hcl ⟨pg (tV 120) (tV 122),[pg (tV 120) (tV 121),kv (tV 121) (tV 122) false]⟩ (by simp[w13]) (fun n=>if n=[120] then a else if n=[121] then b else c) (fun q hq=>by
   simp only[F_,List.not_mem_nil,or_false]at hq
   rcases hq with rfl|rfl
   ·exact h
   ·exact k)
  exact this
 refine⟨by rw[FE],ET,?_,fun n r hr=>?_,by decide,fun n=>?_⟩
 ·intro r hr _ g hg
  simp only[w13,F_,List.not_mem_nil,or_false]at hr
  rcases hr with rfl|rfl|rfl|rfl
  ·simp[kv,ei,tN,m13]
  ·simp[kv,ei,tN,m13]
  ·have h1:=hg (kv (tV 120) (tV 121) false) (by simp)
   simp[uo,kv,ei,tV,m13]at h1
   rcases h1 with ⟨h1,h2⟩|⟨h1,h2⟩<;>simp[pg,ei,tV,m13,h1,h2]
  ·have h1:=hg (pg (tV 120) (tV 121)) (by simp)
   have h2:=hg (kv (tV 121) (tV 122) false) (by simp)
   simp[uo,kv,pg,ei,tV,m13]at h1 h2
   rcases h1 with ⟨h1,h3⟩|⟨h1,h3⟩|⟨h1,h3⟩<;>rcases h2 with ⟨h2,h4⟩|⟨h2,h4⟩<;>simp_all [pg,ei,tV,m13]
 ·unfold m13 at hr
  split at hr
  ·rename_i hn
   subst hn
   simp only[F_,List.not_mem_nil,or_false]at hr
   rcases hr with rfl|rfl
   ·exact e1
   ·exact e2
  ·split at hr
   ·rename_i hn
    subst hn
    simp only[F_,List.not_mem_nil,or_false]at hr
    rcases hr with rfl|rfl|rfl
    ·exact r3 _ _ e1
    ·exact r4 _ _ _ (r3 _ _ e1) e2
    ·exact r3 _ _ e2
   ·cases hr
 ·unfold m13
  split
  ·unfold Rising;simp[cA]
  ·split
   ·unfold Rising;simp[cA]
   ·exact Rising.nil
end Go.Proofs.YteldpmgepfaiiaaGreatDoor
namespace Go.Proofs.YteldpmgepfaiiaaGreatDoor
open Go.RowKit
attribute [local go_sem] aH aV cH
theorem Conc.call {x:Pgm}{M:List UInt8->List (List Int)}(h:Conc x M)(hx:PgmOk x)(hd:∀d,d∈x.doms->d.size<=256)(hle:∀n,(M n).length<=16384)(oL:Own)(t:St) :
  SRet Tryz.prog 14 [.agg (pgC x),.lst [] oL] t (.tup [.lst (x.decls.map fun d=>aX ⟨d.name,M d.name⟩) .no,.int .i64 0]) t:=by
 refine SCalls.mono (rW x [] oL hx hd (by simp) (fun t ht=>by cases ht) t) ?_
 rintro w u ⟨q,rfl,rfl,hp⟩
 rcases h.eval hp with ⟨h1,h2,_⟩|⟨_,_,n,h3⟩
 ·rw[h1,h2,List.map_map]
  exact⟨rfl,rfl⟩
 ·have:=hle n
  omega
theorem uC {r:List Int}{o:Own}:WkL [.lst (aB r) o] [ca r]:=.lst _ _ .nil
theorem sK:iv [[1,2],[1,3],[2,3]]:=⟨by decide,fun r hr=>by simp only[F_,List.not_mem_nil,or_false]at hr;rcases hr with rfl|rfl|rfl<;>decide⟩
set_option maxHeartbeats 4000000 in
theorem gq (s:St):SRet Tryz.prog 12 [] s (.bool true) s:=by
 have p1:=fun s=>Ct [100,111,109,32,86,32,52,46,32,114,101,108,32,101,40,86,44,86,41,46,32,114,101,108,32,112,40,86,44,86,41,46,32,101,40,49,44,50,41,46,32,101,40,50,44,51,41,46,32,112,40,120,44,121,41,58,45,101,40,120,44,121,41,46,32,112,40,120,44,122,41,58,45,112,40,120,44,121,41,44,101,40,121,44,122,41,46] (by decide) w13 w13T s
 have p2:=fun o s=>w13c.call JP (by intro d hd;simp[w13]at hd;subst hd;decide) (fun n=>by unfold m13;split;decide;split;decide;decide) o s
 have p3:∀s,SRet Tryz.prog 22 [.lst (aF [[1,2],[1,3],[2,3]]) .no,.lst [[.lst (aB [1,2]) .full],[.lst (aB [1,3]) .full],[.lst (aB [2,3]) .full]] .full] s (.bool true) s:=fun s=>by
  have h:=oZ [[1,2],[1,3],[2,3]] [[1,2],[1,3],[2,3]] .no .full sK sK s
  simp only[decide_true]at h
  exact SCalls.wk h rfl (fun j x y hx hy=>by
  match j with
  |0=>simp at hx hy;subst hx;subst hy;exact Wk.refl _
  |1=>
   simp at hx hy;subst hx;subst hy
   refine Wk.rows rfl fun i x' hi=>?_
   match i with
   |0=>simp[aF]at hi;subst hi;exact⟨_,rfl,uC⟩
   |1=>simp[aF]at hi;subst hi;exact⟨_,rfl,uC⟩
   |2=>simp[aF]at hi;subst hi;exact⟨_,rfl,uC⟩
   |i+3=>simp[aF]at hi
  |j+2=>simp at hx)
 have hL:(w13.decls.map fun d=>aX ⟨d.name,m13 d.name⟩)=[[.str [101],.lst (aF [[1,2],[2,3]]) .no],[.str [112],.lst (aF [[1,2],[1,3],[2,3]]) .no]]:=rfl
 rw[hL]at p2
 simp only[pgC,aB,List.map_cons,List.map_nil,decide_true]at p1 p2 p3
 generalize w13.doms.map dmC=x1 at p1 p2
 generalize w13.decls.map az=x2 at p1 p2
 generalize w13.rules.map ax=x3 at p1 p2
 generalize aF [[1,2],[1,3],[2,3]]=R2 at p2 p3
 refine aw Tryz.func12 rfl Tryz.ntmps12 rfl fun Q hQ hQe=>?_
 (repeat'(first|refine Ctl ?_|((with_reducible refine j_ hK ?_);clear hK hE K E)|((first|(with_reducible first|refine ae fun K E hK hE=>?_|refine ak ML (p1 _) ?_|refine ak tW (p2 _ _) ?_|refine ak Fu (p3 _) ?_)|((with_reducible refine ao (fun b hb=>?_))))<;>(try simp(disch:=omega) only[go_sem,seval,List.append_eq, *]))))
 all_goals(refine ap Fb hQ ?_)
 all_goals(refine⟨_,_,Wk.of_eq ?_,?_,rfl,rfl⟩)
 all_goals first|rfl|(exact bC)
end Go.Proofs.YteldpmgepfaiiaaGreatDoor
