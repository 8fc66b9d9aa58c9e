/- Walks of functions, and plain facts. Conditions: those in the statements. -/
import Derived.Test.YteldpmgepfaiiaaGreatDoorQsUqj
set_option linter.unusedSimpArgs false
set_option linter.unusedVariables false
set_option maxRecDepth 100000
namespace Go.Proofs.YteldpmgepfaiiaaGreatDoor
open Go.RowKit
def atA (vs:List (List UInt8)):List (List UInt8×Int):=dO (fun v:List UInt8=>v) (fun i _=>(i:Int)) 0 vs
theorem JB {vs:List (List UInt8)}(n:List UInt8):lkA n (atA vs)=Option.map (fun i:Nat=>(i:Int)) (ixT n vs):=by
 unfold atA
 rw[jw,List.map_id']
 cases h:ixT n vs with
 |none=>rfl
 |some j=>simp[cI h]
theorem Eq {vs:List (List UInt8)}{n:List UInt8}(h:ixT n vs=none):ptA n (vs.length:Int) (atA vs)=atA (vs++[n]):=by
 have hn:n∉vs:=eN.1 h
 unfold atA
 rw[mM (by rw[iV,List.map_id'];exact hn)]
 have:∀(i:Nat) (l:List (List UInt8)),dO (fun v:List UInt8=>v) (fun i _=>((i:Nat):Int)) i (l++[n])=dO (fun v:List UInt8=>v) (fun i _=>((i:Nat):Int)) i l++[(n,((i+l.length:Nat):Int))]:=by
  intro i l
  induction l generalizing i with
  |nil=>rfl
  |cons a l ih=>
   simp only[List.cons_append,dO,ih (i+1),List.length_cons]
   rw[show i+1+l.length=i+(l.length+1) by omega]
 rw[this 0 vs,Nat.zero_add]
abbrev qM:List (Nat×TypeId×Nat):=[(0,9,1),(1,9,1)]
def Scm (t:St)(xb bm:Nat)(X:Scp):St:=(t.set bm (.map (mpV bL (atA X.vs)))).set xb (.pk 147 [.lst (aA X.vs) .no,.lst (aA X.ds) .no,.mp bm] qM)
def WfS (X:Scp):Prop:=X.ds.length=X.vs.length
section
variable {t : St} {xb bm b : Nat} {X : Scp}
theorem rO:(Scm t xb bm X) xb=.pk 147 [.lst (aA X.vs) .no,.lst (aA X.ds) .no,.mp bm] qM:=q_ _ _ _
theorem CE (h:¬ bm=xb):(Scm t xb bm X) bm=.map (mpV bL (atA X.vs)):=by unfold Scm;rw[k_ _ _ h,q_]
theorem rN (h:¬ b=xb)(h2:¬ b=bm):(Scm t xb bm X) b=t b:=by unfold Scm;rw[k_ _ _ h,k_ _ _ h2]
theorem xW {c:Cell}(h:¬ b=xb)(h2:¬ b=bm):(Scm t xb bm X).set b c=Scm (t.set b c) xb bm X:=by
 funext x
 simp only[Scm,St.set]
 by_cases h3:x=b
 ·subst h3;simp[h,h2]
 ·simp[h3]
theorem uk:((Scm t xb bm X) b=.free)=(¬ b=xb/\¬ xb=b/\¬ b=bm/\¬ bm=b/\t b=.free):=by
 apply propext
 unfold Scm
 simp only[St.set]
 by_cases h1:b=xb
 ·simp[h1]
 ·have h1':¬ xb=b:=fun e=>h1 e.symm
  by_cases h2:b=bm
  ·subst h2;simp[h1,h1']
  ·have h2':¬ bm=b:=fun e=>h2 e.symm
   simp[h1,h2,h1',h2']
theorem Fg.scm {t':St}(h:Fg t t'):Fg (Scm t xb bm X) (Scm t' xb bm X):=Fg.set (Fg.set h _ _) _ _
end
theorem mb {dz:List UInt8->Int}{X:Scp}{n:List UInt8}{k:Int}{d:List UInt8}:ep dz X ⟨false,n,k⟩ d=if dz d<=k then .error 123 else .ok X:=by simp[ep]
theorem pz {dz:List UInt8->Int}{X:Scp}{n:List UInt8}{k:Int}{d:List UInt8}(h:ixT n X.vs=none):ep dz X ⟨true,n,k⟩ d=.ok ⟨X.vs++[n],X.ds++[d]⟩:=by simp[ep,h]
theorem py {dz:List UInt8->Int}{X:Scp}{n:List UInt8}{k:Int}{d:List UInt8}{i:Nat}(h:ixT n X.vs=some i):ep dz X ⟨true,n,k⟩ d=if X.ds[i]?=some d then .ok X else .error 124:=by simp[ep,h]
def AtQ (t:St)(xb bm:Nat)(r:Except Int Scp):SEnd->St->Prop:=fun w u=>
 match r with
 |.ok Y=>w=.ret (.int .i64 0)/\u=Scm t xb bm Y/\WfS Y
 |.error e=>w=.ret (.int .i64 e)/\e≠0/\∃Y,u=Scm t xb bm Y
theorem yC {dz:List UInt8->Int}{X:Scp}{a:Trm}{d:List UInt8}{e:Int}(h:ep dz X a d=.error e):e≠0:=by
 unfold ep at h
 split at h
 ·split at h
  ·injection h with h;subst h;decide
  ·cases h
 ·split at h
  ·cases h
  ·split at h
   ·cases h
   ·injection h with h;subst h;decide
attribute [local go_sem] rO CE rN xW uk dA bD
theorem CD {B:St}{xb bm:Nat}{vs ds:List (List UInt8)}{p1 p2:Own}{M:Cell}(n1:ay p1 xb)(n2:ay p2 xb)(m1:ay p1 bm)(m2:ay p2 bm)(h1:OwnOk B p1 vs.length)(h2:OwnOk (B.own p1 9 1 vs.length) p2 ds.length) :
  GS ((((B.own p1 9 1 vs.length).own p2 9 1 ds.length).set bm M).set xb (.pk 147 [.lst (aA vs) p1,.lst (aA ds) p2,.mp bm] [])) ((B.set bm M).set xb (.pk 147 [.lst (aA vs) .no,.lst (aA ds) .no,.mp bm] qM)):=by
 have l1:(aA vs).length=vs.length:=by simp[aA]
 have l2:(aA ds).length=ds.length:=by simp[aA]
 have g1:=GS.pack (i:=1) (l:=aA ds) (o:=p2) (T':=9) (sz:=1) (rs':=[(1,9,1)]) (q_ (((B.own p1 9 1 vs.length).own p2 9 1 ds.length).set bm M) xb (.pk 147 [.lst (aA vs) p1,.lst (aA ds) p2,.mp bm] [])) rfl (by rw[eX n2,eX m2,l2,gL h2];trivial) (by simp)
 rw[aQ n2,aQ m2,aS h2,St.set_set]at g1
 have g2:=GS.pack (i:=0) (l:=aA vs) (o:=p1) (T':=9) (sz:=1) (rs':=qM) (q_ ((B.own p1 9 1 vs.length).set bm M) xb (.pk 147 [.lst (aA vs) p1,.lst (aA ds) .no,.mp bm] [(1,9,1)])) rfl (by rw[eX n1,eX m1,l1,gL h1];trivial) (by simp)
 rw[aQ n1,aQ m1,aS h1,St.set_set]at g2
 exact g1.trans g2
set_option maxHeartbeats 8000000 in
theorem xX (t:St)(p b1 b2 xb bm:Nat)(x:Pgm)(X:Scp)(a:Atm)(o0:Own)(hp:PrAt t p b1 b2 x)(hxb:t xb=.free)(hbm:t bm=.free)(hne:¬ bm=xb)(hW:WfS X)(ha:a.ts.length<=100000)(hX:X.vs.length<=10000000) :
  SCalls Tryz.prog 109 [.ptr p 0,.ptr xb 0,.agg [.bool a.not,.str a.rel,.lst (a.ts.map aC) o0]] (Scm t xb bm X) (AtQ t xb bm (bU x X a)):=by
 obtain⟨an,ar,ats⟩:=a
 obtain⟨xds,xcs,xrs⟩:=x
 obtain⟨hp0,h10,h20⟩:=hp
 simp only at ha hp0 h10 h20
 have hpf:t p≠.free:=by rw[hp0];simp
 have h1f:t b1≠.free:=by rw[h10];simp
 have h2f:t b2≠.free:=by rw[h20];simp
 obtain⟨q1,q2⟩:=nef hxb hpf
 obtain⟨q3,q4⟩:=nef hxb h1f
 obtain⟨q5,q6⟩:=nef hxb h2f
 obtain⟨q7,q8⟩:=nef hbm hpf
 obtain⟨q9,q10⟩:=nef hbm h1f
 obtain⟨q11,q12⟩:=nef hbm h2f
 have hne2:¬ xb=bm:=fun e=>hne e.symm
 have hrl:=j6 (cs:=xcs) ar
 generalize hR:bU ⟨xds,xcs,xrs⟩ X ⟨an,ar,ats⟩=R
 unfold bU at hR
 simp only at hR
 cases hk:cO xcs ar with
 |none=>
  rw[hk]at hR hrl
  simp only[Option.map_none]at hR hrl
  subst hR
  refine aw Tryz.func109 rfl Tryz.ntmps109 rfl fun Q hQ hQe=>?_
  (repeat'(first|refine Ctl ?_|(with_reducible first|(refine j_ hK ?_;clear hK hE K E)|(refine j_ hKh ?_;clear hKh Kh)|refine aq 1 [] [0,1,2,3,4,5,6,7,8,9,10,11] hQe fun K E hK hE=>?_)|((with_reducible refine aj (fun h=>?_) (fun h=>?_))<;>(try(exfalso;assumption)))|((first|(with_reducible first|refine ae fun K E hK hE=>?_|refine aD fun Kh hKh=>?_)|((with_reducible refine ao (fun b hb=>?_));(repeat(obtain⟨_,hb⟩:=hb));(try(obtain⟨_,_⟩:=nef hb hpf;obtain⟨_,_⟩:=nef hb h1f;obtain⟨_,_⟩:=nef hb h2f))))<;>(try simp(disch:=first|assumption|omega) only[go_sem,seval,Option.getD_none,Option.isSome_none, *]))))
  all_goals(refine ap lz hQ ?_)
  exact⟨_,Scm t xb bm X,Wk.refl _,(bC:Fg _ _),rfl,by decide,X,rfl⟩
 |some k=>
  rw[hk]at hR hrl
  simp only[Option.map_some]at hR hrl
  obtain⟨dc,hdc,_⟩:∃dc,xcs[k]?=some dc/\True:=by
   have:=cI hk
   rw[c_]at this
   obtain⟨dc,h,_⟩:=Option.map_eq_some_iff.1 this
   exact⟨dc,h,trivial⟩
  rw[hdc]at hR
  simp only at hR
  have hkl:=(n_.1 hdc).1
  have hsd:=dp hdc
  obtain⟨dn,dd⟩:=dc
  simp only at hR
  have hsl:(aA dd).length=dd.length:=by simp[aA]
  clear hk hdc
  by_cases hlen:ats.length=dd.length
  ·rw[if_neg (by simpa using hlen)]at hR
   have hli:((ats.length:Int)=(dd.length:Int))=True:=eq_true (by omega)
   refine aw Tryz.func109 rfl Tryz.ntmps109 rfl fun Q hQ hQe=>?_
   (repeat'(first|refine Ctl ?_|(with_reducible first|(refine j_ hK ?_;clear hK hE K E)|(refine j_ hKh ?_;clear hKh Kh)|refine aq 1 [] [0,1,2,3,4,5,6,7,8,9,10,11] hQe fun K E hK hE=>?_)|((with_reducible refine aj (fun h=>?_) (fun h=>?_))<;>(try(exfalso;assumption)))|((first|(with_reducible first|refine ae fun K E hK hE=>?_|refine aD fun Kh hKh=>?_)|((with_reducible refine ao (fun b hb=>?_));(repeat(obtain⟨_,hb⟩:=hb));(try(obtain⟨_,_⟩:=nef hb hpf;obtain⟨_,_⟩:=nef hb h1f;obtain⟨_,_⟩:=nef hb h2f))))<;>(try simp(disch:=first|assumption|omega) only[go_sem,seval,az,a_,Option.getD_some,Option.isSome_some, *]))))
   have hp1:(t.set b (.obj 40 [.bool an,.str ar,.lst (ats.map aC) o0])) p=.obj 183 [.lst (xds.map dmC) .no,.lst (xcs.map az) .no,.lst (xrs.map ax) .no,.mp b1,.mp b2]:=by rw[k_ _ _ (‹_›)];exact hp0
   have h11:(t.set b (.obj 40 [.bool an,.str ar,.lst (ats.map aC) o0])) b1=.map (mpV bL (szA xds)):=by rw[k_ _ _ (‹_›)];exact h10
   have h21:(t.set b (.obj 40 [.bool an,.str ar,.lst (ats.map aC) o0])) b2=.map (mpV bL (rlA xcs)):=by rw[k_ _ _ (‹_›)];exact h20
   have ha1:(t.set b (.obj 40 [.bool an,.str ar,.lst (ats.map aC) o0])) b=.obj 40 [.bool an,.str ar,.lst (ats.map aC) o0]:=q_ _ _ _
   have hxb1:(t.set b (.obj 40 [.bool an,.str ar,.lst (ats.map aC) o0])) xb=.free:=by rw[k_ _ _ (‹_›)];exact hxb
   have hbm1:(t.set b (.obj 40 [.bool an,.str ar,.lst (ats.map aC) o0])) bm=.free:=by rw[k_ _ _ (‹_›)];exact hbm
   have hF0:Fg (t.set b (.obj 40 [.bool an,.str ar,.lst (ats.map aC) o0])) t:=v_ _ hb
   generalize t.set b (.obj 40 [.bool an,.str ar,.lst (ats.map aC) o0])=B at *
   have HF:=u_ hF0
   clear hp0 h10 h20 hpf h1f h2f hxb hbm hb hF0 hrl hsd hkl hli
   have hpf:B p≠.free:=by rw[hp1];simp
   have h1f:B b1≠.free:=by rw[h11];simp
   have h2f:B b2≠.free:=by rw[h21];simp
   have haf:B b≠.free:=by rw[ha1];simp
   obtain⟨bA,hbA⟩:∃z,z=b:=⟨_,rfl⟩
   subst hbA
   refine ef (fun m env s'=>∃(i:Nat) (Y:Scp),i<=ats.length/\m+i=ats.length/\(WfS Y/\Y.vs.length<=X.vs.length+i/\c5 (da xds) Y (ats.drop i) (dd.drop i)=R)/\s'=Scm B xb bm Y /\
    env 0=.ptr p 0/\env 1=.ptr xb 0/\env 5=.ptr bA 0/\env 9=.lst (aA dd) .no/\env 42=.lst (ats.map aC) o0/\env 43=.int .i64 ats.length/\env 44=.int .i64 i) ats.length ?_ ?_
   ·exact⟨_,GS.refl _,0,X,by omega,by omega,⟨hW,by omega,hR⟩,rfl,ab,ab,ab,ab,ab,ab,ab⟩
   ·clear hW hR
    rintro m env s' ⟨i,Y,hi,hm,⟨hWY,hYl,hRY⟩,rfl,e0,e1,e5,e9,e42,e43,e44⟩
    by_cases hlt:i<ats.length
    ·obtain⟨c,hc⟩:=aN hlt
     obtain⟨d,hd⟩:=aN (l:=dd) (i:=i) (by omega)
     have hsx:=dl hc
     have hsy:=dm hd
     have hlk:=qG (ds:=xds) d
     rw[g_ hlt,g_ (l:=dd) (by omega),show ats[i]=c by rw[b_ hlt]at hc;injection hc,show dd[i]'(by omega)=d by rw[b_ (by omega)]at hd;injection hd]at hRY
     simp only[c5]at hRY
     have HRY:=u_ hRY
     clear hc hd hRY
     obtain⟨cv,cn,cz⟩:=c
     have hat:=JB (vs:=Y.vs) cn
     cases cv
     ·rw[mb]at HRY
      clear hat
      by_cases hz:da xds d<=cz
      ·rw[if_pos hz]at HRY
       (repeat'(first|refine Ctl ?_|(with_reducible first|(refine j_ hK ?_;clear hK hE K E)|(refine j_ hKh ?_;clear hKh Kh)|refine aq 10 [] [0,1,2,3,4,5,6,7,8,9,10,11] hQe fun K E hK hE=>?_|refine aq 11 [] [0,1,2,3,4,5,6,7,8,9,10,11,12,13,14,15,16,17] hQe fun K E hK hE=>?_)|((with_reducible refine aj (fun h=>?_) (fun h=>?_))<;>(try(exfalso;first|assumption|omega)))|((first|(with_reducible first|refine ae fun K E hK hE=>?_|refine aD fun Kh hKh=>?_)|((with_reducible refine ao (fun b hb=>?_));(repeat(obtain⟨_,hb⟩:=hb));(try(obtain⟨_,_⟩:=nef hb hpf;obtain⟨_,_⟩:=nef hb h1f;obtain⟨_,_⟩:=nef hb h2f;obtain⟨_,_⟩:=nef hb haf))))<;>(try simp(disch:=first|assumption|omega) only[go_sem,seval,aC, *]))))
       all_goals(refine ap lz hQ ?_)
       rw[<- show _=R from HRY]
       exact⟨_,Scm t xb bm Y,Wk.refl _,Fg.scm ((v_ _ hb).trans HF.out),rfl,by decide,Y,rfl⟩
      ·rw[if_neg hz]at HRY
       (repeat'(first|refine Ctl ?_|(with_reducible first|(refine j_ hK ?_;clear hK hE K E)|(refine j_ hKh ?_;clear hKh Kh)|refine aq 10 [] [0,1,2,3,4,5,6,7,8,9,10,11] hQe fun K E hK hE=>?_|refine aq 11 [] [0,1,2,3,4,5,6,7,8,9,10,11,12,13,14,15,16,17] hQe fun K E hK hE=>?_)|((with_reducible refine aj (fun h=>?_) (fun h=>?_))<;>(try(exfalso;first|assumption|omega)))|((first|(with_reducible first|refine ae fun K E hK hE=>?_|refine aD fun Kh hKh=>?_)|((with_reducible refine ao (fun b hb=>?_));(repeat(obtain⟨_,hb⟩:=hb));(try(obtain⟨_,_⟩:=nef hb hpf;obtain⟨_,_⟩:=nef hb h1f;obtain⟨_,_⟩:=nef hb h2f;obtain⟨_,_⟩:=nef hb haf))))<;>(try simp(disch:=first|assumption|omega) only[go_sem,seval,aC, *]))))
       exact⟨Scm B xb bm Y,GS.of_fg (Fg.scm (v_ _ hb)),m - 1,by omega,i+1,Y,by omega,by omega,⟨hWY,by omega,HRY.out⟩,rfl,ab,ab,ab,ab,ab,ab,ab⟩
     ·cases hix:ixT cn Y.vs with
      |some v=>
       rw[hix]at hat
       simp only[Option.map_some]at hat
       have hvl:v<Y.vs.length:=(n_.1 (cI hix)).1
       obtain⟨dv,hdv⟩:=aN (l:=Y.ds) (i:=v) (by rw[hWY];exact hvl)
       have hsv:=dm hdv
       rw[py hix,hdv]at HRY
       by_cases hdd:dv=d
       ·rw[if_pos (by rw[hdd])]at HRY
        subst hdd
        clear hix hdv
        (repeat'(first|refine Ctl ?_|(with_reducible first|(refine j_ hK ?_;clear hK hE K E)|(refine j_ hKh ?_;clear hKh Kh)|refine aq 10 [] [0,1,2,3,4,5,6,7,8,9,10,11] hQe fun K E hK hE=>?_|refine aq 11 [] [0,1,2,3,4,5,6,7,8,9,10,11,12,13,14,15,16,17] hQe fun K E hK hE=>?_|refine aq 18 [] [0,1,2,3,4,5,6,7,8,9,10,11,12] hQe fun K E hK hE=>?_)|((with_reducible refine aj (fun h=>?_) (fun h=>?_))<;>(try(exfalso;first|assumption|omega)))|((first|(with_reducible first|refine ae fun K E hK hE=>?_|refine aD fun Kh hKh=>?_)|((with_reducible refine ao (fun b hb=>?_));(repeat(obtain⟨_,hb⟩:=hb));(try(obtain⟨_,_⟩:=nef hb hpf;obtain⟨_,_⟩:=nef hb h1f;obtain⟨_,_⟩:=nef hb h2f;obtain⟨_,_⟩:=nef hb haf))))<;>(try simp(disch:=first|assumption|omega) only[go_sem,seval,aC,Option.getD_some,Option.isSome_some, *]))))
        exact⟨Scm B xb bm Y,GS.of_fg (Fg.scm (v_ _ hb)),m - 1,by omega,i+1,Y,by omega,by omega,⟨hWY,by omega,HRY.out⟩,rfl,ab,ab,ab,ab,ab,ab,ab⟩
       ·rw[if_neg (by simpa using hdd)]at HRY
        clear hix hdv
        (repeat'(first|refine Ctl ?_|(with_reducible first|(refine j_ hK ?_;clear hK hE K E)|(refine j_ hKh ?_;clear hKh Kh)|refine aq 10 [] [0,1,2,3,4,5,6,7,8,9,10,11] hQe fun K E hK hE=>?_|refine aq 11 [] [0,1,2,3,4,5,6,7,8,9,10,11,12,13,14,15,16,17] hQe fun K E hK hE=>?_|refine aq 18 [] [0,1,2,3,4,5,6,7,8,9,10,11,12] hQe fun K E hK hE=>?_)|((with_reducible refine aj (fun h=>?_) (fun h=>?_))<;>(try(exfalso;first|assumption|omega)))|((first|(with_reducible first|refine ae fun K E hK hE=>?_|refine aD fun Kh hKh=>?_)|((with_reducible refine ao (fun b hb=>?_));(repeat(obtain⟨_,hb⟩:=hb));(try(obtain⟨_,_⟩:=nef hb hpf;obtain⟨_,_⟩:=nef hb h1f;obtain⟨_,_⟩:=nef hb h2f;obtain⟨_,_⟩:=nef hb haf))))<;>(try simp(disch:=first|assumption|omega) only[go_sem,seval,aC,Option.getD_some,Option.isSome_some, *]))))
        all_goals(refine ap lz hQ ?_)
        rw[<- show _=R from HRY]
        exact⟨_,Scm t xb bm Y,Wk.refl _,Fg.scm ((v_ _ hb).trans HF.out),rfl,by decide,Y,rfl⟩
      |none=>
       rw[hix]at hat
       simp only[Option.map_none]at hat
       rw[pz hix]at HRY
       have hpt:=Eq hix
       have hcl:(aA Y.vs).length=Y.vs.length:=by simp[aA]
       have hcd:(aA Y.ds).length=Y.vs.length:=by simp only[aA,a_];exact hWY
       refine lj xb 0 (T':=9) (sz:=1) [(1,9,1)] rO rfl (by simp) (by simp) ?_
       intro o1 hO1 hn1
       refine lj xb 1 (T':=9) (sz:=1) [] (q_ _ _ _) rfl (by simp) (by simp) ?_
       intro o2 hO2 hn2
       simp only[List.set,hcl,hcd]at hO1 hO2 ⊢
       unfold Scm at hO1 hO2 ⊢
       rw[aZ hn1,St.set_set]at hO2 ⊢
       rw[aZ hn2,St.set_set]
       simp only[dw,cB]at hO1
       rw[dw]at hO2
       obtain⟨_,hn1m,hO1⟩:=hO1
       obtain⟨_,hO2⟩:=hO2
       rw[aZ hn1m]at hO2 ⊢
       rw[cB]at hO2
       obtain⟨hn2m,hO2⟩:=hO2
       rw[aZ hn2m]
       have hO2B:OwnOk B o2 Y.vs.length:=gK hO2
       have hp2:=hO1.not hpf
       have hp3:=hO1.not h1f
       have hp4:=hO1.not h2f
       have hp5:=hO1.not haf
       have hr2:=hO2B.not hpf
       have hr3:=hO2B.not h1f
       have hr4:=hO2B.not h2f
       have hr5:=hO2B.not haf
       have hvb:Y.vs.length<=20000000:=by omega
       have HPT:=u_ hpt
       clear hix hpt
       (repeat'(first|refine Ctl ?_|(with_reducible first|(refine j_ hK ?_;clear hK hE K E)|(refine j_ hKh ?_;clear hKh Kh)|(refine j_ hKb (aL ?_);clear hKb Kb)|refine aq 10 [] [0,1,2,3,4,5,6,7,8,9,10,11] hQe fun K E hK hE=>?_|refine aq 11 [] [0,1,2,3,4,5,6,7,8,9,10,11,12,13,14,15,16,17] hQe fun K E hK hE=>?_|refine aq 15 [([0,1,2,3,4,5,6,7,8,9,10],11,[[]])] [] hQe fun K E hK hE=>?_|refine aq 16 [([0,1,2,3,4,5,6,7],8,[[0]]),([9,10],11,[[],[]])] [] hQe fun K E hK hE=>?_|refine aq 17 [([0,1,2,3,4,5,6,7,8,9],10,[[0]]),([11,12],13,[[],[]])] [] hQe fun K E hK hE=>?_)|((with_reducible refine aj (fun h=>?_) (fun h=>?_))<;>(try(exfalso;first|assumption|omega)))|((first|(with_reducible first|refine ae fun K E hK hE=>?_|refine aE fun Kh hKh=>?_|refine aD fun Kh hKh=>?_|refine aM fun Kb hKb=>?_)|((with_reducible refine ao (fun b hb=>?_));(repeat(obtain⟨_,hb⟩:=hb));(try(try(simp only[aR]at hb;obtain⟨hob2,hob1,hb⟩:=hb))))|((with_reducible refine cq (fun o2 ho=>?_));(try simp(disch:=assumption) only[cB,hcl,hcd,bD,dw,cB]at ho);(repeat(obtain⟨_,ho⟩:=ho))))<;>(try simp(disch:=first|assumption|omega) only[go_sem,seval,aC,Option.getD_none,Option.isSome_none,bD, *]))))
       rename_i p1 u1 u2 u3 hp1o v1 v2 v3
       have hvs:Y.ds.length=Y.vs.length:=hWY
       have hpk:=CD (B:=B) (xb:=xb) (bm:=bm) (vs:=Y.vs++[cn]) (ds:=Y.ds++[d]) (p1:=p1) (p2:=o2) (M:=.map (mpV bL (ptA cn (Y.vs.length:Int) (atA Y.vs)))) u2 v2 u3 v3
        (by rw[d_];exact gK hp1o) (by rw[d_,d_,hvs];exact ho)
       have e1:aA (Y.vs++[cn])=aA Y.vs++[[VV.str cn]]:=by simp[aA]
       have e2:aA (Y.ds++[d])=aA Y.ds++[[VV.str d]]:=by simp[aA]
       rw[d_,d_,hvs]at hpk
       have hfr:((((B.own p1 9 1 (Y.vs.length+1)).own o2 9 1 (Y.vs.length+1)).set bm (.map (mpV bL (ptA cn (Y.vs.length:Int) (atA Y.vs))))).set xb (.pk 147 [.lst (aA Y.vs++[[VV.str cn]]) p1,.lst (aA Y.ds++[[VV.str d]]) o2,.mp bm] [])) b=.free:=by
        rw[k_ _ _ (‹_›),k_ _ _ (‹_›),aR]
        exact⟨v1,by rw[aR];exact⟨u1,hb⟩⟩
       refine⟨Scm B xb bm ⟨Y.vs++[cn],Y.ds++[d]⟩,GS.trans (GS.of_fg (v_ _ hfr)) ?_,m - 1,by omega,i+1,⟨Y.vs++[cn],Y.ds++[d]⟩,by omega,by omega,⟨by simp only[WfS,d_,hvs];rfl,by simp only[d_,List.length_cons,List.length_nil];omega,HRY.out⟩,by unfold Scm;rfl,ab,ab,ab,ab,ab,ab,ab⟩
       unfold Scm
       simp only[e1,e2]at hpk ⊢
       rw[<- show ptA cn (Y.vs.length:Int) (atA Y.vs)=_ from HPT]
       exact hpk
    ·have hiL:i=ats.length:=by omega
     rw[hiL,G_]at hRY
     have hRe:R=.ok Y:=by rw[<- hRY];cases dd.drop ats.length<;>rfl
     have HRE:=u_ hRe
     clear hRY hRe
     (repeat'(first|refine Ctl ?_|((with_reducible refine j_ hK ?_);clear hK hE K E)|((with_reducible refine aj (fun h=>?_) (fun h=>?_))<;>(try(exfalso;omega)))|(((with_reducible refine ae fun K E hK hE=>?_))<;>(try simp(disch:=omega) only[go_sem,seval, *]))))
     all_goals(refine ap lz hQ ?_)
     rw[show R=_ from HRE]
     exact⟨_,Scm t xb bm Y,Wk.refl _,Fg.scm HF.out,rfl,rfl,hWY⟩
  ·rw[if_pos (by simpa using hlen)]at hR
   have hli:¬ ((ats.length:Int)=(dd.length:Int)):=by omega
   subst hR
   refine aw Tryz.func109 rfl Tryz.ntmps109 rfl fun Q hQ hQe=>?_
   (repeat'(first|refine Ctl ?_|(with_reducible first|(refine j_ hK ?_;clear hK hE K E)|(refine j_ hKh ?_;clear hKh Kh)|refine aq 1 [] [0,1,2,3,4,5,6,7,8,9,10,11] hQe fun K E hK hE=>?_)|((with_reducible refine aj (fun h=>?_) (fun h=>?_))<;>(try(exfalso;assumption)))|((first|(with_reducible first|refine ae fun K E hK hE=>?_|refine aD fun Kh hKh=>?_)|((with_reducible refine ao (fun b hb=>?_));(repeat(obtain⟨_,hb⟩:=hb));(try(obtain⟨_,_⟩:=nef hb hpf;obtain⟨_,_⟩:=nef hb h1f;obtain⟨_,_⟩:=nef hb h2f))))<;>(try simp(disch:=first|assumption|omega) only[go_sem,seval,az,a_,Option.getD_some,Option.isSome_some, *]))))
   all_goals(refine ap lz hQ ?_)
   exact⟨_,Scm t xb bm X,Wk.refl _,(bC:Fg _ _),rfl,by decide,X,rfl⟩
end Go.Proofs.YteldpmgepfaiiaaGreatDoor
namespace Go.Proofs.YteldpmgepfaiiaaGreatDoor
open Go.RowKit
attribute [local go_sem] rO CE rN xW uk dA bD
theorem Ab {dz:List UInt8->Int}{X Y:Scp}{a:Trm}{d:List UInt8}(h:ep dz X a d=.ok Y)(hW:WfS X):WfS Y/\Y.vs.length<=X.vs.length+1:=by
 unfold ep at h
 split at h
 ·split at h
  ·cases h
  ·injection h with h;subst h;exact⟨hW,by omega⟩
 ·split at h
  ·injection h with h;subst h
   unfold WfS at hW ⊢
   simp only[d_,List.length_cons,List.length_nil,hW]
   exact⟨trivial,by omega⟩
  ·split at h
   ·injection h with h;subst h;exact⟨hW,by omega⟩
   ·cases h
theorem px {dz:List UInt8->Int}:∀(ts:List Trm) (ds:List (List UInt8)) {X Y:Scp},c5 dz X ts ds=.ok Y->WfS X->WfS Y/\Y.vs.length<=X.vs.length+ts.length
 |[],ds,X,Y,h,hW=>by simp only[c5]at h;injection h with h;subst h;exact⟨hW,by omega⟩
 |t::ts,[],X,Y,h,hW=>by simp only[c5]at h;injection h with h;subst h;exact⟨hW,by omega⟩
 |t::ts,d::ds,X,Y,h,hW=>by
  simp only[c5]at h
  cases h1:ep dz X t d with
  |error e=>rw[h1]at h;cases h
  |ok Z=>
   rw[h1,dX]at h
   obtain⟨g1,g2⟩:=Ab h1 hW
   obtain⟨k1,k2⟩:=px ts ds h g1
   exact⟨k1,by simp only[List.length_cons];omega⟩
theorem lc {p:Pgm}{X Y:Scp}{a:Atm}(h:bU p X a=.ok Y)(hW:WfS X):WfS Y/\Y.vs.length<=X.vs.length+a.ts.length:=by
 unfold bU at h
 split at h
 ·cases h
 ·split at h
  ·cases h
  ·split at h
   ·cases h
   ·exact px _ _ h hW
theorem ul (t:St)(p b1 b2 xb bm:Nat)(x:Pgm)(X Y:Scp)(a:Atm)(o0:Own)(hp:PrAt t p b1 b2 x)(hxb:t xb=.free)(hbm:t bm=.free)(hne:¬ bm=xb)(hW:WfS X)(ha:a.ts.length<=100000)(hX:X.vs.length<=10000000)(h:bU x X a=.ok Y) :
  SRet Tryz.prog 109 [.ptr p 0,.ptr xb 0,.agg [.bool a.not,.str a.rel,.lst (a.ts.map aC) o0]] (Scm t xb bm X) (.int .i64 0) (Scm t xb bm Y):=by
 have:=xX t p b1 b2 xb bm x X a o0 hp hxb hbm hne hW ha hX
 rw[h]at this
 exact this.mono fun w u hq=>⟨hq.1,hq.2.1⟩
theorem um (t:St)(p b1 b2 xb bm:Nat)(x:Pgm)(X:Scp)(e:Int)(a:Atm)(o0:Own)(hp:PrAt t p b1 b2 x)(hxb:t xb=.free)(hbm:t bm=.free)(hne:¬ bm=xb)(hW:WfS X)(ha:a.ts.length<=100000)(hX:X.vs.length<=10000000)(h:bU x X a=.error e) :
  SCalls Tryz.prog 109 [.ptr p 0,.ptr xb 0,.agg [.bool a.not,.str a.rel,.lst (a.ts.map aC) o0]] (Scm t xb bm X) fun w u=>∃Y:Scp,w=.ret (.int .i64 e)/\u=Scm t xb bm Y/\True:=by
 have:=xX t p b1 b2 xb bm x X a o0 hp hxb hbm hne hW ha hX
 rw[h]at this
 exact this.mono fun w u hq=>by obtain⟨h1,_,Y,h2⟩:=hq;exact⟨Y,h1,h2,trivial⟩
theorem fL {p:Pgm}{X:Scp}{a:Atm}{e:Int}(h:bU p X a=.error e):e≠0:=by
 have hts:∀(ts:List Trm) (ds:List (List UInt8)) (X:Scp),c5 (da p.doms) X ts ds=.error e->e≠0:=by
  intro ts
  induction ts with
  |nil=>intro ds X h;simp only[c5]at h;cases h
  |cons t ts ih=>
   intro ds X h
   cases ds with
   |nil=>simp only[c5]at h;cases h
   |cons d ds=>
    simp only[c5]at h
    cases h1:ep (da p.doms) X t d with
    |error e'=>rw[h1]at h;injection h with h;subst h;exact yC h1
    |ok Z=>rw[h1,dX]at h;exact ih _ _ h
 unfold bU at h
 split at h
 ·injection h with h;subst h;decide
 ·split at h
  ·injection h with h;subst h;decide
  ·split at h
   ·injection h with h;subst h;decide
   ·exact hts _ _ _ h
theorem GS.scm0 {T:St}{xb bm:Nat}(h:T xb=.obj 147 [.lst [] .full,.lst [] .full,.mp bm]):GS T (T.set xb (.pk 147 [.lst [] .no,.lst [] .no,.mp bm] qM)):=by
 have hd:∀t:St,t.disown .full=t:=fun _=>rfl
 have g1:=GS.topk h
 have g2:=GS.pack (i:=0) (l:=[]) (o:=.full) (T':=9) (sz:=1) (rs':=[(0,9,1)]) (q_ T xb (.pk 147 [.lst [] .full,.lst [] .full,.mp bm] [])) rfl rfl (by simp)
 rw[hd,St.set_set]at g2
 have g3:=GS.pack (i:=1) (l:=[]) (o:=.full) (T':=9) (sz:=1) (rs':=qM) (q_ T xb (.pk 147 [.lst [] .no,.lst [] .full,.mp bm] [(0,9,1)])) rfl rfl (by simp)
 rw[hd,St.set_set]at g3
 exact g1.trans (g2.trans g3)
theorem zm {l:List Atm}{i:Nat}{a:Atm}(h:l[i]?=some a)(n:List UInt8):c8 (l.take (i+1)) n=(c8 (l.take i) n || (!a.not && a.ts.any fun t=>t.var && decide (t.nm=n))):=by
 unfold c8;rw[bY h,List.any_append];simp
theorem rq {H:List (List UInt8×Bool)}{T:List Trm}{j:Nat}{d:Trm}{B0:List UInt8->Bool}{cn:Bool}(h:∀n,(lkA n H).getD false=(B0 n || (!cn && (T.take j).any fun t=>t.var && decide (t.nm=n))))(hd:T[j]?=some d)(hno:d.var=false\/cn=true) :
  ∀n,(lkA n H).getD false=(B0 n || (!cn && (T.take (j+1)).any fun t=>t.var && decide (t.nm=n))):=by
 intro n
 rw[h n,bY hd,List.any_append]
 rcases hno with e|e
 ·simp[e]
 ·simp[e]
theorem D6 {H:List (List UInt8×Bool)}{T:List Trm}{j:Nat}{dn:List UInt8}{dz:Int}{B0:List UInt8->Bool}(h:∀n,(lkA n H).getD false=(B0 n || (!false && (T.take j).any fun t=>t.var && decide (t.nm=n))))(hd:T[j]?=some ⟨true,dn,dz⟩) :
  ∀n,(lkA n (ptA dn true H)).getD false=(B0 n || (!false && (T.take (j+1)).any fun t=>t.var && decide (t.nm=n))):=by
 intro n
 rw[xo,bY hd,List.any_append]
 by_cases e:n=dn
 ·subst e;simp
 ·rw[if_neg e,h n]
  have e2:¬ dn=n:=fun x=>e x.symm
  simp[e2]
def ScQ (t:St)(r:Except Int Scp):SEnd->St->Prop:=fun w u=>
 match r with
 |.ok Y=>∃xb bm,w=.ret (.tup [.ptr xb 0,.int .i64 0])/\Fg u t/\u xb=.pk 147 [.lst (aA Y.vs) .no,.lst (aA Y.ds) .no,.mp bm] qM
 |.error e=>w=.ret (.tup [.raw (.pointer none),.int .i64 e])/\u=t
theorem GS.scm1 {t:St}{xb bm:Nat}:GS ((t.set bm (.map [])).set xb (.obj 147 [.lst [] .full,.lst [] .full,.mp bm])) (Scm t xb bm ⟨[],[]⟩):=by
 have:=GS.scm0 (T:=(t.set bm (.map [])).set xb (.obj 147 [.lst [] .full,.lst [] .full,.mp bm])) (bm:=bm) (q_ _ _ _)
 rw[St.set_set]at this
 exact this
section
variable (t : St) (p b1 b2 xb bm : Nat) (x : Pgm) (a : Atm) (o0 : Own) (hp : PrAt t p b1 b2 x) (hxb : t xb = .free) (hbm : t bm = .free) (hne : ¬ bm = xb) (ha : a.ts.length <= 100000)
include hp hxb hbm hne ha
theorem zH (Y:Scp)(h:bU x ⟨[],[]⟩ a=.ok Y) :
  SRet Tryz.prog 109 [.ptr p 0,.ptr xb 0,.agg [.bool a.not,.str a.rel,.lst (a.ts.map aC) o0]] ((t.set bm (.map [])).set xb (.obj 147 [.lst [] .full,.lst [] .full,.mp bm])) (.int .i64 0) (Scm t xb bm Y):=
 fun w0 G w vs hS hR=>ul t p b1 b2 xb bm x ⟨[],[]⟩ Y a o0 hp hxb hbm hne rfl ha (by simp) h w0 G w vs (GS.scm1 _ _ _ hS) hR
theorem zI (e:Int)(h:bU x ⟨[],[]⟩ a=.error e) :
  SCalls Tryz.prog 109 [.ptr p 0,.ptr xb 0,.agg [.bool a.not,.str a.rel,.lst (a.ts.map aC) o0]] ((t.set bm (.map [])).set xb (.obj 147 [.lst [] .full,.lst [] .full,.mp bm])) fun w u=>∃Y:Scp,w=.ret (.int .i64 e)/\u=Scm t xb bm Y/\True:=
 fun w0 G w vs hS hR=>um t p b1 b2 xb bm x ⟨[],[]⟩ e a o0 hp hxb hbm hne rfl ha (by simp) h w0 G w vs (GS.scm1 _ _ _ hS) hR
end
theorem qz (l:List Atm)(a:Atm)(o0:Own)(bm:Nat)(mp:List (List UInt8×Bool))(ha:a.ts.length<=140737488355328)(t:St)(hm:t bm=.map (mpV cW mp))(hg:∀n,(lkA n mp).getD false=c8 l n) :
  SRet Tryz.prog 110 [.agg [.bool a.not,.str a.rel,.lst (a.ts.map aC) o0],.mp bm] t (.bool (cM l a)) t:=by
 have:=zD a o0 bm mp ha t hm
 simp only[hg]at this
 exact this
set_option maxHeartbeats 8000000 in
theorem oY (t:St)(p b1 b2:Nat)(x:Pgm)(r:Rul)(hp:PrAt t p b1 b2 x)(hh:r.head.ts.length<=100000)(hb:r.body.length<=10)(hba:∀a,a∈r.body->a.ts.length<=100000) :
  SCalls Tryz.prog 78 [.ptr p 0,.agg (ax r)] t (ScQ t (bJ x r)):=by
 obtain⟨⟨hn,hr,hts⟩,body⟩:=r
 simp only at hh hb hba
 generalize hR:bJ x ⟨⟨hn,hr,hts⟩,body⟩=R
 unfold bJ at hR
 simp only at hR
 have HR:=u_ hR
 clear hR
 have hpp:=hp
 obtain⟨hp0,h10,h20⟩:=hp
 have hpf:t p≠.free:=by rw[hp0];simp
 have h1f:t b1≠.free:=by rw[h10];simp
 have h2f:t b2≠.free:=by rw[h20];simp
 have HP:=u_ hpp
 clear hpp hp0 h10 h20
 have hblen:body.length<=10:=hb
 clear hb
 refine SCalls.gs ?_
 cases hA:bU x ⟨[],[]⟩ ⟨hn,hr,hts⟩with
 |error e=>
  have hen:=fL hA
  have HA:=u_ hA
  rw[hA,jb]at HR
  clear hA
  refine aw Tryz.func78 rfl Tryz.ntmps78 rfl fun Q hQ hQe=>?_
  (repeat'(first|refine Ctl ?_|((with_reducible refine j_ hK ?_);clear hK hE K E)|((with_reducible refine aj (fun h=>?_) (fun h=>?_))<;>(try(exfalso;assumption)))|((first|(with_reducible refine ae fun K E hK hE=>?_)|((with_reducible refine aO rG (zI _ _ b1 b2 _ _ x ⟨hn,hr,hts⟩ _ (HP.out.fg (v_ _ (‹_›))) (by rw[k_ _ _ (‹_›)];assumption) (by rw[k_ _ _ (‹_›)];assumption) (‹_›) hh e HA.out) (fun a h=>?_)))|((with_reducible refine ao (fun b hb=>?_));(repeat(obtain⟨_,hb⟩:=hb));(try(obtain⟨_,_⟩:=nef hb hpf;obtain⟨_,_⟩:=nef hb h1f;obtain⟨_,_⟩:=nef hb h2f))))<;>(try simp(disch:=omega) only[go_sem,seval,ax, *]))))
  all_goals(refine ap pP hQ ?_)
  rw[<- show _=R from HR]
  exact⟨_,t,Wk.refl _,(by unfold Scm;(exact bC):Fg _ _),t,GS.refl _,rfl,rfl⟩
 |ok Y=>
  rw[hA,dX]at HR
  have HA:=u_ hA
  clear hA
  refine aw Tryz.func78 rfl Tryz.ntmps78 rfl fun Q hQ hQe=>?_
  (repeat'(first|refine Ctl ?_|((with_reducible refine j_ hK ?_);clear hK hE K E)|((with_reducible refine aj (fun h=>?_) (fun h=>?_))<;>(try(exfalso;assumption)))|((first|(with_reducible first|refine ae fun K E hK hE=>?_|refine ak rG (zH _ _ b1 b2 _ _ x ⟨hn,hr,hts⟩ _ (HP.out.fg (v_ _ (‹_›))) (by rw[k_ _ _ (‹_›)];assumption) (by rw[k_ _ _ (‹_›)];assumption) (‹_›) hh Y HA.out) ?_)|((with_reducible refine ao (fun b hb=>?_));(repeat(obtain⟨_,hb⟩:=hb));(try(obtain⟨_,_⟩:=nef hb hpf;obtain⟨_,_⟩:=nef hb h1f;obtain⟨_,_⟩:=nef hb h2f))))<;>(try simp(disch:=first|assumption|omega) only[go_sem,seval,ax, *]))))
  rename_i br hbr r1 r2 r3 r4 r5 r6 bm m1 m2 hbm m3 m4 m5 m6 m7 m8 xb x1 x2 x3 x4 hxb x5 x6 x7 x8 x9 x10 y1 y2 y3 y4 y5 y6 y7 y8 y9 y10 y11 y12
  obtain⟨bg,hbg⟩:∃z,z=b:=⟨_,rfl⟩
  subst hbg
  have hWY:=lc HA.out rfl
  simp only[List.length_nil,Nat.zero_add]at hWY
  obtain⟨hWY,hYl⟩:=hWY
  have hPB:PrAt (t.set br (.obj 43 [.bool hn,.str hr,.lst (hts.map aC) .no,.lst (body.map aG) .no])) p b1 b2 x:=HP.out.fg (v_ _ hbr)
  have hBr:(t.set br (.obj 43 [.bool hn,.str hr,.lst (hts.map aC) .no,.lst (body.map aG) .no])) br=.obj 43 [.bool hn,.str hr,.lst (hts.map aC) .no,.lst (body.map aG) .no]:=q_ _ _ _
  have hBx:(t.set br (.obj 43 [.bool hn,.str hr,.lst (hts.map aC) .no,.lst (body.map aG) .no])) xb=.free:=by rw[k_ _ _ (‹_›)];exact hxb
  have hBm:(t.set br (.obj 43 [.bool hn,.str hr,.lst (hts.map aC) .no,.lst (body.map aG) .no])) bm=.free:=by rw[k_ _ _ (‹_›)];exact hbm
  have hBg:(t.set br (.obj 43 [.bool hn,.str hr,.lst (hts.map aC) .no,.lst (body.map aG) .no])) bg=.free:=by rw[k_ _ _ (‹_›)];exact hb
  have hFB:Fg (t.set br (.obj 43 [.bool hn,.str hr,.lst (hts.map aC) .no,.lst (body.map aG) .no])) t:=v_ _ hbr
  generalize t.set br (.obj 43 [.bool hn,.str hr,.lst (hts.map aC) .no,.lst (body.map aG) .no])=B at *
  have HF:=u_ hFB
  have HPB:=u_ hPB
  obtain⟨hPB1,hPB2,hPB3⟩:=hPB
  have hBp:B p≠.free:=by rw[hPB1];simp
  have hB1:B b1≠.free:=by rw[hPB2];simp
  have hB2:B b2≠.free:=by rw[hPB3];simp
  have hBrf:B br≠.free:=by rw[hBr];simp
  clear hFB hPB1 hPB2 hPB3 hbr hxb hbm hb hpf h1f h2f HP HA
  generalize hK:(fun y:Scp=>if (cM body ⟨hn,hr,hts⟩ && body.all (cM body))=false then(Except.error 125:Except Int Scp)else if 8<y.vs.length then .error 2 else .ok y)=KK at HR
  have HK:=u_ hK
  clear hK
  refine ef (fun m env s'=>∃(i:Nat) (Z:Scp) (G:List (List UInt8×Bool)),i<=body.length/\m+i=body.length/\(WfS Z/\Z.vs.length<=100000*(i+1)/\Hid ((∀n,(lkA n G).getD false=c8 (body.take i) n))/\Hid (eb (cL x Z (body.drop i)) KK=R))/\s'=Scm (B.set bg (.map (mpV cW G))) xb bm Z /\
   env 0=.ptr p 0/\env 3=.ptr br 0/\env 6=.ptr xb 0/\env 8=.mp bg/\env 30=.lst (body.map aG) .no/\env 31=.int .i64 body.length/\env 32=.int .i64 i) body.length ?_ ?_
  ·exact⟨_,GS.refl _,0,Y,[],by omega,by omega,⟨hWY,by omega,u_ (fun n=>by simp[lkA,c8]),HR⟩,rfl,ab,ab,ab,ab,ab,ab,ab⟩
  ·clear hWY hYl HR
   rintro m env s' ⟨i,Z,G,hi,hm,⟨hWZ,hZl,HG,HRZ⟩,rfl,e0,e3,e6,e8,e30,e31,e32⟩
   by_cases hlt:i<body.length
   ·obtain⟨c,hc⟩:=aN hlt
    have hct:=hba c (p_ hc)
    have hsx:=cX hc
    have HC:=u_ hc
    have hHR:=HRZ.out
    rw[g_ hlt,show body[i]=c by rw[b_ hlt]at hc;injection hc]at hHR
    simp only[cL]at hHR
    clear hc
    obtain⟨cn,cr,cts⟩:=c
    simp only at hct
    cases hA2:bU x Z ⟨cn,cr,cts⟩with
    |error e=>
     have hen:=fL hA2
     have HA2:=u_ hA2
     rw[hA2,jb,jb]at hHR
     have HE:=u_ hHR
     clear hHR hA2 HRZ
     (repeat'(first|refine Ctl ?_|((with_reducible refine j_ hK ?_);clear hK hE K E)|((with_reducible refine aj (fun h=>?_) (fun h=>?_))<;>(try(exfalso;assumption)))|((first|(with_reducible refine ae fun K E hK hE=>?_)|((with_reducible refine aO rG (um _ p b1 b2 _ _ x Z e ⟨cn,cr,cts⟩ _ ((HPB.out.fg (v_ _ hBg)).fg (v_ _ (by rw[k_ _ _ (‹_›)];assumption))) (by rw[k_ _ _ (‹_›),k_ _ _ (‹_›)];exact hBx) (by rw[k_ _ _ (‹_›),k_ _ _ (‹_›)];exact hBm) (‹_›) hWZ hct (by omega) HA2.out) (fun a h=>?_)))|((with_reducible refine ao (fun b hb=>?_));(repeat(obtain⟨_,hb⟩:=hb));(try(obtain⟨_,_⟩:=nef hb hBp;obtain⟨_,_⟩:=nef hb hB1;obtain⟨_,_⟩:=nef hb hB2;obtain⟨_,_⟩:=nef hb hBrf))))<;>(try simp(disch:=first|assumption|omega) only[go_sem,seval,hsx,aG,a_, *]))))
     all_goals(refine ap pP hQ ?_)
     rw[<- show _=R from HE]
     exact⟨_,t,Wk.refl _,(by unfold Scm;(exact bC):Fg _ B).trans HF.out,t,GS.refl _,rfl,rfl⟩
    |ok W=>
     rw[hA2,dX]at hHR
     have HE:=u_ hHR
     have HA2:=u_ hA2
     clear hHR hA2 HRZ
     (repeat'(first|refine Ctl ?_|((with_reducible refine j_ hK ?_);clear hK hE K E)|((with_reducible refine aj (fun h=>?_) (fun h=>?_))<;>(try(exfalso;assumption)))|((first|(with_reducible first|refine ae fun K E hK hE=>?_|refine ak rG (ul _ p b1 b2 _ _ x Z W ⟨cn,cr,cts⟩ _ ((HPB.out.fg (v_ _ hBg)).fg (v_ _ (by rw[k_ _ _ (‹_›)];assumption))) (by rw[k_ _ _ (‹_›),k_ _ _ (‹_›)];exact hBx) (by rw[k_ _ _ (‹_›),k_ _ _ (‹_›)];exact hBm) (‹_›) hWZ hct (by omega) HA2.out) ?_)|((with_reducible refine ao (fun b hb=>?_));(repeat(obtain⟨_,hb⟩:=hb));(try(obtain⟨_,_⟩:=nef hb hBp;obtain⟨_,_⟩:=nef hb hB1;obtain⟨_,_⟩:=nef hb hB2;obtain⟨_,_⟩:=nef hb hBrf))))<;>(try simp(disch:=first|assumption|omega) only[go_sem,seval,hsx,aG,a_, *]))))
     obtain⟨be,hbe⟩:∃z,z=b:=⟨_,rfl⟩
     subst hbe
     have hWW:=lc HA2.out hWZ
     obtain⟨hWW,hWl⟩:=hWW
     simp only at hWl
     rw[show (B.set bg (.map (mpV cW G))).set be (.obj 40 [.bool cn,.str cr,.lst (cts.map aC) .no])=(B.set be (.obj 40 [.bool cn,.str cr,.lst (cts.map aC) .no])).set bg (.map (mpV cW G)) from cJ (‹_›)]
     have hCe:(B.set be (.obj 40 [.bool cn,.str cr,.lst (cts.map aC) .no])) be=.obj 40 [.bool cn,.str cr,.lst (cts.map aC) .no]:=q_ _ _ _
     have hCr:(B.set be (.obj 40 [.bool cn,.str cr,.lst (cts.map aC) .no])) br=B br:=by rw[k_ _ _ (‹_›)]
     have hCg:(B.set be (.obj 40 [.bool cn,.str cr,.lst (cts.map aC) .no])) bg=.free:=by rw[k_ _ _ (‹_›)];exact hBg
     have hFC:Fg (B.set be (.obj 40 [.bool cn,.str cr,.lst (cts.map aC) .no])) B:=v_ _ hb
     generalize B.set be (.obj 40 [.bool cn,.str cr,.lst (cts.map aC) .no])=C at *
     have HFC:=u_ hFC
     have hCef:C be≠.free:=by rw[hCe];simp
     have hCrf:C br≠.free:=by rw[hCr];exact hBrf
     clear hFC hCr HA2 hb
     refine ef (fun m' env s'=>∃(j:Nat) (H:List (List UInt8×Bool)),j<=cts.length/\m'+j=cts.length/\Hid (∀n,(lkA n H).getD false=(c8 (body.take i) n || (!cn && (cts.take j).any fun t=>t.var && decide (t.nm=n))))/\s'=Scm (C.set bg (.map (mpV cW H))) xb bm W /\
      env 0=.ptr p 0/\env 3=.ptr br 0/\env 6=.ptr xb 0/\env 8=.mp bg/\env 30=.lst (body.map aG) .no/\env 31=.int .i64 body.length/\env 32=.int .i64 i/\env 10=.ptr be 0/\env 44=.lst (cts.map aC) .no/\env 45=.int .i64 cts.length/\env 46=.int .i64 j) cts.length ?_ ?_
     ·exact⟨_,GS.refl _,0,G,by omega,by omega,u_ (fun n=>by rw[HG.out n];simp),rfl,ab,ab,ab,ab,ab,ab,ab,ab,ab,ab,ab⟩
     ·clear e0 e3 e6 e8 e30 e31 e32
      rintro m' env s' ⟨j,H,hj,hm',HH,rfl,e0,e3,e6,e8,e30,e31,e32,e10,e44,e45,e46⟩
      by_cases hlj:j<cts.length
      ·obtain⟨d,hd⟩:=aN hlj
       have hsd:=dl hd
       have HD:=u_ hd
       clear hd
       obtain⟨dv,dn,dz⟩:=d
       cases dv
       all_goals cases cn
       all_goals(repeat'(first|refine Ctl ?_|((with_reducible refine j_ hK ?_);clear hK hE K E)|((with_reducible refine aj (fun h=>?_) (fun h=>?_))<;>(try(exfalso;assumption)))|((first|(with_reducible refine ae fun K E hK hE=>?_)|((with_reducible refine ao (fun b hb=>?_));(repeat(obtain⟨_,hb⟩:=hb));(try(obtain⟨_,_⟩:=nef hb hCef;obtain⟨_,_⟩:=nef hb hCrf))))<;>(try simp(disch:=first|assumption|omega) only[go_sem,seval,hsd,aC,a_, *]))))
       ·exact⟨Scm (C.set bg (.map (mpV cW H))) xb bm W,GS.of_fg (Fg.scm (v_ _ (by rw[k_ _ _ (‹_›)];exact hb))),m' - 1,by omega,j+1,H,by omega,by omega,u_ (rq HH.out HD.out (.inl rfl)),rfl,ab,ab,ab,ab,ab,ab,ab,ab,ab,ab,ab⟩
       ·exact⟨Scm (C.set bg (.map (mpV cW H))) xb bm W,GS.of_fg (Fg.scm (v_ _ (by rw[k_ _ _ (‹_›)];exact hb))),m' - 1,by omega,j+1,H,by omega,by omega,u_ (rq HH.out HD.out (.inr rfl)),rfl,ab,ab,ab,ab,ab,ab,ab,ab,ab,ab,ab⟩
       ·exact⟨Scm (C.set bg (.map (mpV cW (ptA dn true H)))) xb bm W,GS.of_fg (Fg.scm (v_ _ (by rw[k_ _ _ (‹_›)];exact hb))),m' - 1,by omega,j+1,ptA dn true H,by omega,by omega,u_ (D6 HH.out HD.out),rfl,ab,ab,ab,ab,ab,ab,ab,ab,ab,ab,ab⟩
       ·exact⟨Scm (C.set bg (.map (mpV cW H))) xb bm W,GS.of_fg (Fg.scm (v_ _ (by rw[k_ _ _ (‹_›)];exact hb))),m' - 1,by omega,j+1,H,by omega,by omega,u_ (rq HH.out HD.out (.inr rfl)),rfl,ab,ab,ab,ab,ab,ab,ab,ab,ab,ab,ab⟩
      ·(repeat'(first|refine Ctl ?_|((with_reducible refine j_ hK ?_);clear hK hE K E)|((with_reducible refine aj (fun h=>?_) (fun h=>?_))<;>(try(exfalso;assumption)))|(((with_reducible refine ae fun K E hK hE=>?_))<;>(try simp(disch:=omega) only[go_sem,seval,a_, *]))))
       refine⟨Scm (B.set bg (.map (mpV cW H))) xb bm W,GS.of_fg (Fg.scm (Fg.set HFC.out _ _)),m - 1,by omega,i+1,W,H,by omega,by omega,⟨hWW,by omega,u_ (fun n=>?_),HE⟩,rfl,ab,ab,ab,ab,ab,ab,ab⟩
       have:=HH.out n
       rw[show j=cts.length by omega,f_]at this
       rw[this,zm HC.out]
   ·have hiL:i=body.length:=by omega
    have hGb:=HG.out
    rw[hiL,f_]at hGb
    have HGB:=u_ hGb
    have hRf:=HRZ.out
    rw[hiL,G_]at hRf
    simp only[cL,dX]at hRf
    rw[<- HK.out]at hRf
    have HRF:=u_ hRf
    clear hGb hRf HRZ HG HK
    subst hiL
    (repeat'(first|refine Ctl ?_|((with_reducible refine j_ hK ?_);clear hK hE K E)|((with_reducible refine aj (fun h=>?_) (fun h=>?_))<;>(try(exfalso;assumption)))|(((with_reducible first|refine ae fun K E hK hE=>?_|refine ak Cg (qz body ⟨hn,hr,hts⟩ _ bg G (by simp only;omega) _ (by rw[rN (‹_›) (‹_›),q_]) HGB.out) ?_))<;>(try simp(disch:=first|assumption|omega) only[go_sem,seval,a_, *]))))
    have hSx:(Scm (B.set bg (.map (mpV cW G))) xb bm Z) xb=.pk 147 [.lst (aA Z.vs) .no,.lst (aA Z.ds) .no,.mp bm] qM:=rO
    have hSg:(Scm (B.set bg (.map (mpV cW G))) xb bm Z) bg=.map (mpV cW G):=by rw[rN (‹_›) (‹_›),q_]
    have hFS:Fg (Scm (B.set bg (.map (mpV cW G))) xb bm Z) B:=by unfold Scm;(exact bC)
    generalize Scm (B.set bg (.map (mpV cW G))) xb bm Z=S at *
    have HFS:=u_ (hFS.trans HF.out)
    have hSxf:S xb≠.free:=by rw[hSx];simp
    have hSgf:S bg≠.free:=by rw[hSg];simp
    clear hFS
    generalize hwh:cM body ⟨hn,hr,hts⟩=wh at *
    refine ef (fun m env s'=>∃i:Nat,i<=body.length/\m+i=body.length/\s'=S/\env 6=.ptr xb 0/\env 8=.mp bg/\env 14=.bool (wh && (body.take i).all (cM body))/\env 67=.lst (body.map aG) .no/\env 68=.int .i64 body.length/\env 69=.int .i64 i) body.length ?_ ?_
    ·exact⟨S,GS.refl _,0,by omega,by omega,rfl,ab,ab,by simp only[List.take_zero,List.all_nil,Bool.and_true];((try simp(disch:=assumption) only[go_sem,seval, *])<;>rfl),ab,ab,ab⟩
    ·clear e0 e3 e6 e8 e30 e31 e32
     rintro m env s' ⟨i,hi,hm,rfl,e6,e8,e14,e67,e68,e69⟩
     clear hlt
     by_cases hlt:i<body.length
     ·obtain⟨c,hc⟩:=aN hlt
      have hct:=hba c (p_ hc)
      have hsx:=cX hc
      have hnx:(body.take (i+1)).all (cM body)=((body.take i).all (cM body) && cM body c):=by rw[bY hc,List.all_append];simp
      have HNX:=u_ hnx
      clear hc hnx
      generalize hws:(wh && (body.take i).all (cM body))=ws at *
      have HWS:=u_ hws
      obtain⟨cn,cr,cts⟩:=c
      simp only at hct
      clear hws
      cases ws
      ·(repeat'(first|refine Ctl ?_|((with_reducible refine j_ hK ?_);clear hK hE K E)|((with_reducible refine aj (fun h=>?_) (fun h=>?_))<;>(try(exfalso;assumption)))|((first|(with_reducible refine ae fun K E hK hE=>?_)|((with_reducible refine ao (fun b hb=>?_));(try(obtain⟨_,_⟩:=nef hb hSxf;obtain⟨_,_⟩:=nef hb hSgf))))<;>(try simp(disch:=omega) only[go_sem,seval,hsx,aG,a_, *]))))
       exact⟨s',GS.of_fg (v_ _ hb),m - 1,by omega,i+1,by omega,by omega,rfl,ab,ab,by rw[HNX.out,<- Bool.and_assoc,HWS.out];((try simp(disch:=assumption) only[go_sem,seval, *])<;>rfl),ab,ab,ab⟩
      ·(repeat'(first|refine Ctl ?_|((with_reducible refine j_ hK ?_);clear hK hE K E)|((with_reducible refine aj (fun h=>?_) (fun h=>?_))<;>(try(exfalso;assumption)))|((first|(with_reducible first|refine ae fun K E hK hE=>?_|refine ak Cg (qz body ⟨cn,cr,cts⟩ _ bg G (by simp only;omega) _ (by rw[k_ _ _ (‹_›)];exact hSg) HGB.out) ?_)|((with_reducible refine ao (fun b hb=>?_));(try(obtain⟨_,_⟩:=nef hb hSxf;obtain⟨_,_⟩:=nef hb hSgf))))<;>(try simp(disch:=omega) only[go_sem,seval,hsx,aG,a_, *]))))
       exact⟨s',GS.of_fg (v_ _ hb),m - 1,by omega,i+1,by omega,by omega,rfl,ab,ab,by rw[HNX.out,<- Bool.and_assoc,HWS.out,Bool.true_and];((try simp(disch:=assumption) only[go_sem,seval, *])<;>rfl),ab,ab,ab⟩
     ·have hie:i=body.length:=by omega
      rw[hie,f_]at e14
      clear hlt
      have hRf:=HRF.out
      simp only at hRf
      generalize hws:(wh && body.all (cM body))=ws at *
      clear hws HRF
      subst hie
      have hvl:(aA Z.vs).length=Z.vs.length:=by simp[aA]
      cases ws
      ·rw[if_pos rfl]at hRf
       have HRF:=u_ hRf
       clear hRf
       (repeat'(first|refine Ctl ?_|((with_reducible refine j_ hK ?_);clear hK hE K E)|((with_reducible refine aj (fun h=>?_) (fun h=>?_))<;>(try(exfalso;first|assumption|omega)))|(((with_reducible refine ae fun K E hK hE=>?_))<;>(try simp(disch:=omega) only[go_sem,seval,a_, *]))))
       all_goals(refine ap pP hQ ?_)
       rw[<- show _=R from HRF]
       exact⟨_,t,Wk.refl _,HFS.out,t,GS.refl _,rfl,rfl⟩
      ·rw[if_neg (by decide)]at hRf
       by_cases h8:8<Z.vs.length
       ·rw[if_pos h8]at hRf
        have HRF:=u_ hRf
        clear hRf
        (repeat'(first|refine Ctl ?_|((with_reducible refine j_ hK ?_);clear hK hE K E)|((with_reducible refine aj (fun h=>?_) (fun h=>?_))<;>(try(exfalso;first|assumption|omega)))|(((with_reducible refine ae fun K E hK hE=>?_))<;>(try simp(disch:=omega) only[go_sem,seval,a_,hvl, *]))))
        all_goals(refine ap pP hQ ?_)
        rw[<- show _=R from HRF]
        exact⟨_,t,Wk.refl _,HFS.out,t,GS.refl _,rfl,rfl⟩
       ·rw[if_neg h8]at hRf
        have HRF:=u_ hRf
        clear hRf
        (repeat'(first|refine Ctl ?_|((with_reducible refine j_ hK ?_);clear hK hE K E)|((with_reducible refine aj (fun h=>?_) (fun h=>?_))<;>(try(exfalso;first|assumption|omega)))|(((with_reducible refine ae fun K E hK hE=>?_))<;>(try simp(disch:=omega) only[go_sem,seval,a_,hvl, *]))))
        all_goals(refine ap pP hQ ?_)
        rw[<- show _=R from HRF]
        exact⟨_,s',Wk.refl _,Fg.refl _,s',GS.refl _,xb,bm,rfl,HFS.out,hSx⟩
end Go.Proofs.YteldpmgepfaiiaaGreatDoor
namespace Go.Proofs.YteldpmgepfaiiaaGreatDoor
open Go.RowKit
def InU (e:Nat)(L:List Sgn):Prop:=∀y,y∈L->y.at_<=e/\dP y=true
theorem InU.tail {e:Nat}{L:List Sgn}(h:InU e L):InU e L.tail:=fun y hy=>h y (List.mem_of_mem_tail hy)
def PlU {α:Type}(e:Nat)(Ok:α->Prop)(N:Nat):PU α->Prop
 |.ok (a,L)=>Ok a/\InU e L/\L.length<N
 |.error (a,er)=>a<=e/\er≠0
theorem y_ {α β:Type}{e N M:Nat}{Ok:α->Prop}{Ok2:β->Prop}{x:PU α}{k:α->List Sgn->PU β}(h:PlU e Ok N x)(hk:∀a L,Ok a->InU e L->L.length<N->PlU e Ok2 M (k a L)):PlU e Ok2 M (bu x k):=by
 cases x with
 |ok q=>obtain⟨a,L⟩:=q;exact hk a L h.1 h.2.1 h.2.2
 |error q=>exact h
theorem PlU.mono {α:Type}{e N M:Nat}{Ok Ok2:α->Prop}{x:PU α}(h:PlU e Ok N x)(hk:∀a,Ok a->Ok2 a)(hn:N<=M):PlU e Ok2 M x:=by
 cases x with
 |ok q=>obtain⟨a,L⟩:=q;exact⟨hk _ h.1,h.2.1,Nat.lt_of_lt_of_le h.2.2 hn⟩
 |error q=>exact h
theorem pV {e:Nat}{L:List Sgn}(h:InU e L):Bb e L<=e:=by
 cases L with
 |nil=>exact Nat.le_refl _
 |cons x L=>exact(h x (by simp)).1
theorem PlU.must {e:Nat}{L:List Sgn}{t:List UInt8}(h:InU e L):PlU e (fun _=>True) L.length (dR e L t):=by
 unfold dR;split
 ·rename_i hi
  refine⟨trivial,h.tail,?_⟩
  cases L with
  |nil=>simp[isT]at hi
  |cons x L=>simp
 ·exact⟨pV h,by decide⟩
theorem PlU.room {e:Nat}{L:List Sgn}{hv mst:Nat}{b:Bool}(h:InU e L):PlU e (fun _=>mst<=hv->b=false) (L.length+1) (ev e L hv mst b):=by
 unfold ev;split
 ·exact⟨pV h,by decide⟩
 ·rename_i hc
  refine⟨fun hm=>?_,h,by omega⟩
  cases b with
  |false=>rfl
  |true=>exact absurd ⟨hm,rfl⟩ hc
theorem lw {e:Nat}{L L':List Sgn}{hv mst:Nat}{b:Bool}{u:Unit}(h:ev e L hv mst b=.ok (u,L')):L'=L:=by
 unfold ev at h;split at h
 ·cases h
 ·injection h with h;injection h with _ h;exact h.symm
theorem JV {x:Sgn}(h:dP x=true)(k:x.kind=1):di x.text=true:=by
 obtain⟨kd,t,a⟩:=x
 simp only at k
 subst k
 exact h
theorem PlU.name {e:Nat}{L:List Sgn}(h:InU e L):PlU e (fun t=>di t=true/\isT L 0 t=true/\db [1] L=true) L.length (ey e L):=by
 cases L with
 |nil=>exact⟨Nat.le_refl _,by decide⟩
 |cons x L=>
  simp only[ey,kM];split
  ·rename_i hk
   exact⟨⟨JV (h x (by simp)).2 hk,by simp[isT],by simp[db,hk]⟩,fun y hy=>h y (by simp[hy]),by simp⟩
  ·exact⟨(h x (by simp)).1,by decide⟩
theorem JU {x:Sgn}(h:dP x=true)(k:x.kind=2):ra x.text<=9999999999:=by
 obtain⟨kd,t,a⟩:=x
 simp only at k
 subst k
 simp only[dP,Bool.and_eq_true,decide_eq_true_eq]at h
 obtain⟨h1,h2⟩:=h
 cases t with
 |nil=>exact absurd rfl h1
 |cons c r=>
  simp only[bF]at h2
  split at h2
  ·split at h2
   ·simp at h2
   ·rename_i hn
    injection h2 with _ h3
    have hd:=wy (p:=df) (c::r)
    rw[h3,f_]at hd
    obtain⟨n,hn2⟩:=jc (c::r) 0 hd
    have hc:=hd c (by simp)
    have e1:¬ c=45:=by rintro rfl;revert hc;decide
    have e2:¬ c=43:=by rintro rfl;revert hc;decide
    have h4:Lib.atoi (c::r)=some (n:Int):=by simp[Lib.atoi,e1,e2,Lib.decNat,hn2]
    have h5:=Lib.decFrom_lt _ _ _ hn2
    have h6:(10:Nat) ^ (c::r).length<=10 ^ 10:=Nat.pow_le_pow_right (by omega) (by omega)
    simp only[ra,h4,Option.getD_some,Int.toNat_natCast]
    omega
  ·split at h2
   ·split at h2
    ·simp at h2
    ·injection h2 with h2 _;exact absurd h2 (by decide)
   ·injection h2 with h2 _;exact absurd h2 (by decide)
theorem PlU.num {e:Nat}{L:List Sgn}(h:InU e L):PlU e (fun n=>n<=9999999999/\db [1,2] L=true) L.length (qZ e L):=by
 cases L with
 |nil=>exact⟨Nat.le_refl _,by decide⟩
 |cons x L=>
  simp only[qZ,kM];split
  ·rename_i hk
   exact⟨⟨JU (h x (by simp)).2 hk,by simp[db,hk]⟩,fun y hy=>h y (by simp[hy]),by simp⟩
  ·exact⟨(h x (by simp)).1,by decide⟩
theorem I2 {L:List Sgn}(h:db [1] L=true):db [1,2] L=true:=by
 cases L with
 |nil=>cases h
 |cons x L=>simp only[db,List.contains_cons,List.contains_nil,Bool.or_false,Bool.or_eq_true]at h ⊢;exact .inl h
theorem PlU.term {e:Nat}{L:List Sgn}(h:InU e L):PlU e (fun t=>fN t=true/\db [1,2] L=true) L.length (gG e L):=by
 unfold gG;split
 ·refine y_ (PlU.num h) fun n L' hn hL hl=>⟨⟨?_,hn.2⟩,hL,hl⟩
  have:=hn.1
  simp only[fN,Bool.false_eq_true,if_false,Bool.and_eq_true,decide_eq_true_eq]
  exact⟨⟨trivial,by omega⟩,by omega⟩
 ·refine y_ (PlU.name h) fun t L' ht hL hl=>⟨⟨?_,I2 ht.2.2⟩,hL,hl⟩
  simp only[fN,if_true,ht.1,Bool.true_and,decide_eq_true_eq]
theorem PlU.listGo {α:Type}{e:Nat}{one:List Sgn->PU α}{ks:List Int}{Ok:α->Prop}(hone:∀L,InU e L->PlU e (fun x=>Ok x/\db ks L=true) L.length (one L)) :
  ∀(f:Nat) (out:List α) (L:List Sgn),(∀x,x∈out->Ok x)->out.length<=8->InU e L->L.length<f->PlU e (fun xs=>(∀x,x∈xs->Ok x)/\0<xs.length/\xs.length<=8) L.length (listGo e one ks f out L)
 |0,out,L,_,_,_,hf=>by omega
 |f+1,out,L,ho,hl,h,hf=>by
  simp only[Proofs.YteldpmgepfaiiaaGreatDoor.listGo]
  cases hr:ev e L out.length 8 (db ks L)with
  |error q=>have:=PlU.room (hv:=out.length) (mst:=8) (b:=db ks L) h;rw[hr]at this;exact this
  |ok q=>
   obtain⟨u,L1⟩:=q
   have h0:=PlU.room (hv:=out.length) (mst:=8) (b:=db ks L) h
   rw[hr]at h0
   have e1:=lw hr
   subst e1
   rw[bW]
   refine y_ (hone L1 h) fun x L2 hx hL2 hl2=>?_
   have h8:out.length<8:=by
    rcases Nat.lt_or_ge out.length 8 with h|h
    ·exact h
    ·have:=h0.1 h;rw[this]at hx;cases hx.2
   have ho2:∀y,y∈out++[x]->Ok y:=fun y hy=>by
    rcases l_.1 hy with hy|hy
    ·exact ho y hy
    ·rw[e_]at hy;subst hy;exact hx.1
   split
   ·refine(PlU.listGo hone f (out++[x]) L2.tail ho2 (by simp;omega) hL2.tail (by rw[List.length_tail];omega)).mono (fun _ h=>h) (by rw[List.length_tail];omega)
   ·exact⟨⟨ho2,by simp,by simp;omega⟩,hL2,hl2⟩
theorem PlU.list {α:Type}{e:Nat}{one:List Sgn->PU α}{ks:List Int}{Ok:α->Prop}(hone:∀L,InU e L->PlU e (fun x=>Ok x/\db ks L=true) L.length (one L)){L:List Sgn}(h:InU e L) :
  PlU e (fun xs=>(∀x,x∈xs->Ok x)/\0<xs.length/\xs.length<=8) L.length (iZ e one ks L):=by
 unfold iZ
 refine y_ (PlU.must h) fun _ L1 _ h1 l1=>y_ (PlU.listGo hone (L1.length+1) [] L1 (fun x hx=>by cases hx) (by simp) h1 (by omega)) fun xs L2 hx h2 l2=>y_ (PlU.must h2) fun _ L3 _ h3 l3=>⟨hx,h3,by omega⟩
theorem PlU.atom {e:Nat}{L:List Sgn}{nt:Bool}(h:InU e L):PlU e (fun a=>dh a=true/\a.not=nt/\isT L 0 a.rel=true/\db [1] L=true) L.length (fp e L nt):=by
 unfold fp
 refine y_ (PlU.name h) fun rel L1 hr h1 l1=>y_ (PlU.list (Ok:=fun t=>fN t=true) (fun L h=>PlU.term h) h1) fun ts L2 ht h2 l2=>⟨⟨?_,rfl,hr.2.1,hr.2.2⟩,h2,by omega⟩
 simp only[dh,Bool.and_eq_true,decide_eq_true_eq,List.all_eq_true]
 exact⟨⟨⟨ht.1,hr.1⟩,ht.2.1⟩,ht.2.2⟩
theorem PlU.bodyGo {e:Nat}:∀(f:Nat) (out:List Atm) (L:List Sgn),(∀x,x∈out->dh x=true)->out.length<=8->InU e L->L.length<f->PlU e (fun xs=>(∀x,x∈xs->dh x=true)/\xs.length<=8) (L.length+1) (bodyGo e f out L)
 |0,out,L,_,_,_,hf=>by omega
 |f+1,out,L,ho,hl,h,hf=>by
  simp only[Proofs.YteldpmgepfaiiaaGreatDoor.bodyGo]
  cases hr:ev e L out.length 8 (db [1] L || isT L 0 [33])with
  |error q=>have:=PlU.room (hv:=out.length) (mst:=8) (b:=db [1] L || isT L 0 [33]) h;rw[hr]at this;exact this
  |ok q=>
   obtain⟨u,L1⟩:=q
   have h0:=PlU.room (hv:=out.length) (mst:=8) (b:=db [1] L || isT L 0 [33]) h
   rw[hr]at h0
   have e1:=lw hr
   subst e1
   rw[bW]
   have hM:InU e (if isT L1 0 [33]=true then L1.tail else L1)/\(if isT L1 0 [33]=true then L1.tail else L1).length<=L1.length:=by
    split
    ·exact⟨h.tail,by simp⟩
    ·exact⟨h,Nat.le_refl _⟩
   refine y_ (PlU.atom hM.1) fun x L2 hx hL2 hl2=>?_
   have h8:out.length<8:=by
    rcases Nat.lt_or_ge out.length 8 with h|h
    ·exact h
    ·have:=h0.1 h
     simp only[Bool.or_eq_false_iff]at this
     have h3:=hx.2.2.2
     rw[this.2,if_neg (by simp),this.1]at h3
     cases h3
   have ho2:∀y,y∈out++[x]->dh y=true:=fun y hy=>by
    rcases l_.1 hy with hy|hy
    ·exact ho y hy
    ·rw[e_]at hy;subst hy;exact hx.1
   split
   ·refine(PlU.bodyGo f (out++[x]) L2.tail ho2 (by simp;omega) hL2.tail (by rw[List.length_tail];omega)).mono (fun _ h=>h) (by rw[List.length_tail];omega)
   ·exact⟨⟨ho2,by simp;omega⟩,hL2,by omega⟩
theorem PlU.rule {e:Nat}{L:List Sgn}(h:InU e L)(h1:isT L 0 [100,111,109]=false)(h2:isT L 0 [114,101,108]=false):PlU e (fun x=>dJ x=true/\db [1] L=true) L.length (mj e L):=by
 unfold mj
 refine y_ (PlU.atom h) fun hd L1 hh i1 l1=>?_
 have key:PlU e (fun xs=>(∀x,x∈xs->dh x=true)/\xs.length<=8) (L1.length+1) (if isT L1 0 [58,45]=true then Proofs.YteldpmgepfaiiaaGreatDoor.bodyGo e (L1.length+1) [] L1.tail else .ok ([],L1)):=by
  split
  ·exact(PlU.bodyGo (L1.length+1) [] L1.tail (fun x hx=>by cases hx) (by simp) i1.tail (by rw[List.length_tail];omega)).mono (fun _ h=>h) (by rw[List.length_tail];omega)
  ·exact⟨⟨(fun x hx=>by cases hx),by simp⟩,i1,by omega⟩
 refine y_ key fun b L2 hb i2 l2=>y_ (PlU.must i2) fun _ L3 _ i3 l3=>⟨⟨?_,hh.2.2.2⟩,i3,by omega⟩
 have d1:hd.rel≠[100,111,109]:=by intro e;have:=hh.2.2.1;rw[e,h1]at this;cases this
 have d2:hd.rel≠[114,101,108]:=by intro e;have:=hh.2.2.1;rw[e,h2]at this;cases this
 simp only[dJ,Bool.and_eq_true,decide_eq_true_eq,List.all_eq_true,Bool.not_eq_true']
 exact⟨⟨⟨⟨⟨hh.1,hh.2.1⟩,d1⟩,d2⟩,hb.2⟩,hb.1⟩
theorem qV {ds:List Dm}{cs:List Dcl}{rs:List Rul}(l1:ds.length<=32)(l2:cs.length<=32)(l3:rs.length<=64)(h1:∀d,d∈ds->dmB d=true)(h2:∀d,d∈cs->eS d=true)(h3:∀d,d∈rs->dJ d=true):cm ⟨ds,cs,rs⟩=true:=by
 simp only[cm,Bool.and_eq_true,decide_eq_true_eq,List.all_eq_true]
 exact⟨⟨⟨⟨⟨l1,l2⟩,l3⟩,h1⟩,h2⟩,h3⟩
theorem mN {x:Pgm}(h:cm x=true):x.doms.length<=32/\x.decls.length<=32/\x.rules.length<=64/\(∀d,d∈x.doms->dmB d=true)/\(∀d,d∈x.decls->eS d=true)/\(∀d,d∈x.rules->dJ d=true):=by
 simp only[cm,Bool.and_eq_true,decide_eq_true_eq,List.all_eq_true]at h
 obtain⟨⟨⟨⟨⟨l1,l2⟩,l3⟩,h1⟩,h2⟩,h3⟩:=h
 exact⟨l1,l2,l3,h1,h2,h3⟩
theorem oT {α:Type}{p:α->Prop}{l:List α}{x:α}(h:∀y,y∈l->p y)(hx:p x):∀y,y∈l++[x]->p y:=fun y hy=>by
 rcases l_.1 hy with hy|hy
 ·exact h y hy
 ·rw[e_]at hy;subst hy;exact hx
theorem PlU.item {e:Nat}{x:Pgm}{L:List Sgn}(hx:cm x=true)(h:InU e L):PlU e (fun y=>cm y=true) L.length (tp e x L):=by
 obtain⟨l1,l2,l3,h1,h2,h3⟩:=mN hx
 unfold tp
 split
 ·unfold El
  refine y_ (PlU.room h) fun _ L1 r1 i1 g1=>y_ (PlU.must i1) fun _ L2 _ i2 g2=>y_ (PlU.name i2) fun n L3 r3 i3 g3=>y_ (PlU.num i3) fun z L4 r4 i4 g4=>y_ (PlU.must i4) fun _ L5 _ i5 g5=>⟨?_,i5,by omega⟩
  have hlt:x.doms.length<32:=by
   rcases Nat.lt_or_ge x.doms.length 32 with h|h
   ·exact h
   ·have:=r1 h;cases this
  refine qV (by rw[d_,List.length_singleton];omega) l2 l3 (oT h1 ?_) h2 h3
  have:=r4.1
  simp only[dmB,Bool.and_eq_true,decide_eq_true_eq]
  exact⟨⟨r3.1,by omega⟩,by omega⟩
 ·split
  ·unfold Dd
   refine y_ (PlU.room h) fun _ L1 r1 i1 g1=>y_ (PlU.must i1) fun _ L2 _ i2 g2=>y_ (PlU.name i2) fun n L3 r3 i3 g3=>y_ (PlU.list (Ok:=fun t=>di t=true) (fun L h=>(PlU.name h).mono (fun _ h=>⟨h.1,h.2.2⟩) (Nat.le_refl _)) i3) fun ds L4 r4 i4 g4=>y_ (PlU.must i4) fun _ L5 _ i5 g5=>⟨?_,i5,by omega⟩
   have hlt:x.decls.length<32:=by
    rcases Nat.lt_or_ge x.decls.length 32 with h|h
    ·exact h
    ·have:=r1 h;cases this
   refine qV l1 (by rw[d_,List.length_singleton];omega) l3 h1 (oT h2 ?_) h3
   simp only[eS,Bool.and_eq_true,decide_eq_true_eq,List.all_eq_true]
   exact⟨⟨⟨r3.1,by omega⟩,r4.2.2⟩,r4.1⟩
  ·rename_i d1 d2
   unfold Da
   cases hr:ev e L x.rules.length 64 (db [1] L)with
   |error q=>have:=PlU.room (hv:=x.rules.length) (mst:=64) (b:=db [1] L) h;rw[hr]at this;exact this
   |ok q=>
    obtain⟨u,L1⟩:=q
    have h0:=PlU.room (hv:=x.rules.length) (mst:=64) (b:=db [1] L) h
    rw[hr]at h0
    have e1:=lw hr
    subst e1
    rw[bW]
    refine y_ (PlU.rule h (by simpa using d1) (by simpa using d2)) fun y L2 r2 i2 g2=>⟨?_,i2,g2⟩
    have hlt:x.rules.length<64:=by
     rcases Nat.lt_or_ge x.rules.length 64 with h|h
     ·exact h
     ·have:=h0.1 h;rw[this]at r2;cases r2.2
    exact qV l1 l2 (by rw[d_,List.length_singleton];omega) h1 h2 (oT h3 r2.1)
theorem ti {s:List UInt8}{L:List Sgn}(h:bG s=.ok L):InU s.length L:=by
 have h1:=(DY h).1
 have h2:MP s.length (bG s):=by
  unfold bG
  split
  ·exact Nat.zero_le _
  ·exact vx s.length _ s 0 [] (by omega) (fun y hy=>by cases hy)
 rw[h]at h2
 intro y hy
 refine⟨h2 y hy,?_⟩
 obtain⟨g1,g2,_⟩:=h1 y hy
 simp only[dP,Bool.and_eq_true,decide_eq_true_eq]
 exact⟨g1,g2⟩
end Go.Proofs.YteldpmgepfaiiaaGreatDoor
