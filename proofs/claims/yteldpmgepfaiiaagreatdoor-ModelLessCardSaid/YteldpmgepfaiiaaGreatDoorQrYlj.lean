/- Walks of functions that the claim reaches, and plain facts of them. Conditions: those in the statements. -/
import Derived.Test.YteldpmgepfaiiaaGreatDoorQrUqj
import Derived.Test.YteldpmgepfaiiaaGreatDoorQrPkj
import Derived.Test.YteldpmgepfaiiaaGreatDoorQrBldj
import Derived.Test.YteldpmgepfaiiaaGreatDoorQrUlj
set_option linter.unusedSimpArgs false
set_option linter.unusedVariables false
set_option maxRecDepth 100000
namespace Go.Proofs.YteldpmgepfaiiaaGreatDoor
open Go.RowKit
def atA (vs:List (List UInt8)):List (List UInt8×Int):=dH (fun v:List UInt8=>v) (fun i _=>(i:Int)) 0 vs
theorem Ia {vs:List (List UInt8)}(n:List UInt8):lkA n (atA vs)=Option.map (fun i:Nat=>(i:Int)) (ixT n vs):=by
 unfold atA
 rw[jb,List.map_id']
 cases h:ixT n vs with
 |none=>rfl
 |some j=>simp[cN h]
theorem C0 {vs:List (List UInt8)}{n:List UInt8}(h:ixT n vs=none):ptA n (vs.length:Int) (atA vs)=atA (vs++[n]):=by
 have hn:n∉vs:=gG.1 h
 unfold atA
 rw[lX (by rw[iD,List.map_id'];exact hn)]
 have:∀(i:Nat) (l:List (List UInt8)),dH (fun v:List UInt8=>v) (fun i _=>((i:Nat):Int)) i (l++[n])=dH (fun v:List UInt8=>v) (fun i _=>((i:Nat):Int)) i l++[(n,((i+l.length:Nat):Int))]:=by
  intro i l
  induction l generalizing i with
  |nil=>rfl
  |cons a l ih=>
   simp only[List.cons_append,dH,ih (i+1),List.length_cons]
   rw[show i+1+l.length=i+(l.length+1) by omega]
 rw[this 0 vs,Nat.zero_add]
abbrev pO:List (Nat×TypeId×Nat):=[(0,9,1),(1,9,1)]
def Scm (t:St)(xb bm:Nat)(X:Scp):St:=(t.set bm (.map (mpV bG (atA X.vs)))).set xb (.pk 147 [.lst (aw X.vs) .no,.lst (aw X.ds) .no,.mp bm] pO)
def WfS (X:Scp):Prop:=X.ds.length=X.vs.length
section
variable {t : St} {xb bm b : Nat} {X : Scp}
theorem qz:(Scm t xb bm X) xb=.pk 147 [.lst (aw X.vs) .no,.lst (aw X.ds) .no,.mp bm] pO:=q_ _ _ _
theorem A9 (h:¬ bm=xb):(Scm t xb bm X) bm=.map (mpV bG (atA X.vs)):=by unfold Scm;rw[k_ _ _ h,q_]
theorem qy (h:¬ b=xb)(h2:¬ b=bm):(Scm t xb bm X) b=t b:=by unfold Scm;rw[k_ _ _ h,k_ _ _ h2]
theorem wq {c:Cell}(h:¬ b=xb)(h2:¬ b=bm):(Scm t xb bm X).set b c=Scm (t.set b c) xb bm X:=by
 funext x
 simp only[Scm,St.set]
 by_cases h3:x=b
 ·subst h3;simp[h,h2]
 ·simp[h3]
theorem sN:((Scm t xb bm X) b=.free)=(¬ b=xb/\¬ xb=b/\¬ b=bm/\¬ bm=b/\t b=.free):=by
 apply propext
 unfold Scm
 simp only[St.set]
 by_cases h1:b=xb
 ·simp[h1]
 ·have h1':¬ xb=b:=fun e=>h1 e.symm
  by_cases h2:b=bm
  ·subst h2;simp[h1,h1']
  ·have h2':¬ bm=b:=fun e=>h2 e.symm
   simp[h1,h2,h1',h2']
theorem Fg.scm {t':St}(h:Fg t t'):Fg (Scm t xb bm X) (Scm t' xb bm X):=Fg.set (Fg.set h _ _) _ _
end
theorem lp {dz:List UInt8->Int}{X:Scp}{n:List UInt8}{k:Int}{d:List UInt8}:fD dz X ⟨false,n,k⟩ d=if dz d<=k then .error 123 else .ok X:=by simp[fD]
theorem oz {dz:List UInt8->Int}{X:Scp}{n:List UInt8}{k:Int}{d:List UInt8}(h:ixT n X.vs=none):fD dz X ⟨true,n,k⟩ d=.ok ⟨X.vs++[n],X.ds++[d]⟩:=by simp[fD,h]
theorem ow {dz:List UInt8->Int}{X:Scp}{n:List UInt8}{k:Int}{d:List UInt8}{i:Nat}(h:ixT n X.vs=some i):fD dz X ⟨true,n,k⟩ d=if X.ds[i]?=some d then .ok X else .error 124:=by simp[fD,h]
def AtQ (t:St)(xb bm:Nat)(r:Except Int Scp):SEnd->St->Prop:=fun w u=>
 match r with
 |.ok Y=>w=.ret (.int .i64 0)/\u=Scm t xb bm Y/\WfS Y
 |.error e=>w=.ret (.int .i64 e)/\e≠0/\∃Y,u=Scm t xb bm Y
theorem wO {dz:List UInt8->Int}{X:Scp}{a:Trm}{d:List UInt8}{e:Int}(h:fD dz X a d=.error e):e≠0:=by
 unfold fD at h
 split at h
 ·split at h
  ·injection h with h;subst h;decide
  ·cases h
 ·split at h
  ·cases h
  ·split at h
   ·cases h
   ·injection h with h;subst h;decide
attribute [local go_sem] qz A9 qy wq sN dp gv
theorem A8 {B:St}{xb bm:Nat}{vs ds:List (List UInt8)}{p1 p2:Own}{M:Cell}(n1:ax p1 xb)(n2:ax p2 xb)(m1:ax p1 bm)(m2:ax p2 bm)(h1:OwnOk B p1 vs.length)(h2:OwnOk (B.own p1 9 1 vs.length) p2 ds.length) :
  GS ((((B.own p1 9 1 vs.length).own p2 9 1 ds.length).set bm M).set xb (.pk 147 [.lst (aw vs) p1,.lst (aw ds) p2,.mp bm] [])) ((B.set bm M).set xb (.pk 147 [.lst (aw vs) .no,.lst (aw ds) .no,.mp bm] pO)):=by
 have l1:(aw vs).length=vs.length:=by simp[aw]
 have l2:(aw ds).length=ds.length:=by simp[aw]
 have g1:=GS.pack (i:=1) (l:=aw ds) (o:=p2) (T':=9) (sz:=1) (rs':=[(1,9,1)]) (q_ (((B.own p1 9 1 vs.length).own p2 9 1 ds.length).set bm M) xb (.pk 147 [.lst (aw vs) p1,.lst (aw ds) p2,.mp bm] [])) rfl (by rw[eM n2,eM m2,l2,gB h2];trivial) (by simp)
 rw[aJ n2,aJ m2,aM h2,St.set_set]at g1
 have g2:=GS.pack (i:=0) (l:=aw vs) (o:=p1) (T':=9) (sz:=1) (rs':=pO) (q_ ((B.own p1 9 1 vs.length).set bm M) xb (.pk 147 [.lst (aw vs) p1,.lst (aw ds) .no,.mp bm] [(1,9,1)])) rfl (by rw[eM n1,eM m1,l1,gB h1];trivial) (by simp)
 rw[aJ n1,aJ m1,aM h1,St.set_set]at g2
 exact g1.trans g2
set_option maxHeartbeats 8000000 in
theorem wu (t:St)(p b1 b2 xb bm:Nat)(x:Pgm)(X:Scp)(a:Atm)(o0:Own)(hp:PrAt t p b1 b2 x)(hxb:t xb=.free)(hbm:t bm=.free)(hne:¬ bm=xb)(hW:WfS X)(ha:a.ts.length<=100000)(hX:X.vs.length<=10000000) :
  SCalls Tryz.prog 109 [.ptr p 0,.ptr xb 0,.agg [.bool a.not,.str a.rel,.lst (a.ts.map aA) o0]] (Scm t xb bm X) (AtQ t xb bm (ce x X a)):=by
 obtain⟨an,ar,ats⟩:=a
 obtain⟨xds,xcs,xrs⟩:=x
 obtain⟨hp0,h10,h20⟩:=hp
 simp only at ha hp0 h10 h20
 have hpf:t p≠.free:=by rw[hp0];simp
 have h1f:t b1≠.free:=by rw[h10];simp
 have h2f:t b2≠.free:=by rw[h20];simp
 obtain⟨q1,q2⟩:=nef hxb hpf
 obtain⟨q3,q4⟩:=nef hxb h1f
 obtain⟨q5,q6⟩:=nef hxb h2f
 obtain⟨q7,q8⟩:=nef hbm hpf
 obtain⟨q9,q10⟩:=nef hbm h1f
 obtain⟨q11,q12⟩:=nef hbm h2f
 have hne2:¬ xb=bm:=fun e=>hne e.symm
 have hrl:=jE (cs:=xcs) ar
 generalize hR:ce ⟨xds,xcs,xrs⟩ X ⟨an,ar,ats⟩=R
 unfold ce at hR
 simp only at hR
 cases hk:cW xcs ar with
 |none=>
  rw[hk]at hR hrl
  simp only[Option.map_none]at hR hrl
  subst hR
  refine bh Tryz.func109 rfl Tryz.ntmps109 rfl fun Q hQ hQe=>?_
  (repeat'(first|refine Ctl ?_|(with_reducible first|(refine j_ hK ?_;clear hK hE K E)|(refine j_ hKh ?_;clear hKh Kh)|refine au 1 [] [0,1,2,3,4,5,6,7,8,9,10,11] hQe fun K E hK hE=>?_)|((with_reducible refine aj (fun h=>?_) (fun h=>?_))<;>(try(exfalso;assumption)))|((first|(with_reducible first|refine ae fun K E hK hE=>?_|refine aC fun Kh hKh=>?_)|((with_reducible refine ao (fun b hb=>?_));(repeat(obtain⟨_,hb⟩:=hb));(try(obtain⟨_,_⟩:=nef hb hpf;obtain⟨_,_⟩:=nef hb h1f;obtain⟨_,_⟩:=nef hb h2f))))<;>(try simp(disch:=first|assumption|omega) only[go_sem,seval,Option.getD_none,Option.isSome_none, *]))))
  all_goals(refine ap kQ hQ ?_)
  exact⟨_,Scm t xb bm X,Wk.refl _,(bj:Fg _ _),rfl,by decide,X,rfl⟩
 |some k=>
  rw[hk]at hR hrl
  simp only[Option.map_some]at hR hrl
  obtain⟨dc,hdc,_⟩:∃dc,xcs[k]?=some dc/\True:=by
   have:=cN hk
   rw[c_]at this
   obtain⟨dc,h,_⟩:=Option.map_eq_some_iff.1 this
   exact⟨dc,h,trivial⟩
  rw[hdc]at hR
  simp only at hR
  have hkl:=(n_.1 hdc).1
  have hsd:=c9 hdc
  obtain⟨dn,dd⟩:=dc
  simp only at hR
  have hsl:(aw dd).length=dd.length:=by simp[aw]
  clear hk hdc
  by_cases hlen:ats.length=dd.length
  ·rw[if_neg (by simpa using hlen)]at hR
   have hli:((ats.length:Int)=(dd.length:Int))=True:=eq_true (by omega)
   refine bh Tryz.func109 rfl Tryz.ntmps109 rfl fun Q hQ hQe=>?_
   (repeat'(first|refine Ctl ?_|(with_reducible first|(refine j_ hK ?_;clear hK hE K E)|(refine j_ hKh ?_;clear hKh Kh)|refine au 1 [] [0,1,2,3,4,5,6,7,8,9,10,11] hQe fun K E hK hE=>?_)|((with_reducible refine aj (fun h=>?_) (fun h=>?_))<;>(try(exfalso;assumption)))|((first|(with_reducible first|refine ae fun K E hK hE=>?_|refine aC fun Kh hKh=>?_)|((with_reducible refine ao (fun b hb=>?_));(repeat(obtain⟨_,hb⟩:=hb));(try(obtain⟨_,_⟩:=nef hb hpf;obtain⟨_,_⟩:=nef hb h1f;obtain⟨_,_⟩:=nef hb h2f))))<;>(try simp(disch:=first|assumption|omega) only[go_sem,seval,aB,a_,Option.getD_some,Option.isSome_some, *]))))
   have hp1:(t.set b (.obj 40 [.bool an,.str ar,.lst (ats.map aA) o0])) p=.obj 183 [.lst (xds.map dmC) .no,.lst (xcs.map aB) .no,.lst (xrs.map az) .no,.mp b1,.mp b2]:=by rw[k_ _ _ (by assumption)];exact hp0
   have h11:(t.set b (.obj 40 [.bool an,.str ar,.lst (ats.map aA) o0])) b1=.map (mpV bG (szA xds)):=by rw[k_ _ _ (by assumption)];exact h10
   have h21:(t.set b (.obj 40 [.bool an,.str ar,.lst (ats.map aA) o0])) b2=.map (mpV bG (rlA xcs)):=by rw[k_ _ _ (by assumption)];exact h20
   have ha1:(t.set b (.obj 40 [.bool an,.str ar,.lst (ats.map aA) o0])) b=.obj 40 [.bool an,.str ar,.lst (ats.map aA) o0]:=q_ _ _ _
   have hxb1:(t.set b (.obj 40 [.bool an,.str ar,.lst (ats.map aA) o0])) xb=.free:=by rw[k_ _ _ (by assumption)];exact hxb
   have hbm1:(t.set b (.obj 40 [.bool an,.str ar,.lst (ats.map aA) o0])) bm=.free:=by rw[k_ _ _ (by assumption)];exact hbm
   have hF0:Fg (t.set b (.obj 40 [.bool an,.str ar,.lst (ats.map aA) o0])) t:=v_ _ hb
   generalize t.set b (.obj 40 [.bool an,.str ar,.lst (ats.map aA) o0])=B at *
   have HF:=u_ hF0
   clear hp0 h10 h20 hpf h1f h2f hxb hbm hb hF0 hrl hsd hkl hli
   have hpf:B p≠.free:=by rw[hp1];simp
   have h1f:B b1≠.free:=by rw[h11];simp
   have h2f:B b2≠.free:=by rw[h21];simp
   have haf:B b≠.free:=by rw[ha1];simp
   obtain⟨bA,hbA⟩:∃z,z=b:=⟨_,rfl⟩
   subst hbA
   refine eF (fun m env s'=>∃(i:Nat) (Y:Scp),i<=ats.length/\m+i=ats.length/\(WfS Y/\Y.vs.length<=X.vs.length+i/\dG (dM xds) Y (ats.drop i) (dd.drop i)=R)/\s'=Scm B xb bm Y /\
    env 0=.ptr p 0/\env 1=.ptr xb 0/\env 5=.ptr bA 0/\env 9=.lst (aw dd) .no/\env 42=.lst (ats.map aA) o0/\env 43=.int .i64 ats.length/\env 44=.int .i64 i) ats.length ?_ ?_
   ·exact⟨_,GS.refl _,0,X,by omega,by omega,⟨hW,by omega,hR⟩,rfl,ab,ab,ab,ab,ab,ab,ab⟩
   ·clear hW hR
    rintro m env s' ⟨i,Y,hi,hm,⟨hWY,hYl,hRY⟩,rfl,e0,e1,e5,e9,e42,e43,e44⟩
    by_cases hlt:i<ats.length
    ·obtain⟨c,hc⟩:=aO hlt
     obtain⟨d,hd⟩:=aO (l:=dd) (i:=i) (by omega)
     have hsx:=c7 hc
     have hsy:=c8 hd
     have hlk:=pI (ds:=xds) d
     rw[g_ hlt,g_ (l:=dd) (by omega),show ats[i]=c by rw[b_ hlt]at hc;injection hc,show dd[i]'(by omega)=d by rw[b_ (by omega)]at hd;injection hd]at hRY
     simp only[dG]at hRY
     have HRY:=u_ hRY
     clear hc hd hRY
     obtain⟨cv,cn,cz⟩:=c
     have hat:=Ia (vs:=Y.vs) cn
     cases cv
     ·rw[lp]at HRY
      clear hat
      by_cases hz:dM xds d<=cz
      ·rw[if_pos hz]at HRY
       (repeat'(first|refine Ctl ?_|(with_reducible first|(refine j_ hK ?_;clear hK hE K E)|(refine j_ hKh ?_;clear hKh Kh)|refine au 10 [] [0,1,2,3,4,5,6,7,8,9,10,11] hQe fun K E hK hE=>?_|refine au 11 [] [0,1,2,3,4,5,6,7,8,9,10,11,12,13,14,15,16,17] hQe fun K E hK hE=>?_)|((with_reducible refine aj (fun h=>?_) (fun h=>?_))<;>(try(exfalso;first|assumption|omega)))|((first|(with_reducible first|refine ae fun K E hK hE=>?_|refine aC fun Kh hKh=>?_)|((with_reducible refine ao (fun b hb=>?_));(repeat(obtain⟨_,hb⟩:=hb));(try(obtain⟨_,_⟩:=nef hb hpf;obtain⟨_,_⟩:=nef hb h1f;obtain⟨_,_⟩:=nef hb h2f;obtain⟨_,_⟩:=nef hb haf))))<;>(try simp(disch:=first|assumption|omega) only[go_sem,seval,aA, *]))))
       all_goals(refine ap kQ hQ ?_)
       rw[<- show _=R from HRY]
       exact⟨_,Scm t xb bm Y,Wk.refl _,Fg.scm ((v_ _ hb).trans HF.out),rfl,by decide,Y,rfl⟩
      ·rw[if_neg hz]at HRY
       (repeat'(first|refine Ctl ?_|(with_reducible first|(refine j_ hK ?_;clear hK hE K E)|(refine j_ hKh ?_;clear hKh Kh)|refine au 10 [] [0,1,2,3,4,5,6,7,8,9,10,11] hQe fun K E hK hE=>?_|refine au 11 [] [0,1,2,3,4,5,6,7,8,9,10,11,12,13,14,15,16,17] hQe fun K E hK hE=>?_)|((with_reducible refine aj (fun h=>?_) (fun h=>?_))<;>(try(exfalso;first|assumption|omega)))|((first|(with_reducible first|refine ae fun K E hK hE=>?_|refine aC fun Kh hKh=>?_)|((with_reducible refine ao (fun b hb=>?_));(repeat(obtain⟨_,hb⟩:=hb));(try(obtain⟨_,_⟩:=nef hb hpf;obtain⟨_,_⟩:=nef hb h1f;obtain⟨_,_⟩:=nef hb h2f;obtain⟨_,_⟩:=nef hb haf))))<;>(try simp(disch:=first|assumption|omega) only[go_sem,seval,aA, *]))))
       exact⟨Scm B xb bm Y,GS.of_fg (Fg.scm (v_ _ hb)),m - 1,by omega,i+1,Y,by omega,by omega,⟨hWY,by omega,HRY.out⟩,rfl,ab,ab,ab,ab,ab,ab,ab⟩
     ·cases hix:ixT cn Y.vs with
      |some v=>
       rw[hix]at hat
       simp only[Option.map_some]at hat
       have hvl:v<Y.vs.length:=(n_.1 (cN hix)).1
       obtain⟨dv,hdv⟩:=aO (l:=Y.ds) (i:=v) (by rw[hWY];exact hvl)
       have hsv:=c8 hdv
       rw[ow hix,hdv]at HRY
       by_cases hdd:dv=d
       ·rw[if_pos (by rw[hdd])]at HRY
        subst hdd
        clear hix hdv
        (repeat'(first|refine Ctl ?_|(with_reducible first|(refine j_ hK ?_;clear hK hE K E)|(refine j_ hKh ?_;clear hKh Kh)|refine au 10 [] [0,1,2,3,4,5,6,7,8,9,10,11] hQe fun K E hK hE=>?_|refine au 11 [] [0,1,2,3,4,5,6,7,8,9,10,11,12,13,14,15,16,17] hQe fun K E hK hE=>?_|refine au 18 [] [0,1,2,3,4,5,6,7,8,9,10,11,12] hQe fun K E hK hE=>?_)|((with_reducible refine aj (fun h=>?_) (fun h=>?_))<;>(try(exfalso;first|assumption|omega)))|((first|(with_reducible first|refine ae fun K E hK hE=>?_|refine aC fun Kh hKh=>?_)|((with_reducible refine ao (fun b hb=>?_));(repeat(obtain⟨_,hb⟩:=hb));(try(obtain⟨_,_⟩:=nef hb hpf;obtain⟨_,_⟩:=nef hb h1f;obtain⟨_,_⟩:=nef hb h2f;obtain⟨_,_⟩:=nef hb haf))))<;>(try simp(disch:=first|assumption|omega) only[go_sem,seval,aA,Option.getD_some,Option.isSome_some, *]))))
        exact⟨Scm B xb bm Y,GS.of_fg (Fg.scm (v_ _ hb)),m - 1,by omega,i+1,Y,by omega,by omega,⟨hWY,by omega,HRY.out⟩,rfl,ab,ab,ab,ab,ab,ab,ab⟩
       ·rw[if_neg (by simpa using hdd)]at HRY
        clear hix hdv
        (repeat'(first|refine Ctl ?_|(with_reducible first|(refine j_ hK ?_;clear hK hE K E)|(refine j_ hKh ?_;clear hKh Kh)|refine au 10 [] [0,1,2,3,4,5,6,7,8,9,10,11] hQe fun K E hK hE=>?_|refine au 11 [] [0,1,2,3,4,5,6,7,8,9,10,11,12,13,14,15,16,17] hQe fun K E hK hE=>?_|refine au 18 [] [0,1,2,3,4,5,6,7,8,9,10,11,12] hQe fun K E hK hE=>?_)|((with_reducible refine aj (fun h=>?_) (fun h=>?_))<;>(try(exfalso;first|assumption|omega)))|((first|(with_reducible first|refine ae fun K E hK hE=>?_|refine aC fun Kh hKh=>?_)|((with_reducible refine ao (fun b hb=>?_));(repeat(obtain⟨_,hb⟩:=hb));(try(obtain⟨_,_⟩:=nef hb hpf;obtain⟨_,_⟩:=nef hb h1f;obtain⟨_,_⟩:=nef hb h2f;obtain⟨_,_⟩:=nef hb haf))))<;>(try simp(disch:=first|assumption|omega) only[go_sem,seval,aA,Option.getD_some,Option.isSome_some, *]))))
        all_goals(refine ap kQ hQ ?_)
        rw[<- show _=R from HRY]
        exact⟨_,Scm t xb bm Y,Wk.refl _,Fg.scm ((v_ _ hb).trans HF.out),rfl,by decide,Y,rfl⟩
      |none=>
       rw[hix]at hat
       simp only[Option.map_none]at hat
       rw[oz hix]at HRY
       have hpt:=C0 hix
       have hcl:(aw Y.vs).length=Y.vs.length:=by simp[aw]
       have hcd:(aw Y.ds).length=Y.vs.length:=by simp only[aw,a_];exact hWY
       refine kA xb 0 (T':=9) (sz:=1) [(1,9,1)] qz rfl (by simp) (by simp) ?_
       intro o1 hO1 hn1
       refine kA xb 1 (T':=9) (sz:=1) [] (q_ _ _ _) rfl (by simp) (by simp) ?_
       intro o2 hO2 hn2
       simp only[List.set,hcl,hcd]at hO1 hO2 ⊢
       unfold Scm at hO1 hO2 ⊢
       rw[aY hn1,St.set_set]at hO2 ⊢
       rw[aY hn2,St.set_set]
       simp only[dg,bP]at hO1
       rw[dg]at hO2
       obtain⟨_,hn1m,hO1⟩:=hO1
       obtain⟨_,hO2⟩:=hO2
       rw[aY hn1m]at hO2 ⊢
       rw[bP]at hO2
       obtain⟨hn2m,hO2⟩:=hO2
       rw[aY hn2m]
       have hO2B:OwnOk B o2 Y.vs.length:=gA hO2
       have hp2:=hO1.not hpf
       have hp3:=hO1.not h1f
       have hp4:=hO1.not h2f
       have hp5:=hO1.not haf
       have hr2:=hO2B.not hpf
       have hr3:=hO2B.not h1f
       have hr4:=hO2B.not h2f
       have hr5:=hO2B.not haf
       have hvb:Y.vs.length<=20000000:=by omega
       have HPT:=u_ hpt
       clear hix hpt
       (repeat'(first|refine Ctl ?_|(with_reducible first|(refine j_ hK ?_;clear hK hE K E)|(refine j_ hKh ?_;clear hKh Kh)|(refine j_ hKb (aK ?_);clear hKb Kb)|refine au 10 [] [0,1,2,3,4,5,6,7,8,9,10,11] hQe fun K E hK hE=>?_|refine au 11 [] [0,1,2,3,4,5,6,7,8,9,10,11,12,13,14,15,16,17] hQe fun K E hK hE=>?_|refine au 15 [([0,1,2,3,4,5,6,7,8,9,10],11,[[]])] [] hQe fun K E hK hE=>?_|refine au 16 [([0,1,2,3,4,5,6,7],8,[[0]]),([9,10],11,[[],[]])] [] hQe fun K E hK hE=>?_|refine au 17 [([0,1,2,3,4,5,6,7,8,9],10,[[0]]),([11,12],13,[[],[]])] [] hQe fun K E hK hE=>?_)|((with_reducible refine aj (fun h=>?_) (fun h=>?_))<;>(try(exfalso;first|assumption|omega)))|((first|(with_reducible first|refine ae fun K E hK hE=>?_|refine aE fun Kh hKh=>?_|refine aC fun Kh hKh=>?_|refine aL fun Kb hKb=>?_)|((with_reducible refine ao (fun b hb=>?_));(repeat(obtain⟨_,hb⟩:=hb));(try(try(simp only[aR]at hb;obtain⟨hob2,hob1,hb⟩:=hb))))|((with_reducible refine cB (fun o2 ho=>?_));(try simp(disch:=assumption) only[bP,hcl,hcd,gv,dg,bP]at ho);(repeat(obtain⟨_,ho⟩:=ho))))<;>(try simp(disch:=first|assumption|omega) only[go_sem,seval,aA,Option.getD_none,Option.isSome_none,gv, *]))))
       rename_i p1 u1 u2 u3 hp1o v1 v2 v3
       have hvs:Y.ds.length=Y.vs.length:=hWY
       have hpk:=A8 (B:=B) (xb:=xb) (bm:=bm) (vs:=Y.vs++[cn]) (ds:=Y.ds++[d]) (p1:=p1) (p2:=o2) (M:=.map (mpV bG (ptA cn (Y.vs.length:Int) (atA Y.vs)))) u2 v2 u3 v3
        (by rw[d_];exact gA hp1o) (by rw[d_,d_,hvs];exact ho)
       have e1:aw (Y.vs++[cn])=aw Y.vs++[[VV.str cn]]:=by simp[aw]
       have e2:aw (Y.ds++[d])=aw Y.ds++[[VV.str d]]:=by simp[aw]
       rw[d_,d_,hvs]at hpk
       have hfr:((((B.own p1 9 1 (Y.vs.length+1)).own o2 9 1 (Y.vs.length+1)).set bm (.map (mpV bG (ptA cn (Y.vs.length:Int) (atA Y.vs))))).set xb (.pk 147 [.lst (aw Y.vs++[[VV.str cn]]) p1,.lst (aw Y.ds++[[VV.str d]]) o2,.mp bm] [])) b=.free:=by
        rw[k_ _ _ (by assumption),k_ _ _ (by assumption),aR]
        exact⟨v1,by rw[aR];exact⟨u1,hb⟩⟩
       refine⟨Scm B xb bm ⟨Y.vs++[cn],Y.ds++[d]⟩,GS.trans (GS.of_fg (v_ _ hfr)) ?_,m - 1,by omega,i+1,⟨Y.vs++[cn],Y.ds++[d]⟩,by omega,by omega,⟨by simp only[WfS,d_,hvs];rfl,by simp only[d_,List.length_cons,List.length_nil];omega,HRY.out⟩,by unfold Scm;rfl,ab,ab,ab,ab,ab,ab,ab⟩
       unfold Scm
       simp only[e1,e2]at hpk ⊢
       rw[<- show ptA cn (Y.vs.length:Int) (atA Y.vs)=_ from HPT]
       exact hpk
    ·have hiL:i=ats.length:=by omega
     rw[hiL,G_]at hRY
     have hRe:R=.ok Y:=by rw[<- hRY];cases dd.drop ats.length<;>rfl
     have HRE:=u_ hRe
     clear hRY hRe
     (repeat'(first|refine Ctl ?_|((with_reducible refine j_ hK ?_);clear hK hE K E)|((with_reducible refine aj (fun h=>?_) (fun h=>?_))<;>(try(exfalso;omega)))|(((with_reducible refine ae fun K E hK hE=>?_))<;>(try simp(disch:=omega) only[go_sem,seval, *]))))
     all_goals(refine ap kQ hQ ?_)
     rw[show R=_ from HRE]
     exact⟨_,Scm t xb bm Y,Wk.refl _,Fg.scm HF.out,rfl,rfl,hWY⟩
  ·rw[if_pos (by simpa using hlen)]at hR
   have hli:¬ ((ats.length:Int)=(dd.length:Int)):=by omega
   subst hR
   refine bh Tryz.func109 rfl Tryz.ntmps109 rfl fun Q hQ hQe=>?_
   (repeat'(first|refine Ctl ?_|(with_reducible first|(refine j_ hK ?_;clear hK hE K E)|(refine j_ hKh ?_;clear hKh Kh)|refine au 1 [] [0,1,2,3,4,5,6,7,8,9,10,11] hQe fun K E hK hE=>?_)|((with_reducible refine aj (fun h=>?_) (fun h=>?_))<;>(try(exfalso;assumption)))|((first|(with_reducible first|refine ae fun K E hK hE=>?_|refine aC fun Kh hKh=>?_)|((with_reducible refine ao (fun b hb=>?_));(repeat(obtain⟨_,hb⟩:=hb));(try(obtain⟨_,_⟩:=nef hb hpf;obtain⟨_,_⟩:=nef hb h1f;obtain⟨_,_⟩:=nef hb h2f))))<;>(try simp(disch:=first|assumption|omega) only[go_sem,seval,aB,a_,Option.getD_some,Option.isSome_some, *]))))
   all_goals(refine ap kQ hQ ?_)
   exact⟨_,Scm t xb bm X,Wk.refl _,(bj:Fg _ _),rfl,by decide,X,rfl⟩
end Go.Proofs.YteldpmgepfaiiaaGreatDoor
namespace Go.Proofs.YteldpmgepfaiiaaGreatDoor
open Go.RowKit
attribute [local go_sem] qz A9 qy wq sN dp gv
theorem yq {dz:List UInt8->Int}{X Y:Scp}{a:Trm}{d:List UInt8}(h:fD dz X a d=.ok Y)(hW:WfS X):WfS Y/\Y.vs.length<=X.vs.length+1:=by
 unfold fD at h
 split at h
 ·split at h
  ·cases h
  ·injection h with h;subst h;exact⟨hW,by omega⟩
 ·split at h
  ·injection h with h;subst h
   unfold WfS at hW ⊢
   simp only[d_,List.length_cons,List.length_nil,hW]
   exact⟨trivial,by omega⟩
  ·split at h
   ·injection h with h;subst h;exact⟨hW,by omega⟩
   ·cases h
theorem ot {dz:List UInt8->Int}:∀(ts:List Trm) (ds:List (List UInt8)) {X Y:Scp},dG dz X ts ds=.ok Y->WfS X->WfS Y/\Y.vs.length<=X.vs.length+ts.length
 |[],ds,X,Y,h,hW=>by simp only[dG]at h;injection h with h;subst h;exact⟨hW,by omega⟩
 |t::ts,[],X,Y,h,hW=>by simp only[dG]at h;injection h with h;subst h;exact⟨hW,by omega⟩
 |t::ts,d::ds,X,Y,h,hW=>by
  simp only[dG]at h
  cases h1:fD dz X t d with
  |error e=>rw[h1]at h;cases h
  |ok Z=>
   rw[h1,eK]at h
   obtain⟨g1,g2⟩:=yq h1 hW
   obtain⟨k1,k2⟩:=ot ts ds h g1
   exact⟨k1,by simp only[List.length_cons];omega⟩
theorem ku {p:Pgm}{X Y:Scp}{a:Atm}(h:ce p X a=.ok Y)(hW:WfS X):WfS Y/\Y.vs.length<=X.vs.length+a.ts.length:=by
 unfold ce at h
 split at h
 ·cases h
 ·split at h
  ·cases h
  ·split at h
   ·cases h
   ·exact ot _ _ h hW
theorem sO (t:St)(p b1 b2 xb bm:Nat)(x:Pgm)(X Y:Scp)(a:Atm)(o0:Own)(hp:PrAt t p b1 b2 x)(hxb:t xb=.free)(hbm:t bm=.free)(hne:¬ bm=xb)(hW:WfS X)(ha:a.ts.length<=100000)(hX:X.vs.length<=10000000)(h:ce x X a=.ok Y) :
  SRet Tryz.prog 109 [.ptr p 0,.ptr xb 0,.agg [.bool a.not,.str a.rel,.lst (a.ts.map aA) o0]] (Scm t xb bm X) (.int .i64 0) (Scm t xb bm Y):=by
 have:=wu t p b1 b2 xb bm x X a o0 hp hxb hbm hne hW ha hX
 rw[h]at this
 exact this.mono fun w u hq=>⟨hq.1,hq.2.1⟩
theorem sP (t:St)(p b1 b2 xb bm:Nat)(x:Pgm)(X:Scp)(e:Int)(a:Atm)(o0:Own)(hp:PrAt t p b1 b2 x)(hxb:t xb=.free)(hbm:t bm=.free)(hne:¬ bm=xb)(hW:WfS X)(ha:a.ts.length<=100000)(hX:X.vs.length<=10000000)(h:ce x X a=.error e) :
  SCalls Tryz.prog 109 [.ptr p 0,.ptr xb 0,.agg [.bool a.not,.str a.rel,.lst (a.ts.map aA) o0]] (Scm t xb bm X) fun w u=>∃Y:Scp,w=.ret (.int .i64 e)/\u=Scm t xb bm Y/\True:=by
 have:=wu t p b1 b2 xb bm x X a o0 hp hxb hbm hne hW ha hX
 rw[h]at this
 exact this.mono fun w u hq=>by obtain⟨h1,_,Y,h2⟩:=hq;exact⟨Y,h1,h2,trivial⟩
theorem fB {p:Pgm}{X:Scp}{a:Atm}{e:Int}(h:ce p X a=.error e):e≠0:=by
 have hts:∀(ts:List Trm) (ds:List (List UInt8)) (X:Scp),dG (dM p.doms) X ts ds=.error e->e≠0:=by
  intro ts
  induction ts with
  |nil=>intro ds X h;simp only[dG]at h;cases h
  |cons t ts ih=>
   intro ds X h
   cases ds with
   |nil=>simp only[dG]at h;cases h
   |cons d ds=>
    simp only[dG]at h
    cases h1:fD (dM p.doms) X t d with
    |error e'=>rw[h1]at h;injection h with h;subst h;exact wO h1
    |ok Z=>rw[h1,eK]at h;exact ih _ _ h
 unfold ce at h
 split at h
 ·injection h with h;subst h;decide
 ·split at h
  ·injection h with h;subst h;decide
  ·split at h
   ·injection h with h;subst h;decide
   ·exact hts _ _ _ h
theorem GS.scm0 {T:St}{xb bm:Nat}(h:T xb=.obj 147 [.lst [] .full,.lst [] .full,.mp bm]):GS T (T.set xb (.pk 147 [.lst [] .no,.lst [] .no,.mp bm] pO)):=by
 have hd:∀t:St,t.disown .full=t:=fun _=>rfl
 have g1:=GS.topk h
 have g2:=GS.pack (i:=0) (l:=[]) (o:=.full) (T':=9) (sz:=1) (rs':=[(0,9,1)]) (q_ T xb (.pk 147 [.lst [] .full,.lst [] .full,.mp bm] [])) rfl rfl (by simp)
 rw[hd,St.set_set]at g2
 have g3:=GS.pack (i:=1) (l:=[]) (o:=.full) (T':=9) (sz:=1) (rs':=pO) (q_ T xb (.pk 147 [.lst [] .no,.lst [] .full,.mp bm] [(0,9,1)])) rfl rfl (by simp)
 rw[hd,St.set_set]at g3
 exact g1.trans (g2.trans g3)
theorem xE {l:List Atm}{i:Nat}{a:Atm}(h:l[i]?=some a)(n:List UInt8):du (l.take (i+1)) n=(du (l.take i) n || (!a.not && a.ts.any fun t=>t.var && decide (t.nm=n))):=by
 unfold du;rw[b9 h,List.any_append];simp
theorem qc {H:List (List UInt8×Bool)}{T:List Trm}{j:Nat}{d:Trm}{B0:List UInt8->Bool}{cn:Bool}(h:∀n,(lkA n H).getD false=(B0 n || (!cn && (T.take j).any fun t=>t.var && decide (t.nm=n))))(hd:T[j]?=some d)(hno:d.var=false\/cn=true) :
  ∀n,(lkA n H).getD false=(B0 n || (!cn && (T.take (j+1)).any fun t=>t.var && decide (t.nm=n))):=by
 intro n
 rw[h n,b9 hd,List.any_append]
 rcases hno with e|e
 ·simp[e]
 ·simp[e]
theorem CE {H:List (List UInt8×Bool)}{T:List Trm}{j:Nat}{dn:List UInt8}{dz:Int}{B0:List UInt8->Bool}(h:∀n,(lkA n H).getD false=(B0 n || (!false && (T.take j).any fun t=>t.var && decide (t.nm=n))))(hd:T[j]?=some ⟨true,dn,dz⟩) :
  ∀n,(lkA n (ptA dn true H)).getD false=(B0 n || (!false && (T.take (j+1)).any fun t=>t.var && decide (t.nm=n))):=by
 intro n
 rw[vG,b9 hd,List.any_append]
 by_cases e:n=dn
 ·subst e;simp
 ·rw[if_neg e,h n]
  have e2:¬ dn=n:=fun x=>e x.symm
  simp[e2]
def ScQ (t:St)(r:Except Int Scp):SEnd->St->Prop:=fun w u=>
 match r with
 |.ok Y=>∃xb bm,w=.ret (.tup [.ptr xb 0,.int .i64 0])/\Fg u t/\u xb=.pk 147 [.lst (aw Y.vs) .no,.lst (aw Y.ds) .no,.mp bm] pO
 |.error e=>w=.ret (.tup [.raw (.pointer none),.int .i64 e])/\u=t
theorem GS.scm1 {t:St}{xb bm:Nat}:GS ((t.set bm (.map [])).set xb (.obj 147 [.lst [] .full,.lst [] .full,.mp bm])) (Scm t xb bm ⟨[],[]⟩):=by
 have:=GS.scm0 (T:=(t.set bm (.map [])).set xb (.obj 147 [.lst [] .full,.lst [] .full,.mp bm])) (bm:=bm) (q_ _ _ _)
 rw[St.set_set]at this
 exact this
section
variable (t : St) (p b1 b2 xb bm : Nat) (x : Pgm) (a : Atm) (o0 : Own) (hp : PrAt t p b1 b2 x) (hxb : t xb = .free) (hbm : t bm = .free) (hne : ¬ bm = xb) (ha : a.ts.length <= 100000)
include hp hxb hbm hne ha
theorem xT (Y:Scp)(h:ce x ⟨[],[]⟩ a=.ok Y) :
  SRet Tryz.prog 109 [.ptr p 0,.ptr xb 0,.agg [.bool a.not,.str a.rel,.lst (a.ts.map aA) o0]] ((t.set bm (.map [])).set xb (.obj 147 [.lst [] .full,.lst [] .full,.mp bm])) (.int .i64 0) (Scm t xb bm Y):=
 fun w0 G w vs hS hR=>sO t p b1 b2 xb bm x ⟨[],[]⟩ Y a o0 hp hxb hbm hne rfl ha (by simp) h w0 G w vs (GS.scm1 _ _ _ hS) hR
theorem xU (e:Int)(h:ce x ⟨[],[]⟩ a=.error e) :
  SCalls Tryz.prog 109 [.ptr p 0,.ptr xb 0,.agg [.bool a.not,.str a.rel,.lst (a.ts.map aA) o0]] ((t.set bm (.map [])).set xb (.obj 147 [.lst [] .full,.lst [] .full,.mp bm])) fun w u=>∃Y:Scp,w=.ret (.int .i64 e)/\u=Scm t xb bm Y/\True:=
 fun w0 G w vs hS hR=>sP t p b1 b2 xb bm x ⟨[],[]⟩ e a o0 hp hxb hbm hne rfl ha (by simp) h w0 G w vs (GS.scm1 _ _ _ hS) hR
end
theorem pC (l:List Atm)(a:Atm)(o0:Own)(bm:Nat)(mp:List (List UInt8×Bool))(ha:a.ts.length<=140737488355328)(t:St)(hm:t bm=.map (mpV cO mp))(hg:∀n,(lkA n mp).getD false=du l n) :
  SRet Tryz.prog 110 [.agg [.bool a.not,.str a.rel,.lst (a.ts.map aA) o0],.mp bm] t (.bool (dm l a)) t:=by
 have:=xP a o0 bm mp ha t hm
 simp only[hg]at this
 exact this
set_option maxHeartbeats 8000000 in
theorem nO (t:St)(p b1 b2:Nat)(x:Pgm)(r:Rul)(hp:PrAt t p b1 b2 x)(hh:r.head.ts.length<=100000)(hb:r.body.length<=10)(hba:∀a,a∈r.body->a.ts.length<=100000) :
  SCalls Tryz.prog 78 [.ptr p 0,.agg (az r)] t (ScQ t (cF x r)):=by
 obtain⟨⟨hn,hr,hts⟩,body⟩:=r
 simp only at hh hb hba
 generalize hR:cF x ⟨⟨hn,hr,hts⟩,body⟩=R
 unfold cF at hR
 simp only at hR
 have HR:=u_ hR
 clear hR
 have hpp:=hp
 obtain⟨hp0,h10,h20⟩:=hp
 have hpf:t p≠.free:=by rw[hp0];simp
 have h1f:t b1≠.free:=by rw[h10];simp
 have h2f:t b2≠.free:=by rw[h20];simp
 have HP:=u_ hpp
 clear hpp hp0 h10 h20
 have hblen:body.length<=10:=hb
 clear hb
 refine SCalls.gs ?_
 cases hA:ce x ⟨[],[]⟩ ⟨hn,hr,hts⟩with
 |error e=>
  have hen:=fB hA
  have HA:=u_ hA
  rw[hA,iK]at HR
  clear hA
  refine bh Tryz.func78 rfl Tryz.ntmps78 rfl fun Q hQ hQe=>?_
  (repeat'(first|refine Ctl ?_|((with_reducible refine j_ hK ?_);clear hK hE K E)|((with_reducible refine aj (fun h=>?_) (fun h=>?_))<;>(try(exfalso;assumption)))|((first|(with_reducible refine ae fun K E hK hE=>?_)|((with_reducible refine aT qr (xU _ _ b1 b2 _ _ x ⟨hn,hr,hts⟩ _ (HP.out.fg (v_ _ (by assumption))) (by rw[k_ _ _ (by assumption)];assumption) (by rw[k_ _ _ (by assumption)];assumption) (by assumption) hh e HA.out) (fun a h=>?_)))|((with_reducible refine ao (fun b hb=>?_));(repeat(obtain⟨_,hb⟩:=hb));(try(obtain⟨_,_⟩:=nef hb hpf;obtain⟨_,_⟩:=nef hb h1f;obtain⟨_,_⟩:=nef hb h2f))))<;>(try simp(disch:=omega) only[go_sem,seval,az, *]))))
  all_goals(refine ap oV hQ ?_)
  rw[<- show _=R from HR]
  exact⟨_,t,Wk.refl _,(by unfold Scm;(exact bj):Fg _ _),t,GS.refl _,rfl,rfl⟩
 |ok Y=>
  rw[hA,eK]at HR
  have HA:=u_ hA
  clear hA
  refine bh Tryz.func78 rfl Tryz.ntmps78 rfl fun Q hQ hQe=>?_
  (repeat'(first|refine Ctl ?_|((with_reducible refine j_ hK ?_);clear hK hE K E)|((with_reducible refine aj (fun h=>?_) (fun h=>?_))<;>(try(exfalso;assumption)))|((first|(with_reducible first|refine ae fun K E hK hE=>?_|refine ak qr (xT _ _ b1 b2 _ _ x ⟨hn,hr,hts⟩ _ (HP.out.fg (v_ _ (by assumption))) (by rw[k_ _ _ (by assumption)];assumption) (by rw[k_ _ _ (by assumption)];assumption) (by assumption) hh Y HA.out) ?_)|((with_reducible refine ao (fun b hb=>?_));(repeat(obtain⟨_,hb⟩:=hb));(try(obtain⟨_,_⟩:=nef hb hpf;obtain⟨_,_⟩:=nef hb h1f;obtain⟨_,_⟩:=nef hb h2f))))<;>(try simp(disch:=first|assumption|omega) only[go_sem,seval,az, *]))))
  rename_i br hbr r1 r2 r3 r4 r5 r6 bm m1 m2 hbm m3 m4 m5 m6 m7 m8 xb x1 x2 x3 x4 hxb x5 x6 x7 x8 x9 x10 y1 y2 y3 y4 y5 y6 y7 y8 y9 y10 y11 y12
  obtain⟨bg,hbg⟩:∃z,z=b:=⟨_,rfl⟩
  subst hbg
  have hWY:=ku HA.out rfl
  simp only[List.length_nil,Nat.zero_add]at hWY
  obtain⟨hWY,hYl⟩:=hWY
  have hPB:PrAt (t.set br (.obj 43 [.bool hn,.str hr,.lst (hts.map aA) .no,.lst (body.map aF) .no])) p b1 b2 x:=HP.out.fg (v_ _ hbr)
  have hBr:(t.set br (.obj 43 [.bool hn,.str hr,.lst (hts.map aA) .no,.lst (body.map aF) .no])) br=.obj 43 [.bool hn,.str hr,.lst (hts.map aA) .no,.lst (body.map aF) .no]:=q_ _ _ _
  have hBx:(t.set br (.obj 43 [.bool hn,.str hr,.lst (hts.map aA) .no,.lst (body.map aF) .no])) xb=.free:=by rw[k_ _ _ (by assumption)];exact hxb
  have hBm:(t.set br (.obj 43 [.bool hn,.str hr,.lst (hts.map aA) .no,.lst (body.map aF) .no])) bm=.free:=by rw[k_ _ _ (by assumption)];exact hbm
  have hBg:(t.set br (.obj 43 [.bool hn,.str hr,.lst (hts.map aA) .no,.lst (body.map aF) .no])) bg=.free:=by rw[k_ _ _ (by assumption)];exact hb
  have hFB:Fg (t.set br (.obj 43 [.bool hn,.str hr,.lst (hts.map aA) .no,.lst (body.map aF) .no])) t:=v_ _ hbr
  generalize t.set br (.obj 43 [.bool hn,.str hr,.lst (hts.map aA) .no,.lst (body.map aF) .no])=B at *
  have HF:=u_ hFB
  have HPB:=u_ hPB
  obtain⟨hPB1,hPB2,hPB3⟩:=hPB
  have hBp:B p≠.free:=by rw[hPB1];simp
  have hB1:B b1≠.free:=by rw[hPB2];simp
  have hB2:B b2≠.free:=by rw[hPB3];simp
  have hBrf:B br≠.free:=by rw[hBr];simp
  clear hFB hPB1 hPB2 hPB3 hbr hxb hbm hb hpf h1f h2f HP HA
  generalize hK:(fun y:Scp=>if (dm body ⟨hn,hr,hts⟩ && body.all (dm body))=false then(Except.error 125:Except Int Scp)else if 8<y.vs.length then .error 2 else .ok y)=KK at HR
  have HK:=u_ hK
  clear hK
  refine eF (fun m env s'=>∃(i:Nat) (Z:Scp) (G:List (List UInt8×Bool)),i<=body.length/\m+i=body.length/\(WfS Z/\Z.vs.length<=100000 * (i+1)/\Hid ((∀n,(lkA n G).getD false=du (body.take i) n))/\Hid (eb (cU x Z (body.drop i)) KK=R))/\s'=Scm (B.set bg (.map (mpV cO G))) xb bm Z /\
   env 0=.ptr p 0/\env 3=.ptr br 0/\env 6=.ptr xb 0/\env 8=.mp bg/\env 30=.lst (body.map aF) .no/\env 31=.int .i64 body.length/\env 32=.int .i64 i) body.length ?_ ?_
  ·exact⟨_,GS.refl _,0,Y,[],by omega,by omega,⟨hWY,by omega,u_ (fun n=>by simp[lkA,du]),HR⟩,rfl,ab,ab,ab,ab,ab,ab,ab⟩
  ·clear hWY hYl HR
   rintro m env s' ⟨i,Z,G,hi,hm,⟨hWZ,hZl,HG,HRZ⟩,rfl,e0,e3,e6,e8,e30,e31,e32⟩
   by_cases hlt:i<body.length
   ·obtain⟨c,hc⟩:=aO hlt
    have hct:=hba c (p_ hc)
    have hsx:=c5 hc
    have HC:=u_ hc
    have hHR:=HRZ.out
    rw[g_ hlt,show body[i]=c by rw[b_ hlt]at hc;injection hc]at hHR
    simp only[cU]at hHR
    clear hc
    obtain⟨cn,cr,cts⟩:=c
    simp only at hct
    cases hA2:ce x Z ⟨cn,cr,cts⟩with
    |error e=>
     have hen:=fB hA2
     have HA2:=u_ hA2
     rw[hA2,iK,iK]at hHR
     have HE:=u_ hHR
     clear hHR hA2 HRZ
     (repeat'(first|refine Ctl ?_|((with_reducible refine j_ hK ?_);clear hK hE K E)|((with_reducible refine aj (fun h=>?_) (fun h=>?_))<;>(try(exfalso;assumption)))|((first|(with_reducible refine ae fun K E hK hE=>?_)|((with_reducible refine aT qr (sP _ p b1 b2 _ _ x Z e ⟨cn,cr,cts⟩ _ ((HPB.out.fg (v_ _ hBg)).fg (v_ _ (by rw[k_ _ _ (by assumption)];assumption))) (by rw[k_ _ _ (by assumption),k_ _ _ (by assumption)];exact hBx) (by rw[k_ _ _ (by assumption),k_ _ _ (by assumption)];exact hBm) (by assumption) hWZ hct (by omega) HA2.out) (fun a h=>?_)))|((with_reducible refine ao (fun b hb=>?_));(repeat(obtain⟨_,hb⟩:=hb));(try(obtain⟨_,_⟩:=nef hb hBp;obtain⟨_,_⟩:=nef hb hB1;obtain⟨_,_⟩:=nef hb hB2;obtain⟨_,_⟩:=nef hb hBrf))))<;>(try simp(disch:=first|assumption|omega) only[go_sem,seval,hsx,aF,a_, *]))))
     all_goals(refine ap oV hQ ?_)
     rw[<- show _=R from HE]
     exact⟨_,t,Wk.refl _,(by unfold Scm;(exact bj):Fg _ B).trans HF.out,t,GS.refl _,rfl,rfl⟩
    |ok W=>
     rw[hA2,eK]at hHR
     have HE:=u_ hHR
     have HA2:=u_ hA2
     clear hHR hA2 HRZ
     (repeat'(first|refine Ctl ?_|((with_reducible refine j_ hK ?_);clear hK hE K E)|((with_reducible refine aj (fun h=>?_) (fun h=>?_))<;>(try(exfalso;assumption)))|((first|(with_reducible first|refine ae fun K E hK hE=>?_|refine ak qr (sO _ p b1 b2 _ _ x Z W ⟨cn,cr,cts⟩ _ ((HPB.out.fg (v_ _ hBg)).fg (v_ _ (by rw[k_ _ _ (by assumption)];assumption))) (by rw[k_ _ _ (by assumption),k_ _ _ (by assumption)];exact hBx) (by rw[k_ _ _ (by assumption),k_ _ _ (by assumption)];exact hBm) (by assumption) hWZ hct (by omega) HA2.out) ?_)|((with_reducible refine ao (fun b hb=>?_));(repeat(obtain⟨_,hb⟩:=hb));(try(obtain⟨_,_⟩:=nef hb hBp;obtain⟨_,_⟩:=nef hb hB1;obtain⟨_,_⟩:=nef hb hB2;obtain⟨_,_⟩:=nef hb hBrf))))<;>(try simp(disch:=first|assumption|omega) only[go_sem,seval,hsx,aF,a_, *]))))
     obtain⟨be,hbe⟩:∃z,z=b:=⟨_,rfl⟩
     subst hbe
     have hWW:=ku HA2.out hWZ
     obtain⟨hWW,hWl⟩:=hWW
     simp only at hWl
     rw[show (B.set bg (.map (mpV cO G))).set be (.obj 40 [.bool cn,.str cr,.lst (cts.map aA) .no])=(B.set be (.obj 40 [.bool cn,.str cr,.lst (cts.map aA) .no])).set bg (.map (mpV cO G)) from cu (by assumption)]
     have hCe:(B.set be (.obj 40 [.bool cn,.str cr,.lst (cts.map aA) .no])) be=.obj 40 [.bool cn,.str cr,.lst (cts.map aA) .no]:=q_ _ _ _
     have hCr:(B.set be (.obj 40 [.bool cn,.str cr,.lst (cts.map aA) .no])) br=B br:=by rw[k_ _ _ (by assumption)]
     have hCg:(B.set be (.obj 40 [.bool cn,.str cr,.lst (cts.map aA) .no])) bg=.free:=by rw[k_ _ _ (by assumption)];exact hBg
     have hFC:Fg (B.set be (.obj 40 [.bool cn,.str cr,.lst (cts.map aA) .no])) B:=v_ _ hb
     generalize B.set be (.obj 40 [.bool cn,.str cr,.lst (cts.map aA) .no])=C at *
     have HFC:=u_ hFC
     have hCef:C be≠.free:=by rw[hCe];simp
     have hCrf:C br≠.free:=by rw[hCr];exact hBrf
     clear hFC hCr HA2 hb
     refine eF (fun m' env s'=>∃(j:Nat) (H:List (List UInt8×Bool)),j<=cts.length/\m'+j=cts.length/\Hid (∀n,(lkA n H).getD false=(du (body.take i) n || (!cn && (cts.take j).any fun t=>t.var && decide (t.nm=n))))/\s'=Scm (C.set bg (.map (mpV cO H))) xb bm W /\
      env 0=.ptr p 0/\env 3=.ptr br 0/\env 6=.ptr xb 0/\env 8=.mp bg/\env 30=.lst (body.map aF) .no/\env 31=.int .i64 body.length/\env 32=.int .i64 i/\env 10=.ptr be 0/\env 44=.lst (cts.map aA) .no/\env 45=.int .i64 cts.length/\env 46=.int .i64 j) cts.length ?_ ?_
     ·exact⟨_,GS.refl _,0,G,by omega,by omega,u_ (fun n=>by rw[HG.out n];simp),rfl,ab,ab,ab,ab,ab,ab,ab,ab,ab,ab,ab⟩
     ·clear e0 e3 e6 e8 e30 e31 e32
      rintro m' env s' ⟨j,H,hj,hm',HH,rfl,e0,e3,e6,e8,e30,e31,e32,e10,e44,e45,e46⟩
      by_cases hlj:j<cts.length
      ·obtain⟨d,hd⟩:=aO hlj
       have hsd:=c7 hd
       have HD:=u_ hd
       clear hd
       obtain⟨dv,dn,dz⟩:=d
       cases dv
       all_goals cases cn
       all_goals(repeat'(first|refine Ctl ?_|((with_reducible refine j_ hK ?_);clear hK hE K E)|((with_reducible refine aj (fun h=>?_) (fun h=>?_))<;>(try(exfalso;assumption)))|((first|(with_reducible refine ae fun K E hK hE=>?_)|((with_reducible refine ao (fun b hb=>?_));(repeat(obtain⟨_,hb⟩:=hb));(try(obtain⟨_,_⟩:=nef hb hCef;obtain⟨_,_⟩:=nef hb hCrf))))<;>(try simp(disch:=first|assumption|omega) only[go_sem,seval,hsd,aA,a_, *]))))
       ·exact⟨Scm (C.set bg (.map (mpV cO H))) xb bm W,GS.of_fg (Fg.scm (v_ _ (by rw[k_ _ _ (by assumption)];exact hb))),m' - 1,by omega,j+1,H,by omega,by omega,u_ (qc HH.out HD.out (.inl rfl)),rfl,ab,ab,ab,ab,ab,ab,ab,ab,ab,ab,ab⟩
       ·exact⟨Scm (C.set bg (.map (mpV cO H))) xb bm W,GS.of_fg (Fg.scm (v_ _ (by rw[k_ _ _ (by assumption)];exact hb))),m' - 1,by omega,j+1,H,by omega,by omega,u_ (qc HH.out HD.out (.inr rfl)),rfl,ab,ab,ab,ab,ab,ab,ab,ab,ab,ab,ab⟩
       ·exact⟨Scm (C.set bg (.map (mpV cO (ptA dn true H)))) xb bm W,GS.of_fg (Fg.scm (v_ _ (by rw[k_ _ _ (by assumption)];exact hb))),m' - 1,by omega,j+1,ptA dn true H,by omega,by omega,u_ (CE HH.out HD.out),rfl,ab,ab,ab,ab,ab,ab,ab,ab,ab,ab,ab⟩
       ·exact⟨Scm (C.set bg (.map (mpV cO H))) xb bm W,GS.of_fg (Fg.scm (v_ _ (by rw[k_ _ _ (by assumption)];exact hb))),m' - 1,by omega,j+1,H,by omega,by omega,u_ (qc HH.out HD.out (.inr rfl)),rfl,ab,ab,ab,ab,ab,ab,ab,ab,ab,ab,ab⟩
      ·(repeat'(first|refine Ctl ?_|((with_reducible refine j_ hK ?_);clear hK hE K E)|((with_reducible refine aj (fun h=>?_) (fun h=>?_))<;>(try(exfalso;assumption)))|(((with_reducible refine ae fun K E hK hE=>?_))<;>(try simp(disch:=omega) only[go_sem,seval,a_, *]))))
       refine⟨Scm (B.set bg (.map (mpV cO H))) xb bm W,GS.of_fg (Fg.scm (Fg.set HFC.out _ _)),m - 1,by omega,i+1,W,H,by omega,by omega,⟨hWW,by omega,u_ (fun n=>?_),HE⟩,rfl,ab,ab,ab,ab,ab,ab,ab⟩
       have:=HH.out n
       rw[show j=cts.length by omega,f_]at this
       rw[this,xE HC.out]
   ·have hiL:i=body.length:=by omega
    have hGb:=HG.out
    rw[hiL,f_]at hGb
    have HGB:=u_ hGb
    have hRf:=HRZ.out
    rw[hiL,G_]at hRf
    simp only[cU,eK]at hRf
    rw[<- HK.out]at hRf
    have HRF:=u_ hRf
    clear hGb hRf HRZ HG HK
    subst hiL
    (repeat'(first|refine Ctl ?_|((with_reducible refine j_ hK ?_);clear hK hE K E)|((with_reducible refine aj (fun h=>?_) (fun h=>?_))<;>(try(exfalso;assumption)))|(((with_reducible first|refine ae fun K E hK hE=>?_|refine ak AP (pC body ⟨hn,hr,hts⟩ _ bg G (by simp only;omega) _ (by rw[qy (by assumption) (by assumption),q_]) HGB.out) ?_))<;>(try simp(disch:=first|assumption|omega) only[go_sem,seval,a_, *]))))
    have hSx:(Scm (B.set bg (.map (mpV cO G))) xb bm Z) xb=.pk 147 [.lst (aw Z.vs) .no,.lst (aw Z.ds) .no,.mp bm] pO:=qz
    have hSg:(Scm (B.set bg (.map (mpV cO G))) xb bm Z) bg=.map (mpV cO G):=by rw[qy (by assumption) (by assumption),q_]
    have hFS:Fg (Scm (B.set bg (.map (mpV cO G))) xb bm Z) B:=by unfold Scm;(exact bj)
    generalize Scm (B.set bg (.map (mpV cO G))) xb bm Z=S at *
    have HFS:=u_ (hFS.trans HF.out)
    have hSxf:S xb≠.free:=by rw[hSx];simp
    have hSgf:S bg≠.free:=by rw[hSg];simp
    clear hFS
    generalize hwh:dm body ⟨hn,hr,hts⟩=wh at *
    refine eF (fun m env s'=>∃i:Nat,i<=body.length/\m+i=body.length/\s'=S/\env 6=.ptr xb 0/\env 8=.mp bg/\env 14=.bool (wh && (body.take i).all (dm body))/\env 67=.lst (body.map aF) .no/\env 68=.int .i64 body.length/\env 69=.int .i64 i) body.length ?_ ?_
    ·exact⟨S,GS.refl _,0,by omega,by omega,rfl,ab,ab,by simp only[List.take_zero,List.all_nil,Bool.and_true];((try simp(disch:=assumption) only[go_sem,seval, *])<;>rfl),ab,ab,ab⟩
    ·clear e0 e3 e6 e8 e30 e31 e32
     rintro m env s' ⟨i,hi,hm,rfl,e6,e8,e14,e67,e68,e69⟩
     clear hlt
     by_cases hlt:i<body.length
     ·obtain⟨c,hc⟩:=aO hlt
      have hct:=hba c (p_ hc)
      have hsx:=c5 hc
      have hnx:(body.take (i+1)).all (dm body)=((body.take i).all (dm body) && dm body c):=by rw[b9 hc,List.all_append];simp
      have HNX:=u_ hnx
      clear hc hnx
      generalize hws:(wh && (body.take i).all (dm body))=ws at *
      have HWS:=u_ hws
      obtain⟨cn,cr,cts⟩:=c
      simp only at hct
      clear hws
      cases ws
      ·(repeat'(first|refine Ctl ?_|((with_reducible refine j_ hK ?_);clear hK hE K E)|((with_reducible refine aj (fun h=>?_) (fun h=>?_))<;>(try(exfalso;assumption)))|((first|(with_reducible refine ae fun K E hK hE=>?_)|((with_reducible refine ao (fun b hb=>?_));(try(obtain⟨_,_⟩:=nef hb hSxf;obtain⟨_,_⟩:=nef hb hSgf))))<;>(try simp(disch:=omega) only[go_sem,seval,hsx,aF,a_, *]))))
       exact⟨s',GS.of_fg (v_ _ hb),m - 1,by omega,i+1,by omega,by omega,rfl,ab,ab,by rw[HNX.out,<- Bool.and_assoc,HWS.out];((try simp(disch:=assumption) only[go_sem,seval, *])<;>rfl),ab,ab,ab⟩
      ·(repeat'(first|refine Ctl ?_|((with_reducible refine j_ hK ?_);clear hK hE K E)|((with_reducible refine aj (fun h=>?_) (fun h=>?_))<;>(try(exfalso;assumption)))|((first|(with_reducible first|refine ae fun K E hK hE=>?_|refine ak AP (pC body ⟨cn,cr,cts⟩ _ bg G (by simp only;omega) _ (by rw[k_ _ _ (by assumption)];exact hSg) HGB.out) ?_)|((with_reducible refine ao (fun b hb=>?_));(try(obtain⟨_,_⟩:=nef hb hSxf;obtain⟨_,_⟩:=nef hb hSgf))))<;>(try simp(disch:=omega) only[go_sem,seval,hsx,aF,a_, *]))))
       exact⟨s',GS.of_fg (v_ _ hb),m - 1,by omega,i+1,by omega,by omega,rfl,ab,ab,by rw[HNX.out,<- Bool.and_assoc,HWS.out,Bool.true_and];((try simp(disch:=assumption) only[go_sem,seval, *])<;>rfl),ab,ab,ab⟩
     ·have hie:i=body.length:=by omega
      rw[hie,f_]at e14
      clear hlt
      have hRf:=HRF.out
      simp only at hRf
      generalize hws:(wh && body.all (dm body))=ws at *
      clear hws HRF
      subst hie
      have hvl:(aw Z.vs).length=Z.vs.length:=by simp[aw]
      cases ws
      ·rw[if_pos rfl]at hRf
       have HRF:=u_ hRf
       clear hRf
       (repeat'(first|refine Ctl ?_|((with_reducible refine j_ hK ?_);clear hK hE K E)|((with_reducible refine aj (fun h=>?_) (fun h=>?_))<;>(try(exfalso;first|assumption|omega)))|(((with_reducible refine ae fun K E hK hE=>?_))<;>(try simp(disch:=omega) only[go_sem,seval,a_, *]))))
       all_goals(refine ap oV hQ ?_)
       rw[<- show _=R from HRF]
       exact⟨_,t,Wk.refl _,HFS.out,t,GS.refl _,rfl,rfl⟩
      ·rw[if_neg (by decide)]at hRf
       by_cases h8:8<Z.vs.length
       ·rw[if_pos h8]at hRf
        have HRF:=u_ hRf
        clear hRf
        (repeat'(first|refine Ctl ?_|((with_reducible refine j_ hK ?_);clear hK hE K E)|((with_reducible refine aj (fun h=>?_) (fun h=>?_))<;>(try(exfalso;first|assumption|omega)))|(((with_reducible refine ae fun K E hK hE=>?_))<;>(try simp(disch:=omega) only[go_sem,seval,a_,hvl, *]))))
        all_goals(refine ap oV hQ ?_)
        rw[<- show _=R from HRF]
        exact⟨_,t,Wk.refl _,HFS.out,t,GS.refl _,rfl,rfl⟩
       ·rw[if_neg h8]at hRf
        have HRF:=u_ hRf
        clear hRf
        (repeat'(first|refine Ctl ?_|((with_reducible refine j_ hK ?_);clear hK hE K E)|((with_reducible refine aj (fun h=>?_) (fun h=>?_))<;>(try(exfalso;first|assumption|omega)))|(((with_reducible refine ae fun K E hK hE=>?_))<;>(try simp(disch:=omega) only[go_sem,seval,a_,hvl, *]))))
        all_goals(refine ap oV hQ ?_)
        rw[<- show _=R from HRF]
        exact⟨_,s',Wk.refl _,Fg.refl _,s',GS.refl _,xb,bm,rfl,HFS.out,hSx⟩
end Go.Proofs.YteldpmgepfaiiaaGreatDoor
namespace Go.Proofs.YteldpmgepfaiiaaGreatDoor
open Go.RowKit
def InU (e:Nat)(L:List Sgn):Prop:=∀y,y∈L->y.at_<=e/\dI y=true
theorem InU.tail {e:Nat}{L:List Sgn}(h:InU e L):InU e L.tail:=fun y hy=>h y (List.mem_of_mem_tail hy)
def PlU {α:Type}(e:Nat)(Ok:α->Prop)(N:Nat):PU α->Prop
 |.ok (a,L)=>Ok a/\InU e L/\L.length<N
 |.error (a,er)=>a<=e/\er≠0
theorem y_ {α β:Type}{e N M:Nat}{Ok:α->Prop}{Ok2:β->Prop}{x:PU α}{k:α->List Sgn->PU β}(h:PlU e Ok N x)(hk:∀a L,Ok a->InU e L->L.length<N->PlU e Ok2 M (k a L)):PlU e Ok2 M (bu x k):=by
 cases x with
 |ok q=>obtain⟨a,L⟩:=q;exact hk a L h.1 h.2.1 h.2.2
 |error q=>exact h
theorem PlU.mono {α:Type}{e N M:Nat}{Ok Ok2:α->Prop}{x:PU α}(h:PlU e Ok N x)(hk:∀a,Ok a->Ok2 a)(hn:N<=M):PlU e Ok2 M x:=by
 cases x with
 |ok q=>obtain⟨a,L⟩:=q;exact⟨hk _ h.1,h.2.1,Nat.lt_of_lt_of_le h.2.2 hn⟩
 |error q=>exact h
theorem pb {e:Nat}{L:List Sgn}(h:InU e L):zF e L<=e:=by
 cases L with
 |nil=>exact Nat.le_refl _
 |cons x L=>exact(h x (by simp)).1
theorem PlU.must {e:Nat}{L:List Sgn}{t:List UInt8}(h:InU e L):PlU e (fun _=>True) L.length (dK e L t):=by
 unfold dK;split
 ·rename_i hi
  refine⟨trivial,h.tail,?_⟩
  cases L with
  |nil=>simp[isT]at hi
  |cons x L=>simp
 ·exact⟨pb h,by decide⟩
theorem PlU.room {e:Nat}{L:List Sgn}{hv mst:Nat}{b:Bool}(h:InU e L):PlU e (fun _=>mst<=hv->b=false) (L.length+1) (ec e L hv mst b):=by
 unfold ec;split
 ·exact⟨pb h,by decide⟩
 ·rename_i hc
  refine⟨fun hm=>?_,h,by omega⟩
  cases b with
  |false=>rfl
  |true=>exact absurd ⟨hm,rfl⟩ hc
theorem kN {e:Nat}{L L':List Sgn}{hv mst:Nat}{b:Bool}{u:Unit}(h:ec e L hv mst b=.ok (u,L')):L'=L:=by
 unfold ec at h;split at h
 ·cases h
 ·injection h with h;injection h with _ h;exact h.symm
theorem Iv {x:Sgn}(h:dI x=true)(k:x.kind=1):c6 x.text=true:=by
 obtain⟨kd,t,a⟩:=x
 simp only at k
 subst k
 exact h
theorem PlU.name {e:Nat}{L:List Sgn}(h:InU e L):PlU e (fun t=>c6 t=true/\isT L 0 t=true/\cX [1] L=true) L.length (ed e L):=by
 cases L with
 |nil=>exact⟨Nat.le_refl _,by decide⟩
 |cons x L=>
  simp only[ed,j8];split
  ·rename_i hk
   exact⟨⟨Iv (h x (by simp)).2 hk,by simp[isT],by simp[cX,hk]⟩,fun y hy=>h y (by simp[hy]),by simp⟩
  ·exact⟨(h x (by simp)).1,by decide⟩
theorem Iu {x:Sgn}(h:dI x=true)(k:x.kind=2):pZ x.text<=9999999999:=by
 obtain⟨kd,t,a⟩:=x
 simp only at k
 subst k
 simp only[dI,Bool.and_eq_true,decide_eq_true_eq]at h
 obtain⟨h1,h2⟩:=h
 cases t with
 |nil=>exact absurd rfl h1
 |cons c r=>
  simp only[bC]at h2
  split at h2
  ·split at h2
   ·simp at h2
   ·rename_i hn
    injection h2 with _ h3
    have hd:=uY (p:=cY) (c::r)
    rw[h3,f_]at hd
    obtain⟨n,hn2⟩:=iM (c::r) 0 hd
    have hc:=hd c (by simp)
    have e1:¬ c=45:=by rintro rfl;revert hc;decide
    have e2:¬ c=43:=by rintro rfl;revert hc;decide
    have h4:Lib.atoi (c::r)=some (n:Int):=by simp[Lib.atoi,e1,e2,Lib.decNat,hn2]
    have h5:=Lib.decFrom_lt _ _ _ hn2
    have h6:(10:Nat) ^ (c::r).length<=10 ^ 10:=Nat.pow_le_pow_right (by omega) (by omega)
    simp only[pZ,h4,Option.getD_some,Int.toNat_natCast]
    omega
  ·split at h2
   ·split at h2
    ·simp at h2
    ·injection h2 with h2 _;exact absurd h2 (by decide)
   ·injection h2 with h2 _;exact absurd h2 (by decide)
theorem PlU.num {e:Nat}{L:List Sgn}(h:InU e L):PlU e (fun n=>n<=9999999999/\cX [1,2] L=true) L.length (pY e L):=by
 cases L with
 |nil=>exact⟨Nat.le_refl _,by decide⟩
 |cons x L=>
  simp only[pY,j8];split
  ·rename_i hk
   exact⟨⟨Iu (h x (by simp)).2 hk,by simp[cX,hk]⟩,fun y hy=>h y (by simp[hy]),by simp⟩
  ·exact⟨(h x (by simp)).1,by decide⟩
theorem Hb {L:List Sgn}(h:cX [1] L=true):cX [1,2] L=true:=by
 cases L with
 |nil=>cases h
 |cons x L=>simp only[cX,List.contains_cons,List.contains_nil,Bool.or_false,Bool.or_eq_true]at h ⊢;exact .inl h
theorem PlU.term {e:Nat}{L:List Sgn}(h:InU e L):PlU e (fun t=>gd t=true/\cX [1,2] L=true) L.length (gw e L):=by
 unfold gw;split
 ·refine y_ (PlU.num h) fun n L' hn hL hl=>⟨⟨?_,hn.2⟩,hL,hl⟩
  have:=hn.1
  simp only[gd,Bool.false_eq_true,if_false,Bool.and_eq_true,decide_eq_true_eq]
  exact⟨⟨trivial,by omega⟩,by omega⟩
 ·refine y_ (PlU.name h) fun t L' ht hL hl=>⟨⟨?_,Hb ht.2.2⟩,hL,hl⟩
  simp only[gd,if_true,ht.1,Bool.true_and,decide_eq_true_eq]
theorem PlU.listGo {α:Type}{e:Nat}{one:List Sgn->PU α}{ks:List Int}{Ok:α->Prop}(hone:∀L,InU e L->PlU e (fun x=>Ok x/\cX ks L=true) L.length (one L)) :
  ∀(f:Nat) (out:List α) (L:List Sgn),(∀x,x∈out->Ok x)->out.length<=8->InU e L->L.length<f->PlU e (fun xs=>(∀x,x∈xs->Ok x)/\0<xs.length/\xs.length<=8) L.length (listGo e one ks f out L)
 |0,out,L,_,_,_,hf=>by omega
 |f+1,out,L,ho,hl,h,hf=>by
  simp only[Proofs.YteldpmgepfaiiaaGreatDoor.listGo]
  cases hr:ec e L out.length 8 (cX ks L)with
  |error q=>have:=PlU.room (hv:=out.length) (mst:=8) (b:=cX ks L) h;rw[hr]at this;exact this
  |ok q=>
   obtain⟨u,L1⟩:=q
   have h0:=PlU.room (hv:=out.length) (mst:=8) (b:=cX ks L) h
   rw[hr]at h0
   have e1:=kN hr
   subst e1
   rw[bR]
   refine y_ (hone L1 h) fun x L2 hx hL2 hl2=>?_
   have h8:out.length<8:=by
    rcases Nat.lt_or_ge out.length 8 with h|h
    ·exact h
    ·have:=h0.1 h;rw[this]at hx;cases hx.2
   have ho2:∀y,y∈out++[x]->Ok y:=fun y hy=>by
    rcases l_.1 hy with hy|hy
    ·exact ho y hy
    ·rw[e_]at hy;subst hy;exact hx.1
   split
   ·refine(PlU.listGo hone f (out++[x]) L2.tail ho2 (by simp;omega) hL2.tail (by rw[List.length_tail];omega)).mono (fun _ h=>h) (by rw[List.length_tail];omega)
   ·exact⟨⟨ho2,by simp,by simp;omega⟩,hL2,hl2⟩
theorem PlU.list {α:Type}{e:Nat}{one:List Sgn->PU α}{ks:List Int}{Ok:α->Prop}(hone:∀L,InU e L->PlU e (fun x=>Ok x/\cX ks L=true) L.length (one L)){L:List Sgn}(h:InU e L) :
  PlU e (fun xs=>(∀x,x∈xs->Ok x)/\0<xs.length/\xs.length<=8) L.length (iG e one ks L):=by
 unfold iG
 refine y_ (PlU.must h) fun _ L1 _ h1 l1=>y_ (PlU.listGo hone (L1.length+1) [] L1 (fun x hx=>by cases hx) (by simp) h1 (by omega)) fun xs L2 hx h2 l2=>y_ (PlU.must h2) fun _ L3 _ h3 l3=>⟨hx,h3,by omega⟩
theorem PlU.atom {e:Nat}{L:List Sgn}{nt:Bool}(h:InU e L):PlU e (fun a=>dl a=true/\a.not=nt/\isT L 0 a.rel=true/\cX [1] L=true) L.length (fc e L nt):=by
 unfold fc
 refine y_ (PlU.name h) fun rel L1 hr h1 l1=>y_ (PlU.list (Ok:=fun t=>gd t=true) (fun L h=>PlU.term h) h1) fun ts L2 ht h2 l2=>⟨⟨?_,rfl,hr.2.1,hr.2.2⟩,h2,by omega⟩
 simp only[dl,Bool.and_eq_true,decide_eq_true_eq,List.all_eq_true]
 exact⟨⟨⟨ht.1,hr.1⟩,ht.2.1⟩,ht.2.2⟩
theorem PlU.bodyGo {e:Nat}:∀(f:Nat) (out:List Atm) (L:List Sgn),(∀x,x∈out->dl x=true)->out.length<=8->InU e L->L.length<f->PlU e (fun xs=>(∀x,x∈xs->dl x=true)/\xs.length<=8) (L.length+1) (bodyGo e f out L)
 |0,out,L,_,_,_,hf=>by omega
 |f+1,out,L,ho,hl,h,hf=>by
  simp only[Proofs.YteldpmgepfaiiaaGreatDoor.bodyGo]
  cases hr:ec e L out.length 8 (cX [1] L || isT L 0 [33])with
  |error q=>have:=PlU.room (hv:=out.length) (mst:=8) (b:=cX [1] L || isT L 0 [33]) h;rw[hr]at this;exact this
  |ok q=>
   obtain⟨u,L1⟩:=q
   have h0:=PlU.room (hv:=out.length) (mst:=8) (b:=cX [1] L || isT L 0 [33]) h
   rw[hr]at h0
   have e1:=kN hr
   subst e1
   rw[bR]
   have hM:InU e (if isT L1 0 [33]=true then L1.tail else L1)/\(if isT L1 0 [33]=true then L1.tail else L1).length<=L1.length:=by
    split
    ·exact⟨h.tail,by simp⟩
    ·exact⟨h,Nat.le_refl _⟩
   refine y_ (PlU.atom hM.1) fun x L2 hx hL2 hl2=>?_
   have h8:out.length<8:=by
    rcases Nat.lt_or_ge out.length 8 with h|h
    ·exact h
    ·have:=h0.1 h
     simp only[Bool.or_eq_false_iff]at this
     have h3:=hx.2.2.2
     rw[this.2,if_neg (by simp),this.1]at h3
     cases h3
   have ho2:∀y,y∈out++[x]->dl y=true:=fun y hy=>by
    rcases l_.1 hy with hy|hy
    ·exact ho y hy
    ·rw[e_]at hy;subst hy;exact hx.1
   split
   ·refine(PlU.bodyGo f (out++[x]) L2.tail ho2 (by simp;omega) hL2.tail (by rw[List.length_tail];omega)).mono (fun _ h=>h) (by rw[List.length_tail];omega)
   ·exact⟨⟨ho2,by simp;omega⟩,hL2,by omega⟩
theorem PlU.rule {e:Nat}{L:List Sgn}(h:InU e L)(h1:isT L 0 [100,111,109]=false)(h2:isT L 0 [114,101,108]=false):PlU e (fun x=>d8 x=true/\cX [1] L=true) L.length (lv e L):=by
 unfold lv
 refine y_ (PlU.atom h) fun hd L1 hh i1 l1=>?_
 have key:PlU e (fun xs=>(∀x,x∈xs->dl x=true)/\xs.length<=8) (L1.length+1) (if isT L1 0 [58,45]=true then Proofs.YteldpmgepfaiiaaGreatDoor.bodyGo e (L1.length+1) [] L1.tail else .ok ([],L1)):=by
  split
  ·exact(PlU.bodyGo (L1.length+1) [] L1.tail (fun x hx=>by cases hx) (by simp) i1.tail (by rw[List.length_tail];omega)).mono (fun _ h=>h) (by rw[List.length_tail];omega)
  ·exact⟨⟨(fun x hx=>by cases hx),by simp⟩,i1,by omega⟩
 refine y_ key fun b L2 hb i2 l2=>y_ (PlU.must i2) fun _ L3 _ i3 l3=>⟨⟨?_,hh.2.2.2⟩,i3,by omega⟩
 have d1:hd.rel≠[100,111,109]:=by intro e;have:=hh.2.2.1;rw[e,h1]at this;cases this
 have d2:hd.rel≠[114,101,108]:=by intro e;have:=hh.2.2.1;rw[e,h2]at this;cases this
 simp only[d8,Bool.and_eq_true,decide_eq_true_eq,List.all_eq_true,Bool.not_eq_true']
 exact⟨⟨⟨⟨⟨hh.1,hh.2.1⟩,d1⟩,d2⟩,hb.2⟩,hb.1⟩
theorem pW {ds:List Dm}{cs:List Dcl}{rs:List Rul}(l1:ds.length<=32)(l2:cs.length<=32)(l3:rs.length<=64)(h1:∀d,d∈ds->dmB d=true)(h2:∀d,d∈cs->eO d=true)(h3:∀d,d∈rs->d8 d=true):cE ⟨ds,cs,rs⟩=true:=by
 simp only[cE,Bool.and_eq_true,decide_eq_true_eq,List.all_eq_true]
 exact⟨⟨⟨⟨⟨l1,l2⟩,l3⟩,h1⟩,h2⟩,h3⟩
theorem lY {x:Pgm}(h:cE x=true):x.doms.length<=32/\x.decls.length<=32/\x.rules.length<=64/\(∀d,d∈x.doms->dmB d=true)/\(∀d,d∈x.decls->eO d=true)/\(∀d,d∈x.rules->d8 d=true):=by
 simp only[cE,Bool.and_eq_true,decide_eq_true_eq,List.all_eq_true]at h
 obtain⟨⟨⟨⟨⟨l1,l2⟩,l3⟩,h1⟩,h2⟩,h3⟩:=h
 exact⟨l1,l2,l3,h1,h2,h3⟩
theorem nJ {α:Type}{p:α->Prop}{l:List α}{x:α}(h:∀y,y∈l->p y)(hx:p x):∀y,y∈l++[x]->p y:=fun y hy=>by
 rcases l_.1 hy with hy|hy
 ·exact h y hy
 ·rw[e_]at hy;subst hy;exact hx
theorem PlU.item {e:Nat}{x:Pgm}{L:List Sgn}(hx:cE x=true)(h:InU e L):PlU e (fun y=>cE y=true) L.length (rU e x L):=by
 obtain⟨l1,l2,l3,h1,h2,h3⟩:=lY hx
 unfold rU
 split
 ·unfold CT
  refine y_ (PlU.room h) fun _ L1 r1 i1 g1=>y_ (PlU.must i1) fun _ L2 _ i2 g2=>y_ (PlU.name i2) fun n L3 r3 i3 g3=>y_ (PlU.num i3) fun z L4 r4 i4 g4=>y_ (PlU.must i4) fun _ L5 _ i5 g5=>⟨?_,i5,by omega⟩
  have hlt:x.doms.length<32:=by
   rcases Nat.lt_or_ge x.doms.length 32 with h|h
   ·exact h
   ·have:=r1 h;cases this
  refine pW (by rw[d_,List.length_singleton];omega) l2 l3 (nJ h1 ?_) h2 h3
  have:=r4.1
  simp only[dmB,Bool.and_eq_true,decide_eq_true_eq]
  exact⟨⟨r3.1,by omega⟩,by omega⟩
 ·split
  ·unfold BK
   refine y_ (PlU.room h) fun _ L1 r1 i1 g1=>y_ (PlU.must i1) fun _ L2 _ i2 g2=>y_ (PlU.name i2) fun n L3 r3 i3 g3=>y_ (PlU.list (Ok:=fun t=>c6 t=true) (fun L h=>(PlU.name h).mono (fun _ h=>⟨h.1,h.2.2⟩) (Nat.le_refl _)) i3) fun ds L4 r4 i4 g4=>y_ (PlU.must i4) fun _ L5 _ i5 g5=>⟨?_,i5,by omega⟩
   have hlt:x.decls.length<32:=by
    rcases Nat.lt_or_ge x.decls.length 32 with h|h
    ·exact h
    ·have:=r1 h;cases this
   refine pW l1 (by rw[d_,List.length_singleton];omega) l3 h1 (nJ h2 ?_) h3
   simp only[eO,Bool.and_eq_true,decide_eq_true_eq,List.all_eq_true]
   exact⟨⟨⟨r3.1,by omega⟩,r4.2.2⟩,r4.1⟩
  ·rename_i d1 d2
   unfold BH
   cases hr:ec e L x.rules.length 64 (cX [1] L)with
   |error q=>have:=PlU.room (hv:=x.rules.length) (mst:=64) (b:=cX [1] L) h;rw[hr]at this;exact this
   |ok q=>
    obtain⟨u,L1⟩:=q
    have h0:=PlU.room (hv:=x.rules.length) (mst:=64) (b:=cX [1] L) h
    rw[hr]at h0
    have e1:=kN hr
    subst e1
    rw[bR]
    refine y_ (PlU.rule h (by simpa using d1) (by simpa using d2)) fun y L2 r2 i2 g2=>⟨?_,i2,g2⟩
    have hlt:x.rules.length<64:=by
     rcases Nat.lt_or_ge x.rules.length 64 with h|h
     ·exact h
     ·have:=h0.1 h;rw[this]at r2;cases r2.2
    exact pW l1 l2 (by rw[d_,List.length_singleton];omega) h1 h2 (nJ h3 r2.1)
theorem rQ {s:List UInt8}{L:List Sgn}(h:bD s=.ok L):InU s.length L:=by
 have h1:=(Cx h).1
 have h2:Ld s.length (bD s):=by
  unfold bD
  split
  ·exact Nat.zero_le _
  ·exact ub s.length _ s 0 [] (by omega) (fun y hy=>by cases hy)
 rw[h]at h2
 intro y hy
 refine⟨h2 y hy,?_⟩
 obtain⟨g1,g2,_⟩:=h1 y hy
 simp only[dI,Bool.and_eq_true,decide_eq_true_eq]
 exact⟨g1,g2⟩
end Go.Proofs.YteldpmgepfaiiaaGreatDoor
