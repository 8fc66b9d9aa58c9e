/- Walks of functions, and plain facts. Conditions: those in the statements. -/
import Derived.Test.YteldpmgepfaiiaaGreatDoorQsWlj
set_option linter.unusedSimpArgs false
set_option linter.unusedVariables false
set_option maxRecDepth 100000
namespace Go.Proofs.YteldpmgepfaiiaaGreatDoor
open Go.RowKit
attribute [local go_sem] aH aV cH
theorem yL {A:Type}{f:A->List Int->A×Bool}{l m:List (List Int)}{a a':A}(h:c6 f a l=(a',false)):c6 f a (l++m)=(a',false):=by rw[nD,h];rfl
theorem jt {A:Type}{f:A->List Int->A×Bool}{l m:List (List Int)}{a a':A}(h:c6 f a l=(a',true)):c6 f a (l++m)=c6 f a' m:=by rw[nD,h];rfl
theorem jy {α β:Type}{g:α->List β}{l:List α}{i:Nat}{x:α}(h:l[i]?=some x):(l.take (i+1)).flatMap g=(l.take i).flatMap g++g x:=by
 rw[bY h,List.flatMap_append,List.flatMap_cons,List.flatMap_nil,List.append_nil]
theorem vI {α β:Type}{g:α->List β}{l:List α}(i:Nat):l.flatMap g=(l.take i).flatMap g++(l.drop i).flatMap g:=by
 rw[<- List.flatMap_append,List.take_append_drop]
theorem kC {l:List (List Int)}{g:Nat}(h:0<l.length):eu l g=.mrw g l.length:=by
 cases l with
 |nil=>simp at h
 |cons a l=>rfl
theorem dM {l:List (List Int)}{g:Nat}{T:TypeId}{sz bt:Nat}{zo:Bool}{z:List VV}{s:St}:jT ⟨.slice T,sz,bt,zo,z⟩ (eu l g) s=some (.int .i64 l.length):=by
 cases l<;>rfl
theorem wI {l:List (List Int)}{i:Nat}{r:List Int}(h:l[i]?=some r):(l.map ca)[i]?=some (.lst (aB r) .no):=by rw[c_,h];rfl
def dQ (l:List Nat):List (List VV):=l.map fun(n:Nat)=>[.int .i64 (n:Int)]
section
variable {A : Type} {x : Pgm} {V : List (List (List UInt8))} {X : List Tab} {ys ns : List Atm} {vars : List (List UInt8)} {tf : FuncId} {tc : List VV} {Rz : Nat -> Prop} {P : A -> St -> (Nat -> Prop) -> Prop}
 {f:A->List Int->A×Bool} {ok:A->Prop} {good:List Int->Prop}
set_option maxHeartbeats 16000000 in
theorem Eu (hT:TellOk tf tc Rz P f ok good)(hsm:∀r,good r->Sml r)(hys:∀m,m∈ys->MAtm x X vars m)(hns:∀m,m∈ns->MAtm x X vars m)(hnl:ns.length<=100000)(hyl:ys.length<=100000)(hvl:vars.length<=100000)
  (B:WB) (p bm bz:Nat) (hXl:∀y,y∈X->y.l.length<=1000000000) :
  ∀(n k:Nat),n+k=ys.length->∀(t:St) (a:A) (F:Nat->Prop) (e:Asg) (rv:List Int) (kn:List Bool),WkS t B p bm bz x V X ys ns vars tf tc Rz P a F rv kn->AsgAt vars.length e rv kn->ok a->RGood (bV x X) vars good (ys.drop k) e ->
  SCalls Tryz.prog 80 [.int .i64 (k:Int),.ptr B.yes 0,.ptr B.no 0,.ptr B.val 0,.ptr B.x 0,.ptr B.tell 0,.ptr B.row 0,.ptr B.known 0,.ptr B.slot 0,.ptr B.walk 0] t fun w u=>
   ∃u':St,w=.ret (.bool (c6 f a (eU (bV x X) vars ns (ys.drop k) e)).2)/\u=u'/\Cv t u' B p bm bz x V X ys ns vars tf tc Rz P (c6 f a (eU (bV x X) vars ns (ys.drop k) e)).1 F e kn:=by
 intro n
 induction n with
 |zero=>
  intro k hk t a F e rv kn hW he ho hg
  obtain rfl:k=ys.length:=by omega
  rw[G_]at hg ⊢
  exact Cu hT hsm hns hnl hyl hvl t B p bm bz a F e rv kn hW he ho hg
 |succ n ih=>
  intro k hk t a F e rv kn hW he ho hg
  replace ih:=ih (k+1) (by omega)
  have hklt:k<ys.length:=by omega
  obtain⟨at0,hat⟩:=aN hklt
  have hsx:=cX hat
  obtain⟨⟨kk,y,hk1,hy,hyr⟩,hfit,hlen,hnum⟩:=hys at0 (p_ hat)
  have hdrop:ys.drop k=at0::ys.drop (k+1):=by
   obtain⟨h1,rfl⟩:=n_.1 hat
   exact g_ h1
  rw[hdrop]at hg ⊢
  generalize hD:ys.drop (k+1)=D at *
  have hRK:eU (bV x X) vars ns (at0::D) e=y.l.flatMap (kB (bV x X) vars ns at0.ts D e):=by rw[uW,jn hk1 hy]
  have hstep:∀r e2,r∈y.l->aP vars e at0.ts r=some e2->RGood (bV x X) vars good D e2:=fun r e2 hr hm=>hg.step (by rw[jn hk1 hy];exact hr) hm
  have hgr:∀r,r∈eU (bV x X) vars ns (at0::D) e->good r:=fun r hr=>hg.rows hr
  have hyll:=hXl y (p_ hy)
  rw[hRK]
  obtain⟨nt,rl,ts⟩:=at0
  simp only at hsx hk1 hyr hfit hlen hnum hRK hstep
  simp only[aG]at hsx
  generalize hZ:c6 f a (y.l.flatMap (kB (bV x X) vars ns ts D e))=Z
  have HZ:=u_ hZ
  have HSTEP:=u_ hstep
  have HG:=u_ hgr
  have HK:=u_ hk1
  have HY:=u_ hy
  have HYR:=u_ hyr
  have HE:=u_ he
  have HO:=u_ ho
  have HT:=u_ hT
  have HW:=u_ hW
  have HIH:=u_ ih
  have HFI:=u_ hfit
  have hyn:(ys.map fun a=>aG a).length=ys.length:=by simp
  have hl1:(ts.map aC).length=ts.length:=by simp
  have hlk:=(j6 (cs:=x.decls) rl).trans (by rw[HK.out];rfl:_=some (kk:Int))
  have hXk:(X.map fun y=>[VV.ptr y.b 0])[kk]?=some [.ptr y.b 0]:=by rw[c_,HY.out];rfl
  have hXkl:kk<(X.map fun y=>[VV.ptr y.b 0]).length:=(n_.1 hXk).1
  have hknf:((k:Int)=(ys.length:Int))=False:=eq_false (by omega)
  have qt:=hW.m.tb.at_ y (p_ hy)
  have q1:=hW.w.yes
  have l1:t B.yes≠.free:=by rw[q1];simp
  have q13:=hW.m.o
  have q14:=hW.m.h1
  have q15:=qt.o
  have q17:=qt.r
  have l13:t p≠.free:=by rw[q13];simp
  have l14:t bm≠.free:=by rw[q14];simp
  have l15:t y.b≠.free:=by rw[q15];simp
  have q3:=hW.w.val
  have q4:=hW.w.x
  have q6:=hW.w.row
  have q7:=hW.w.known
  have q8:=hW.w.slot
  have q9:=hW.w.walk
  have q10:=hW.w.rb
  have q11:=hW.w.kb
  have q12:=hW.w.sb
  have l3:t B.val≠.free:=by rw[q3];simp
  have l4:t B.x≠.free:=by rw[q4];simp
  have l6:t B.row≠.free:=by rw[q6];simp
  have l7:t B.known≠.free:=by rw[q7];simp
  have l8:t B.slot≠.free:=by rw[q8];simp
  have l9:t B.walk≠.free:=by rw[q9];simp
  have l10:t B.rb≠.free:=by rw[q10];simp
  have l11:t B.kb≠.free:=by rw[q11];simp
  have l12:t B.sb≠.free:=by rw[q12];simp
  clear hat hRK hZ hstep hgr hk1 hy hyr he ho hT hW ih hg hdrop hfit
  generalize X.map (fun y=>[VV.ptr y.b 0])=XL at *
  generalize rlA x.decls=RLA at *
  refine aw Tryz.func80 rfl Tryz.ntmps80 rfl fun Q hQ hQe=>?_
  (repeat'(first|refine Ctl ?_|(with_reducible first|(refine j_ hK ?_;clear hK hE K E)|(refine j_ hKh ?_;clear hKh Kh)|refine aq 16 [] [0,1,2,3,4,5,6,7,8,9,10,11,12,13,14,15,16,17] hQe fun K E hK hE=>?_)|((with_reducible refine aj (fun h=>?_) (fun h=>?_))<;>(try(exfalso;assumption)))|((first|(with_reducible first|refine ae fun K E hK hE=>?_|refine aD fun Kh hKh=>?_)|((with_reducible refine ao (fun b hb=>?_));(try(obtain⟨_,_⟩:=nef hb l1;obtain⟨_,_⟩:=nef hb l3;obtain⟨_,_⟩:=nef hb l4;obtain⟨_,_⟩:=nef hb l6;obtain⟨_,_⟩:=nef hb l7;obtain⟨_,_⟩:=nef hb l8;obtain⟨_,_⟩:=nef hb l9;obtain⟨_,_⟩:=nef hb l10;obtain⟨_,_⟩:=nef hb l11;obtain⟨_,_⟩:=nef hb l12;obtain⟨_,_⟩:=nef hb l13;obtain⟨_,_⟩:=nef hb l14;obtain⟨_,_⟩:=nef hb l15))))<;>(try simp(disch:=omega) only[go_sem,seval,dM,Option.getD_some, *]))))
  obtain⟨bA,hbA⟩:∃x,x=b:=⟨_,rfl⟩
  subst hbA
  have hS0:WkS (t.set bA (.obj 40 [.bool nt,.str rl,.lst (ts.map aC) .no])) B p bm bz x V X ys ns vars tf tc Rz P a F rv kn:=HW.out.keep HT.out fun z hz=>k_ _ _ (fun e=>hz (e ▸ hb))
  have hSA:(t.set bA (.obj 40 [.bool nt,.str rl,.lst (ts.map aC) .no])) bA=(.obj 40 [.bool nt,.str rl,.lst (ts.map aC) .no]):=q_ _ _ _
  have hKp:Keep t (t.set bA (.obj 40 [.bool nt,.str rl,.lst (ts.map aC) .no])) (fun z=>F z\/z=B.rb\/z=B.kb):=fun z hz _=>k_ _ _ (fun e=>hz (e ▸ hb))
  have HFA:Hid (∀z,F z->z≠bA):=u_ fun z hz e=>HT.out.live _ _ _ _ HW.out.c hz (e ▸ hb)
  generalize t.set bA (.obj 40 [.bool nt,.str rl,.lst (ts.map aC) .no])=S0 at *
  have HS0:=u_ hS0
  have HSA:=u_ hSA
  have HKP:=u_ hKp
  have hG1:∀r,aP vars e ts r=none->kB (bV x X) vars ns ts D e r=[]:=fun r h=>by unfold kB;rw[h]
  have hG2:∀r e2,aP vars e ts r=some e2->kB (bV x X) vars ns ts D e r=eU (bV x X) vars ns D e2:=fun r e2 h=>by unfold kB;rw[h]
  have HG1:=u_ hG1
  have HG2:=u_ hG2
  have HB:=u_ hb
  clear q1 q3 q4 q6 q7 q8 q9 q10 q11 q12 q13 q14 q15 q17 l1 l3 l4 l6 l7 l8 l9 l10 l11 l12 l13 l14 l15 qt hS0 hSA hKp hG1 hG2 hb hlk hXk hXkl
  generalize kB (bV x X) vars ns ts D e=GG at *
  refine bB (fun m env s'=>∃(i:Nat) (a':A) (F':Nat->Prop) (rv':List Int),i<=y.l.length/\m+i=y.l.length/\Hid (c6 f a ((y.l.take i).flatMap GG)=(a',true))/\Hid (WkS s' B p bm bz x V X ys ns vars tf tc Rz P a' F' rv' kn)/\Hid (AsgAt vars.length e rv' kn)/\Hid (ok a') /\
   Hid (s' bA=(.obj 40 [.bool nt,.str rl,.lst (ts.map aC) .no]))/\Hid (∀z,F' z->F z\/t z=.free)/\Hid (∀z,F' z->z≠bA)/\Hid (Keep t s' (fun z=>F z\/z=B.rb\/z=B.kb)) /\
   env 0=.int .i64 k/\env 1=.ptr B.yes 0/\env 2=.ptr B.no 0/\env 3=.ptr B.val 0/\env 4=.ptr B.x 0/\env 5=.ptr B.tell 0/\env 6=.ptr B.row 0/\env 7=.ptr B.known 0/\env 8=.ptr B.slot 0/\env 9=.ptr B.walk 0/\env 17=.ptr bA 0/\env 95=eu y.l y.g/\env 96=.int .i64 y.l.length/\env 97=.int .i64 i) y.l.length ?_ ?_
  ·exact⟨0,a,F,rv,by omega,by omega,u_ rfl,HS0,HE,HO,HSA,u_ fun z hz=>.inl hz,HFA,HKP,ab,ab,ab,ab,ab,ab,ab,ab,ab,ab,ab,ab,ab,ab⟩
  clear HS0 HSA HFA HKP HE HO HW rv
  rintro m env S ⟨i,a',F',rv',hi,hm,HRN,HS,HEE,HO,HSA,HF,HFA,HKP,e0,e1,e2,e3,e4,e5,e6,e7,e8,e9,e17,e95,e96,e97⟩
  by_cases hlt:i<y.l.length
  ·obtain⟨r,hr⟩:=aN hlt
   have hsr:=wI hr
   have hrt:r.length=ts.length:=HYR.out r (p_ hr)
   have hrl':(aB r).length=ts.length:=by rw[bH];exact hrt
   have hml:(y.l.map ca).length=y.l.length:=by simp
   have HR:=u_ hr
   have q17:=(HS.out.m.tb.at_ y (p_ HY.out)).r (by intro h;rw[h]at hlt;simp at hlt)
   have qA:=HSA.out
   have hrf:=kC (g:=y.g) (show 0<y.l.length by omega)
   rw[hrf]at e95
   clear hr hrf
   generalize hM:aP vars e ts r=M
   have HM:=u_ hM
   have hM0:=u_ hM
   clear hM
   (repeat'(first|refine Ctl ?_|((with_reducible refine j_ hK ?_);clear hK hE K E)|((with_reducible refine aj (fun h=>?_) (fun h=>?_))<;>(try(exfalso;assumption)))|(((with_reducible first|refine ae fun K E hK hE=>?_|refine gh ?_))<;>(try simp(disch:=omega) only[go_sem,seval,Nat.mul_one, *]))))
   clear hsr hml q17 qA
   rw[show VV.mrw y.g y.l.length=eu y.l y.g from (kC (show 0<y.l.length by omega)).symm]at e95
   refine aI (fun m2 env s2=>∃(j:Nat) (ea:Asg) (rv2:List Int) (kn2:List Bool) (fr:List Nat) (o:Own) (U:St),j<=ts.length/\m2+j=ts.length/\OwnOk U o fr.length/\s2=U.own o 3 1 fr.length /\
    Hid (WkS U B p bm bz x V X ys ns vars tf tc Rz P a' F' rv2 kn2)/\Hid (AsgAt vars.length ea rv2 kn2)/\Hid (FrOk e ea fr)/\Hid (fr.length<=j)/\Hid (aP vars ea (ts.drop j) (r.drop j)=M)/\Hid (U bA=(.obj 40 [.bool nt,.str rl,.lst (ts.map aC) .no]))/\Hid (Keep S U (fun z=>z=B.rb\/z=B.kb)) /\
    env 0=.int .i64 k/\env 1=.ptr B.yes 0/\env 2=.ptr B.no 0/\env 3=.ptr B.val 0/\env 4=.ptr B.x 0/\env 5=.ptr B.tell 0/\env 6=.ptr B.row 0/\env 7=.ptr B.known 0/\env 8=.ptr B.slot 0/\env 9=.ptr B.walk 0/\env 17=.ptr bA 0/\env 95=eu y.l y.g/\env 96=.int .i64 y.l.length/\env 97=.int .i64 i/\env 19=.lst (aB r) .no/\env 20=.lst (dQ fr) o/\env 21=.bool true/\env 102=.lst (ts.map aC) .no/\env 103=.int .i64 ts.length/\env 104=.int .i64 j) ts.length ?_ ?_
   ·exact⟨_,Fg.refl _,0,e,rv',kn,[],.full,S,by omega,by omega,b9,rfl,HS,HEE,u_ (FrOk.nil e),u_ (Nat.le_refl _),HM,HSA,u_ (Keep.refl _ _),ab,ab,ab,ab,ab,ab,ab,ab,ab,ab,ab,ab,ab,ab,ab,ab,ab,ab,ab,ab⟩
   clear e0 e1 e2 e3 e4 e5 e6 e7 e8 e9 e17 e95 e96 e97 env HM
   rintro m2 env s2 ⟨j,ea,rv2,kn2,fr,o,U,hj,hm2,hoo,rfl,HU,HE2,HFR,HFL,HM,HUA,HKU,e0,e1,e2,e3,e4,e5,e6,e7,e8,e9,e17,e95,e96,e97,e19,e20,e21,e102,e103,e104⟩
   have qA:=HUA.out
   have lA:U bA≠.free:=by rw[qA];simp
   have q3:=HU.out.w.val
   have q4:=HU.out.w.x
   have q6:=HU.out.w.row
   have q7:=HU.out.w.known
   have q8:=HU.out.w.slot
   have q9:=HU.out.w.walk
   have q10:=HU.out.w.rb
   have q11:=HU.out.w.kb
   have q12:=HU.out.w.sb
   have l3:U B.val≠.free:=by rw[q3];simp
   have l4:U B.x≠.free:=by rw[q4];simp
   have l6:U B.row≠.free:=by rw[q6];simp
   have l7:U B.known≠.free:=by rw[q7];simp
   have l8:U B.slot≠.free:=by rw[q8];simp
   have l9:U B.walk≠.free:=by rw[q9];simp
   have l10:U B.rb≠.free:=by rw[q10];simp
   have l11:U B.kb≠.free:=by rw[q11];simp
   have l12:U B.sb≠.free:=by rw[q12];simp
   have o3:=hoo.not l3;have o4:=hoo.not l4;have o6:=hoo.not l6;have o7:=hoo.not l7;have o8:=hoo.not l8;have o9:=hoo.not l9;have o10:=hoo.not l10;have o11:=hoo.not l11;have o12:=hoo.not l12;have oA:=hoo.not lA
   by_cases hltj:j<ts.length
   ·obtain⟨z,hz⟩:=aN hltj
    obtain⟨v,hv⟩:∃v,r[j]?=some v:=aN (by omega)
    have hsz:=dl hz
    have hsv:=cD hv
    have hst:=(iY (vars:=vars) (e:=ea) hz hv).symm.trans HM.out
    have HST:=u_ hst
    have hfz:=HFI.out z (p_ hz)
    have hr2:=HE2.out.rl
    have hk2:=HE2.out.kl
    have hvb:rv2.length<=1000000000:=by omega
    have hfz':z.var=true->∃k,ixT z.nm vars=some k/\k<rv2.length:=fun h=>by rw[hr2];exact hfz h
    have w2:=fun s h1 h2 h3 h4=>vW vars B.row B.slot B.rb B.sb rv2 z s h1 h2 h3 h4 hfz' hvb
    have hnl1:(dQ fr).length=fr.length:=by simp[dQ]
    have h1y:∀y,y∈dQ fr->y.length=1:=fun y hy=>by
     obtain⟨q,_,rfl⟩:=E_.1 hy
     rfl
    have hflen:=HFL.out
    obtain⟨xv,xn,xz⟩:=z
    simp only[aC]at hsz w2
    clear hz hv hst HM hfz'
    cases xv with
    |false=>
     rw[show eF vars rv2 ⟨false,xn,xz⟩=xz from rfl]at w2
     by_cases exz:xz=v
     ·subst exz
      have H2:=HST.out
      rw[show cC vars ea ⟨false,xn,xz⟩ xz=some ea by simp[cC]]at H2
      have HT2:Hid (aP vars ea (ts.drop (j+1)) (r.drop (j+1))=M):=u_ H2
      clear H2 HST
      (repeat'(first|refine Ctl ?_|(with_reducible first|(refine j_ hK ?_;clear hK hE K E)|(refine j_ hKh ?_;clear hKh Kh)|(refine j_ hKb (aL ?_);clear hKb Kb)|refine aq 28 [([0,1,3,4,5,6],2,[[3,4,5,6]])] [7] hQe fun K E hK hE=>?_)|((with_reducible refine aj (fun h=>?_) (fun h=>?_))<;>(try(exfalso;assumption)))|((first|(with_reducible first|refine ae fun K E hK hE=>?_|refine ak tS (w2 _ ab ab ab ab) ?_|refine aE fun Kh hKh=>?_|refine aD fun Kh hKh=>?_|refine aM fun Kb hKb=>?_)|((with_reducible refine ao (fun b hb=>?_));(repeat(obtain⟨_,hb⟩:=hb));(try(obtain⟨_,_⟩:=nef hb l3;obtain⟨_,_⟩:=nef hb l4;obtain⟨_,_⟩:=nef hb l6;obtain⟨_,_⟩:=nef hb l7;obtain⟨_,_⟩:=nef hb l8;obtain⟨_,_⟩:=nef hb l9;obtain⟨_,_⟩:=nef hb l10;obtain⟨_,_⟩:=nef hb l11;obtain⟨_,_⟩:=nef hb l12;obtain⟨_,_⟩:=nef hb lA))))<;>(try simp(disch:=first|assumption|omega) only[go_sem,seval, *]))))
      all_goals exact⟨_,v_ _ (by rw[aR];exact⟨‹_›,‹_›⟩),m2 - 1,by omega,j+1,ea,rv2,kn2,fr,o,U,by omega,by omega,hoo,rfl,HU,HE2,HFR,u_ (by omega),HT2,HUA,HKU,ab,ab,ab,ab,ab,ab,ab,ab,ab,ab,ab,ab,ab,ab,ab,ab,ab,ab,ab,ab⟩
     ·have H2:=HST.out
      rw[show cC vars ea ⟨false,xn,xz⟩ v=none by simp[cC,exz]]at H2
      have HMn:Hid (aP vars e ts r=none):=u_ (hM0.out.trans H2.symm)
      have ex':=eq_false exz
      clear H2 HST exz
      (repeat'(first|refine Ctl ?_|(with_reducible first|(refine j_ hK ?_;clear hK hE K E)|(refine j_ hKh ?_;clear hKh Kh)|(refine j_ hKb (aL ?_);clear hKb Kb)|refine aq 28 [([0,1,3,4,5,6],2,[[3,4,5,6]])] [7] hQe fun K E hK hE=>?_)|((with_reducible refine aj (fun h=>?_) (fun h=>?_))<;>(try(exfalso;assumption)))|((first|(with_reducible first|refine ae fun K E hK hE=>?_|refine ak tS (w2 _ ab ab ab ab) ?_|refine aE fun Kh hKh=>?_|refine aD fun Kh hKh=>?_|refine aM fun Kb hKb=>?_)|((with_reducible refine ao (fun b hb=>?_));(repeat(obtain⟨_,hb⟩:=hb));(try(obtain⟨_,_⟩:=nef hb l3;obtain⟨_,_⟩:=nef hb l4;obtain⟨_,_⟩:=nef hb l6;obtain⟨_,_⟩:=nef hb l7;obtain⟨_,_⟩:=nef hb l8;obtain⟨_,_⟩:=nef hb l9;obtain⟨_,_⟩:=nef hb l10;obtain⟨_,_⟩:=nef hb l11;obtain⟨_,_⟩:=nef hb l12;obtain⟨_,_⟩:=nef hb lA))))<;>(try simp(disch:=first|assumption|omega) only[go_sem,seval, *]))))
      have HACC:Hid (c6 f a' (GG r)=(a',true)):=u_ (by rw[HG1.out r HMn.out];rfl)
      have HA3:Hid (true=true->ok a'):=u_ fun _=>HO.out
      have HK3:Hid (Keep t U (fun z=>F z\/z=B.rb\/z=B.kb)):=u_ (HKP.out.trans HKU.out fun x _ h=>.inr h)
      have HBF:Hid (Fg ((U.own o 3 1 fr.length).set b (.obj 53 [.bool false,.str xn,.int .i64 xz])) U):=u_ ((v_ _ (by rw[aR];exact⟨‹_›,‹_›⟩)).trans (Fg.own hoo))
      clear ex' w2 hsz hsv hfz hnl1 h1y hr2 hk2 hvb q3 q4 q6 q7 q8 q9 q10 q11 q12 qA
      have q7:=HU.out.w.known
      have q11:=HU.out.w.kb
      have k711:¬ B.known=B.kb:=bZ q7 q11 (by decide)
      have hkl3:=HE2.out.kl
      skip
      refine aI (fun m3 env s3=>∃(q:Nat),q<=fr.length/\m3+q=fr.length/\s3=U.set B.kb (.obj 4 (cF (clr (fr.take q) kn2)))/\env 0=.int .i64 k/\env 1=.ptr B.yes 0/\env 2=.ptr B.no 0/\env 3=.ptr B.val 0/\env 4=.ptr B.x 0/\env 5=.ptr B.tell 0/\env 6=.ptr B.row 0/\env 7=.ptr B.known 0/\env 8=.ptr B.slot 0/\env 9=.ptr B.walk 0/\env 17=.ptr bA 0/\env 95=eu y.l y.g/\env 96=.int .i64 y.l.length/\env 97=.int .i64 i/\env 25=.bool true/\env 156=.lst (dQ fr) o/\env 157=.int .i64 fr.length/\env 158=.int .i64 q) fr.length ?_ ?_
      ·exact⟨U,HBF.out,0,by omega,by omega,by rw[List.take_zero];exact(x_ _ _ _ q11).symm,ab,ab,ab,ab,ab,ab,ab,ab,ab,ab,ab,ab,ab,ab,ab,ab,ab,ab⟩
      clear e0 e1 e2 e3 e4 e5 e6 e7 e8 e9 e17 e95 e96 e97
      rintro m3 env s3 ⟨q,hq,hm3,rfl,e0,e1,e2,e3,e4,e5,e6,e7,e8,e9,e17,e95,e96,e97,e25,e156,e157,e158⟩
      have hcl:(cF (clr (fr.take q) kn2)).length=vars.length:=by rw[fK,iu];exact hkl3
      have hnf:(dQ fr).length=fr.length:=by simp[dQ]
      by_cases hltq:q<fr.length
      ·obtain⟨sq,hsq⟩:=aN hltq
       have hsn:(dQ fr)[q]?=some [.int .i64 (sq:Int)]:=by unfold dQ;rw[c_,hsq];rfl
       have hsl:sq<vars.length:=by rw[<- HEE.out.el];exact HFR.out.lt (p_ hsq)
       have hct:=oD (k:=kn2) hsq
       have HCT:=u_ hct
       have hput:=jC (l:=clr (fr.take q) kn2) (i:=sq) (n:=false) (by rw[iu];omega)
       clear hsq hct
       generalize hcc:clr (fr.take q) kn2=CC at *
       (repeat'(first|refine Ctl ?_|((with_reducible refine j_ hK ?_);clear hK hE K E)|((with_reducible refine aj (fun h=>?_) (fun h=>?_))<;>(try(exfalso;assumption)))|(((with_reducible first|refine ae fun K E hK hE=>?_|refine gT ?_))<;>(try simp(disch:=omega) only[go_sem,seval, *]))))
       exact⟨_,Fg.refl _,m3 - 1,by omega,q+1,by omega,by omega,by rw[HCT.out],ab,ab,ab,ab,ab,ab,ab,ab,ab,ab,ab,ab,ab,ab,ab,ab,ab,ab⟩
      ·obtain rfl:q=fr.length:=by omega
       rw[f_]
       have HE4':=HE2.out.back HFR.out
       have hkk:=HE4'.kn_eq HEE.out
       rw[hkk]at HE4' ⊢
       have HE4:=u_ HE4'
       have HW4:Hid (WkS (U.set B.kb (.obj 4 (cF kn))) B p bm bz x V X ys ns vars tf tc Rz P a' F' rv2 kn):=u_ (HU.out.setK HT.out (by rw[HEE.out.kl,hkl3]))
       have lA3:bA≠B.kb:=fun h=>by have:=HUA.out;rw[h,q11]at this;cases this
       have HA4:Hid ((U.set B.kb (.obj 4 (cF kn))) bA=(.obj 40 [.bool nt,.str rl,.lst (ts.map aC) .no])):=u_ (by rw[k_ _ _ lA3];exact HUA.out)
       have HK4:Hid (Keep t (U.set B.kb (.obj 4 (cF kn))) (fun z=>F z\/z=B.rb\/z=B.kb)):=u_ fun z hz hn=>by rw[k_ _ _ (fun e=>hn (.inr (.inr e)))];exact HK3.out z hz hn
       generalize U.set B.kb (.obj 4 (cF kn))=U4 at *
       clear HE4' hkk hcl q7 q11 k711 HU HE2 HUA HK3
       (repeat'(first|refine Ctl ?_|((with_reducible refine j_ hK ?_);clear hK hE K E)|((with_reducible refine aj (fun h=>?_) (fun h=>?_))<;>(try(exfalso;assumption)))|(((with_reducible refine ae fun K E hK hE=>?_))<;>(try simp(disch:=omega) only[go_sem,seval, *]))))
       have hRN2:Hid (c6 f a ((y.l.take (i+1)).flatMap GG)=(a',true)):=u_ (by rw[jy HR.out,jt HRN.out];exact HACC.out)
       exact⟨m - 1,by omega,i+1,a',F',rv2,by omega,by omega,hRN2,HW4,HE4,u_ (HA3.out rfl),HA4,HF,HFA,HK4,ab,ab,ab,ab,ab,ab,ab,ab,ab,ab,ab,ab,ab,ab⟩
    |true=>
     obtain⟨s,hk1,hslt⟩:=hfz rfl
     have hlkS:lkA xn (eL vars)=some (s:Int):=by rw[sw,hk1];rfl
     obtain⟨ov,hov⟩:∃ov,ea[s]?=some ov:=aN (by rw[HE2.out.el];exact hslt)
     cases ov with
     |none=>
      have hT:=show cC vars ea ⟨true,xn,xz⟩ v=some (ea.set s (some v)) by simp[cC,show ixT xn vars=some s from hk1,hov]
      have H2:=HST.out
      rw[hT]at H2
      have HT2:Hid (aP vars (ea.set s (some v)) (ts.drop (j+1)) (r.drop (j+1))=M):=u_ H2
      have hkb:=tZ (HE2.out.k0 hov)
      have hbl:=fK (l:=kn2)
      have hil:=oe (l:=rv2)
      have hset1:=Bw (l:=rv2) (i:=s) (n:=v) (by omega)
      have hset2:=jC (l:=kn2) (i:=s) (n:=true) (by omega)
      have HE2':Hid (AsgAt vars.length (ea.set s (some v)) (rv2.set s v) (kn2.set s true)):=u_ (HE2.out.pick hslt)
      have HFR':Hid (FrOk e (ea.set s (some v)) (fr++[s])):=u_ (HFR.out.pick hov)
      have HNL:Hid (dQ (fr++[s])=dQ fr++[[.int .i64 (s:Int)]]):=u_ (by simp[dQ])
      have k68:¬ B.row=B.rb:=bZ q6 q10 (by decide)
      have k71:¬ B.known=B.rb:=bZ q7 q10 (by decide)
      have k77:¬ B.known=B.kb:=bZ q7 q11 (by decide)
      have k61:¬ B.row=B.kb:=bZ q6 q11 (by decide)
      have k10:¬ B.rb=B.kb:=bZ q10 q11 (by decide)
      have k01:¬ B.kb=B.rb:=fun h=>k10 h.symm
      clear hT H2 HST hov hk1 hfz w2
      (repeat'(first|refine Ctl ?_|(with_reducible first|(refine j_ hK ?_;clear hK hE K E)|(refine j_ hKh ?_;clear hKh Kh)|(refine j_ hKb (aL ?_);clear hKb Kb)|refine aq 26 [([0,1,2,3,4,5,6,7,8],9,[[2,3]]),([10],11,[[],[]])] [] hQe fun K E hK hE=>?_)|((with_reducible refine aj (fun h=>?_) (fun h=>?_))<;>(try(exfalso;assumption)))|((first|(with_reducible first|refine ae fun K E hK hE=>?_|refine gh ?_|refine gT ?_|refine aE fun Kh hKh=>?_|refine aD fun Kh hKh=>?_|refine aM fun Kb hKb=>?_)|((with_reducible refine ao (fun b hb=>?_));(repeat(obtain⟨_,hb⟩:=hb));(try(obtain⟨_,_⟩:=nef hb l3;obtain⟨_,_⟩:=nef hb l4;obtain⟨_,_⟩:=nef hb l6;obtain⟨_,_⟩:=nef hb l7;obtain⟨_,_⟩:=nef hb l8;obtain⟨_,_⟩:=nef hb l9;obtain⟨_,_⟩:=nef hb l10;obtain⟨_,_⟩:=nef hb l11;obtain⟨_,_⟩:=nef hb l12;obtain⟨_,_⟩:=nef hb lA)))|((with_reducible refine cq (fun o2 ho=>?_));(try simp(disch:=assumption) only[hnl1]at ho);(repeat(obtain⟨_,ho⟩:=ho))))<;>(try simp(disch:=first|assumption|omega) only[go_sem,seval,Option.getD_some,Nat.mul_one, *]))))
      have kA0:bA≠B.rb:=bZ qA q10 (by decide)
      have kA1:bA≠B.kb:=bZ qA q11 (by decide)
      exact⟨((U.set B.rb (.obj 3 (cY (rv2.set s v)))).set B.kb (.obj 4 (cF (kn2.set s true)))).own o2 3 1 (fr.length+1),
       by rw[fU (‹_›),fU (‹_›)];exact Fg.set (Fg.set (v_ _ (by rw[aR];exact⟨‹_›,‹_›⟩)) _ _) _ _,
       m2 - 1,by omega,j+1,ea.set s (some v),rv2.set s v,kn2.set s true,fr++[s],o2,(U.set B.rb (.obj 3 (cY (rv2.set s v)))).set B.kb (.obj 4 (cF (kn2.set s true))),by omega,by omega,
       by rw[bc,bc,d_];exact⟨‹_›,‹_›,ho⟩,by rw[d_];rfl,u_ ((HU.out.setR HT.out List.length_set).setK HT.out List.length_set),HE2',HFR',u_ (by rw[d_,List.length_singleton];omega),HT2,
       u_ (by rw[k_ _ _ kA1,k_ _ _ kA0];exact HUA.out),u_ fun z hz hn=>by rw[k_ _ _ (fun e=>hn (.inr e)),k_ _ _ (fun e=>hn (.inl e))];exact HKU.out z hz hn,ab,ab,ab,ab,ab,ab,ab,ab,ab,ab,ab,ab,ab,ab,ab,by rw[HNL.out];((try simp(disch:=first|assumption|omega) only[go_sem,seval, *])<;>first|rfl|omega),ab,ab,ab,ab⟩
     |some w=>
      have hrw:=HE2.out.rv s w hov
      have hkb:=tZ (HE2.out.k1 hov)
      have hbl:=fK (l:=kn2)
      rw[nl (show ixT xn vars=some s from hk1) hrw]at w2
      by_cases exz:w=v
      ·subst exz
       have H2:=HST.out
       rw[show cC vars ea ⟨true,xn,xz⟩ w=some ea by simp[cC,show ixT xn vars=some s from hk1,hov]]at H2
       have HT2:Hid (aP vars ea (ts.drop (j+1)) (r.drop (j+1))=M):=u_ H2
       clear H2 HST hov hk1 hfz hrw
       (repeat'(first|refine Ctl ?_|(with_reducible first|(refine j_ hK ?_;clear hK hE K E)|(refine j_ hKh ?_;clear hKh Kh)|(refine j_ hKb (aL ?_);clear hKb Kb)|refine aq 28 [([0,1,3,4,5,6],2,[[3,4,5,6]])] [7] hQe fun K E hK hE=>?_)|((with_reducible refine aj (fun h=>?_) (fun h=>?_))<;>(try(exfalso;assumption)))|((first|(with_reducible first|refine ae fun K E hK hE=>?_|refine ak tS (w2 _ ab ab ab ab) ?_|refine gh ?_|refine aE fun Kh hKh=>?_|refine aD fun Kh hKh=>?_|refine aM fun Kb hKb=>?_)|((with_reducible refine ao (fun b hb=>?_));(repeat(obtain⟨_,hb⟩:=hb));(try(obtain⟨_,_⟩:=nef hb l3;obtain⟨_,_⟩:=nef hb l4;obtain⟨_,_⟩:=nef hb l6;obtain⟨_,_⟩:=nef hb l7;obtain⟨_,_⟩:=nef hb l8;obtain⟨_,_⟩:=nef hb l9;obtain⟨_,_⟩:=nef hb l10;obtain⟨_,_⟩:=nef hb l11;obtain⟨_,_⟩:=nef hb l12;obtain⟨_,_⟩:=nef hb lA))))<;>(try simp(disch:=first|assumption|omega) only[go_sem,seval,Option.getD_some, *]))))
       all_goals exact⟨_,v_ _ (by rw[aR];exact⟨‹_›,‹_›⟩),m2 - 1,by omega,j+1,ea,rv2,kn2,fr,o,U,by omega,by omega,hoo,rfl,HU,HE2,HFR,u_ (by omega),HT2,HUA,HKU,ab,ab,ab,ab,ab,ab,ab,ab,ab,ab,ab,ab,ab,ab,ab,ab,ab,ab,ab,ab⟩
      ·have H2:=HST.out
       rw[show cC vars ea ⟨true,xn,xz⟩ v=none by simp[cC,show ixT xn vars=some s from hk1,hov,exz]]at H2
       have HMn:Hid (aP vars e ts r=none):=u_ (hM0.out.trans H2.symm)
       have ex':=eq_false exz
       clear H2 HST exz hov hk1 hrw
       (repeat'(first|refine Ctl ?_|(with_reducible first|(refine j_ hK ?_;clear hK hE K E)|(refine j_ hKh ?_;clear hKh Kh)|(refine j_ hKb (aL ?_);clear hKb Kb)|refine aq 28 [([0,1,3,4,5,6],2,[[3,4,5,6]])] [7] hQe fun K E hK hE=>?_)|((with_reducible refine aj (fun h=>?_) (fun h=>?_))<;>(try(exfalso;assumption)))|((first|(with_reducible first|refine ae fun K E hK hE=>?_|refine ak tS (w2 _ ab ab ab ab) ?_|refine gh ?_|refine aE fun Kh hKh=>?_|refine aD fun Kh hKh=>?_|refine aM fun Kb hKb=>?_)|((with_reducible refine ao (fun b hb=>?_));(repeat(obtain⟨_,hb⟩:=hb));(try(obtain⟨_,_⟩:=nef hb l3;obtain⟨_,_⟩:=nef hb l4;obtain⟨_,_⟩:=nef hb l6;obtain⟨_,_⟩:=nef hb l7;obtain⟨_,_⟩:=nef hb l8;obtain⟨_,_⟩:=nef hb l9;obtain⟨_,_⟩:=nef hb l10;obtain⟨_,_⟩:=nef hb l11;obtain⟨_,_⟩:=nef hb l12;obtain⟨_,_⟩:=nef hb lA))))<;>(try simp(disch:=first|assumption|omega) only[go_sem,seval,Option.getD_some, *]))))
       have HACC:Hid (c6 f a' (GG r)=(a',true)):=u_ (by rw[HG1.out r HMn.out];rfl)
       have HA3:Hid (true=true->ok a'):=u_ fun _=>HO.out
       have HK3:Hid (Keep t U (fun z=>F z\/z=B.rb\/z=B.kb)):=u_ (HKP.out.trans HKU.out fun x _ h=>.inr h)
       have HBF:Hid (Fg ((U.own o 3 1 fr.length).set b (.obj 53 [.bool true,.str xn,.int .i64 xz])) U):=u_ ((v_ _ (by rw[aR];exact⟨‹_›,‹_›⟩)).trans (Fg.own hoo))
       clear ex' w2 hsz hsv hfz hnl1 h1y hr2 hk2 hvb q3 q4 q6 q7 q8 q9 q10 q11 q12 qA
       have q7:=HU.out.w.known
       have q11:=HU.out.w.kb
       have k711:¬ B.known=B.kb:=bZ q7 q11 (by decide)
       have hkl3:=HE2.out.kl
       skip
       refine aI (fun m3 env s3=>∃(q:Nat),q<=fr.length/\m3+q=fr.length/\s3=U.set B.kb (.obj 4 (cF (clr (fr.take q) kn2)))/\env 0=.int .i64 k/\env 1=.ptr B.yes 0/\env 2=.ptr B.no 0/\env 3=.ptr B.val 0/\env 4=.ptr B.x 0/\env 5=.ptr B.tell 0/\env 6=.ptr B.row 0/\env 7=.ptr B.known 0/\env 8=.ptr B.slot 0/\env 9=.ptr B.walk 0/\env 17=.ptr bA 0/\env 95=eu y.l y.g/\env 96=.int .i64 y.l.length/\env 97=.int .i64 i/\env 25=.bool true/\env 156=.lst (dQ fr) o/\env 157=.int .i64 fr.length/\env 158=.int .i64 q) fr.length ?_ ?_
       ·exact⟨U,HBF.out,0,by omega,by omega,by rw[List.take_zero];exact(x_ _ _ _ q11).symm,ab,ab,ab,ab,ab,ab,ab,ab,ab,ab,ab,ab,ab,ab,ab,ab,ab,ab⟩
       clear e0 e1 e2 e3 e4 e5 e6 e7 e8 e9 e17 e95 e96 e97
       rintro m3 env s3 ⟨q,hq,hm3,rfl,e0,e1,e2,e3,e4,e5,e6,e7,e8,e9,e17,e95,e96,e97,e25,e156,e157,e158⟩
       have hcl:(cF (clr (fr.take q) kn2)).length=vars.length:=by rw[fK,iu];exact hkl3
       have hnf:(dQ fr).length=fr.length:=by simp[dQ]
       by_cases hltq:q<fr.length
       ·obtain⟨sq,hsq⟩:=aN hltq
        have hsn:(dQ fr)[q]?=some [.int .i64 (sq:Int)]:=by unfold dQ;rw[c_,hsq];rfl
        have hsl:sq<vars.length:=by rw[<- HEE.out.el];exact HFR.out.lt (p_ hsq)
        have hct:=oD (k:=kn2) hsq
        have HCT:=u_ hct
        have hput:=jC (l:=clr (fr.take q) kn2) (i:=sq) (n:=false) (by rw[iu];omega)
        clear hsq hct
        generalize hcc:clr (fr.take q) kn2=CC at *
        (repeat'(first|refine Ctl ?_|((with_reducible refine j_ hK ?_);clear hK hE K E)|((with_reducible refine aj (fun h=>?_) (fun h=>?_))<;>(try(exfalso;assumption)))|(((with_reducible first|refine ae fun K E hK hE=>?_|refine gT ?_))<;>(try simp(disch:=omega) only[go_sem,seval, *]))))
        exact⟨_,Fg.refl _,m3 - 1,by omega,q+1,by omega,by omega,by rw[HCT.out],ab,ab,ab,ab,ab,ab,ab,ab,ab,ab,ab,ab,ab,ab,ab,ab,ab,ab⟩
       ·obtain rfl:q=fr.length:=by omega
        rw[f_]
        have HE4':=HE2.out.back HFR.out
        have hkk:=HE4'.kn_eq HEE.out
        rw[hkk]at HE4' ⊢
        have HE4:=u_ HE4'
        have HW4:Hid (WkS (U.set B.kb (.obj 4 (cF kn))) B p bm bz x V X ys ns vars tf tc Rz P a' F' rv2 kn):=u_ (HU.out.setK HT.out (by rw[HEE.out.kl,hkl3]))
        have lA3:bA≠B.kb:=fun h=>by have:=HUA.out;rw[h,q11]at this;cases this
        have HA4:Hid ((U.set B.kb (.obj 4 (cF kn))) bA=(.obj 40 [.bool nt,.str rl,.lst (ts.map aC) .no])):=u_ (by rw[k_ _ _ lA3];exact HUA.out)
        have HK4:Hid (Keep t (U.set B.kb (.obj 4 (cF kn))) (fun z=>F z\/z=B.rb\/z=B.kb)):=u_ fun z hz hn=>by rw[k_ _ _ (fun e=>hn (.inr (.inr e)))];exact HK3.out z hz hn
        generalize U.set B.kb (.obj 4 (cF kn))=U4 at *
        clear HE4' hkk hcl q7 q11 k711 HU HE2 HUA HK3
        (repeat'(first|refine Ctl ?_|((with_reducible refine j_ hK ?_);clear hK hE K E)|((with_reducible refine aj (fun h=>?_) (fun h=>?_))<;>(try(exfalso;assumption)))|(((with_reducible refine ae fun K E hK hE=>?_))<;>(try simp(disch:=omega) only[go_sem,seval, *]))))
        have hRN2:Hid (c6 f a ((y.l.take (i+1)).flatMap GG)=(a',true)):=u_ (by rw[jy HR.out,jt HRN.out];exact HACC.out)
        exact⟨m - 1,by omega,i+1,a',F',rv2,by omega,by omega,hRN2,HW4,HE4,u_ (HA3.out rfl),HA4,HF,HFA,HK4,ab,ab,ab,ab,ab,ab,ab,ab,ab,ab,ab,ab,ab,ab⟩
   ·obtain rfl:j=ts.length:=by omega
    have hMM:=HM.out
    rw[G_,show aP vars ea [] (r.drop ts.length)=some ea by cases r.drop ts.length<;>rfl]at hMM
    have hms:aP vars e ts r=some ea:=hM0.out.trans hMM.symm
    have hgd:=HSTEP.out r ea (p_ HR.out) hms
    have hgr2:∀r',r'∈eU (bV x X) vars ns D ea->good r':=fun r' hr'=>hgd.rows hr'
    have hro:=wH (f:=f) HT.out.dec (a:=a') HO.out hgr2
    have ihc:=HIH.out U a' F' ea rv2 kn2 HU.out HE2.out HO.out hgd
    have hacc:=HG2.out r ea hms
    generalize eU (bV x X) vars ns D ea=RR at *
    generalize hq:c6 f a' RR=ZZ at *
    obtain⟨a3,Bl⟩:=ZZ
    simp only at ihc hro
    have HACC:Hid (c6 f a' (GG r)=(a3,Bl)):=u_ (by rw[hacc];exact hq)
    have HA3:=u_ hro
    have HK0:Hid (Keep t U (fun z=>F z\/z=B.rb\/z=B.kb)):=u_ (HKP.out.trans HKU.out fun x _ h=>.inr h)
    have HLR:Hid (U B.rb≠.free/\U B.kb≠.free/\U bA≠.free):=u_ ⟨l10,l11,lA⟩
    have HLN:Hid (bA≠B.rb/\bA≠B.kb):=u_ ⟨bZ qA q10 (by decide),bZ qA q11 (by decide)⟩
    refine ee (Fg.own hoo) ?_
    have hnl1:(dQ fr).length=fr.length:=by simp[dQ]
    clear hMM hms hgd hgr2 hro hacc hq hoo o3 o4 o6 o7 o8 o9 o10 o11 o12 oA hltj hj hm2
    (repeat'(first|refine Ctl ?_|((with_reducible refine j_ hK ?_);clear hK hE K E)|((with_reducible refine aj (fun h=>?_) (fun h=>?_))<;>(try(exfalso;omega)))|((first|(with_reducible refine ae fun K E hK hE=>?_)|((with_reducible refine aO Fj (ihc) (fun a h=>?_))))<;>(try simp(disch:=omega) only[go_sem,seval, *]))))
    obtain⟨U3,hU3⟩:∃z,z=a:=⟨_,rfl⟩
    subst hU3
    obtain⟨rv3,F3,g1,g2,g3,g4⟩:=h
    have HU3:=u_ g1
    have HE3:=u_ g2
    have HF3:Hid (∀z,F3 z->F z\/t z=.free):=u_ fun z hz=>by
     rcases g3 z hz with h|h
     ·exact HF.out z h
     ·by_cases h1:t z=.free
      ·exact .inr h1
      ·by_cases h2:F z
       ·exact .inl h2
       ·by_cases h3:z=B.rb
        ·subst h3;exact absurd h HLR.out.1
        ·by_cases h4:z=B.kb
         ·subst h4;exact absurd h HLR.out.2.1
         ·rw[HK0.out z h1 (fun h=>h.elim h2 (fun h=>h.elim h3 h4))]at h
          exact absurd h h1
    have HFA3:Hid (∀z,F3 z->z≠bA):=u_ fun z hz=>by
     rcases g3 z hz with h|h
     ·exact HFA.out z h
     ·rintro rfl;exact HLR.out.2.2 h
    have HK3:Hid (Keep t U3 (fun z=>F z\/z=B.rb\/z=B.kb)):=u_ (HK0.out.trans g4 fun x hx h=>by
     rcases h with h|h
     ·exact .inl ((HF.out x h).resolve_right hx)
     ·exact .inr h)
    have HUA3:Hid (U3 bA=(.obj 40 [.bool nt,.str rl,.lst (ts.map aC) .no])):=u_ (by
     rw[g4 bA HLR.out.2.2 (fun h=>by
      rcases h with h|h|h
      ·exact HFA.out _ h rfl
      ·exact HLN.out.1 h
      ·exact HLN.out.2 h)]
     exact HUA.out)
    have hflen:=HFL.out
    clear g1 g2 g3 g4 ihc q3 q4 q6 q7 q8 q9 q10 q11 q12 qA HU HE2 HUA HKU l3 l4 l6 l7 l8 l9 l10 l11 l12 lA HFL HM
    have q7:=HU3.out.w.known
    have q11:=HU3.out.w.kb
    have k711:¬ B.known=B.kb:=bZ q7 q11 (by decide)
    have hkl3:=HE3.out.kl
    skip
    refine aI (fun m3 env s3=>∃(q:Nat),q<=fr.length/\m3+q=fr.length/\s3=U3.set B.kb (.obj 4 (cF (clr (fr.take q) kn2)))/\env 0=.int .i64 k/\env 1=.ptr B.yes 0/\env 2=.ptr B.no 0/\env 3=.ptr B.val 0/\env 4=.ptr B.x 0/\env 5=.ptr B.tell 0/\env 6=.ptr B.row 0/\env 7=.ptr B.known 0/\env 8=.ptr B.slot 0/\env 9=.ptr B.walk 0/\env 17=.ptr bA 0/\env 95=eu y.l y.g/\env 96=.int .i64 y.l.length/\env 97=.int .i64 i/\env 25=.bool Bl/\env 156=.lst (dQ fr) o/\env 157=.int .i64 fr.length/\env 158=.int .i64 q) fr.length ?_ ?_
    ·exact⟨U3,Fg.refl _,0,by omega,by omega,by rw[List.take_zero];exact(x_ _ _ _ q11).symm,ab,ab,ab,ab,ab,ab,ab,ab,ab,ab,ab,ab,ab,ab,ab,ab,ab,ab⟩
    clear e0 e1 e2 e3 e4 e5 e6 e7 e8 e9 e17 e95 e96 e97
    rintro m3 env s3 ⟨q,hq,hm3,rfl,e0,e1,e2,e3,e4,e5,e6,e7,e8,e9,e17,e95,e96,e97,e25,e156,e157,e158⟩
    have hcl:(cF (clr (fr.take q) kn2)).length=vars.length:=by rw[fK,iu];exact hkl3
    have hnf:(dQ fr).length=fr.length:=by simp[dQ]
    by_cases hltq:q<fr.length
    ·obtain⟨sq,hsq⟩:=aN hltq
     have hsn:(dQ fr)[q]?=some [.int .i64 (sq:Int)]:=by unfold dQ;rw[c_,hsq];rfl
     have hsl:sq<vars.length:=by rw[<- HEE.out.el];exact HFR.out.lt (p_ hsq)
     have hct:=oD (k:=kn2) hsq
     have HCT:=u_ hct
     have hput:=jC (l:=clr (fr.take q) kn2) (i:=sq) (n:=false) (by rw[iu];omega)
     clear hsq hct
     generalize hcc:clr (fr.take q) kn2=CC at *
     (repeat'(first|refine Ctl ?_|((with_reducible refine j_ hK ?_);clear hK hE K E)|((with_reducible refine aj (fun h=>?_) (fun h=>?_))<;>(try(exfalso;assumption)))|(((with_reducible first|refine ae fun K E hK hE=>?_|refine gT ?_))<;>(try simp(disch:=omega) only[go_sem,seval, *]))))
     exact⟨_,Fg.refl _,m3 - 1,by omega,q+1,by omega,by omega,by rw[HCT.out],ab,ab,ab,ab,ab,ab,ab,ab,ab,ab,ab,ab,ab,ab,ab,ab,ab,ab⟩
    ·obtain rfl:q=fr.length:=by omega
     rw[f_]
     have HE4':=HE3.out.back HFR.out
     have hkk:=HE4'.kn_eq HEE.out
     rw[hkk]at HE4' ⊢
     have HE4:=u_ HE4'
     have HW4:Hid (WkS (U3.set B.kb (.obj 4 (cF kn))) B p bm bz x V X ys ns vars tf tc Rz P a3 F3 rv3 kn):=u_ (HU3.out.setK HT.out (by rw[HEE.out.kl,hkl3]))
     have lA3:bA≠B.kb:=fun h=>by have:=HUA3.out;rw[h,q11]at this;cases this
     have HA4:Hid ((U3.set B.kb (.obj 4 (cF kn))) bA=(.obj 40 [.bool nt,.str rl,.lst (ts.map aC) .no])):=u_ (by rw[k_ _ _ lA3];exact HUA3.out)
     have HK4:Hid (Keep t (U3.set B.kb (.obj 4 (cF kn))) (fun z=>F z\/z=B.rb\/z=B.kb)):=u_ fun z hz hn=>by rw[k_ _ _ (fun e=>hn (.inr (.inr e)))];exact HK3.out z hz hn
     generalize U3.set B.kb (.obj 4 (cF kn))=U4 at *
     clear HE4' hkk hcl q7 q11 k711 HU3 HE3 HUA3 HK3
     cases Bl with
     |false=>
      (repeat'(first|refine Ctl ?_|((with_reducible refine j_ hK ?_);clear hK hE K E)|((with_reducible refine aj (fun h=>?_) (fun h=>?_))<;>(try(exfalso;assumption)))|(((with_reducible refine ae fun K E hK hE=>?_))<;>(try simp(disch:=omega) only[go_sem,seval, *]))))
      have hZ2:=HZ.out
      rw[vI (i+1),jy HR.out,yL (by rw[jt HRN.out];exact HACC.out)]at hZ2
      subst hZ2
      all_goals(refine ap sQ hQ ?_)
      all_goals exact⟨_,_,Wk.refl _,Fg.refl _,_,rfl,rfl,rv3,F3,HW4.out,HE4.out,HF3.out,HK4.out⟩
     |true=>
      (repeat'(first|refine Ctl ?_|((with_reducible refine j_ hK ?_);clear hK hE K E)|((with_reducible refine aj (fun h=>?_) (fun h=>?_))<;>(try(exfalso;assumption)))|(((with_reducible refine ae fun K E hK hE=>?_))<;>(try simp(disch:=omega) only[go_sem,seval, *]))))
      have hRN2:Hid (c6 f a ((y.l.take (i+1)).flatMap GG)=(a3,true)):=u_ (by rw[jy HR.out,jt HRN.out];exact HACC.out)
      exact⟨m - 1,by omega,i+1,a3,F3,rv3,by omega,by omega,hRN2,HW4,HE4,u_ (HA3.out rfl),HA4,HF3,HFA3,HK4,ab,ab,ab,ab,ab,ab,ab,ab,ab,ab,ab,ab,ab,ab⟩
  ·obtain rfl:i=y.l.length:=by omega
   have hRN:=HRN.out
   rw[f_,HZ.out]at hRN
   subst hRN
   clear HZ
   (repeat'(first|refine Ctl ?_|((with_reducible refine j_ hK ?_);clear hK hE K E)|((with_reducible refine aj (fun h=>?_) (fun h=>?_))<;>(try(exfalso;assumption)))|(((with_reducible refine ae fun K E hK hE=>?_))<;>(try simp(disch:=omega) only[go_sem,seval, *]))))
   all_goals(refine ap sQ hQ ?_)
   all_goals exact⟨_,_,Wk.refl _,Fg.refl _,_,rfl,rfl,rv',F',HS.out,HEE.out,HF.out,HKP.out⟩
end
end Go.Proofs.YteldpmgepfaiiaaGreatDoor
