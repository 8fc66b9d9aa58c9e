/- Walks of functions, and plain facts. Conditions: those in the statements. -/
import Derived.Test.YteldpmgepfaiiaaGreatDoorQsUkj
import Derived.Test.YteldpmgepfaiiaaGreatDoorQsYaj
set_option linter.unusedSimpArgs false
set_option linter.unusedVariables false
set_option maxRecDepth 100000
namespace Go.Proofs.YteldpmgepfaiiaaGreatDoor
open Go.RowKit
attribute [local go_sem] lh lQ lg jk lf dF dE eA ed
attribute [local go_sem] aH aV cH
theorem gI {e hv m:Nat}{L L':List Sgn}{b:Bool}{u:Unit}(h:ev e L hv m b=.ok (u,L')):L'=L:=by
 unfold ev at h
 split at h
 ·cases h
 ·injection h with h;injection h with _ h;exact h.symm
theorem eG {α:Type}{e f:Nat}{one:List Sgn->PU α}{ks:List Int}{out xs:List α}{L Lend:List Sgn}(h:listGo e one ks (f+1) out L=.ok (xs,Lend)) :
  ∃x L1,one L=.ok (x,L1)/\((isT L1 0 [44]=true/\listGo e one ks f (out++[x]) L1.tail=.ok (xs,Lend))\/(isT L1 0 [44]=false/\xs=out++[x]/\Lend=L1)):=by
 simp only[listGo]at h
 cases hr:ev e L out.length 8 (db ks L)with
 |error q=>rw[hr]at h;cases h
 |ok q=>
  obtain⟨u,L0⟩:=q
  have e0:=gI hr
  subst e0
  rw[hr,bW]at h
  cases h1:one L0 with
  |error q=>rw[h1]at h;cases h
  |ok q=>
   obtain⟨x,L1⟩:=q
   rw[h1,bW]at h
   refine⟨x,L1,rfl,?_⟩
   split at h
   ·rename_i hc;exact .inl ⟨hc,h⟩
   ·rename_i hc
    injection h with h;injection h with h2 h3
    exact .inr ⟨by simpa using hc,h2.symm,h3.symm⟩
theorem i6 {α:Type}{e:Nat}{one:List Sgn->PU α}{ks:List Int}:∀(f:Nat) {out xs:List α} {L Lend:List Sgn},listGo e one ks f out L=.ok (xs,Lend)->out.length<xs.length
 |0,out,xs,L,Lend,h=>by cases h
 |f+1,out,xs,L,Lend,h=>by
  obtain⟨x,L1,_,⟨_,h2⟩|⟨_,h2,_⟩⟩:=eG h
  ·have:=i6 f h2
   rw[d_]at this
   simp only[List.length_cons,List.length_nil]at this;omega
  ·rw[h2];simp
theorem jV {e:Nat}{L L':List Sgn}{t:Trm}(h:gG e L=.ok (t,L')):∃x,L=x::L':=by
 unfold gG at h
 split at h
 ·unfold qZ at h
  cases hq:kM e L 2 with
  |error q=>rw[hq]at h;cases h
  |ok q=>
   obtain⟨tx,L2⟩:=q
   rw[hq,bW,bW]at h
   injection h with h;injection h with h1 h2
   subst h2
   obtain⟨x,hx,_⟩:=dW hq
   exact⟨x,hx⟩
 ·cases hq:ey e L with
  |error q=>rw[hq]at h;cases h
  |ok q=>
   obtain⟨tx,L2⟩:=q
   rw[hq,bW]at h
   injection h with h;injection h with h1 h2
   subst h2
   obtain⟨x,hx,_⟩:=dW hq
   exact⟨x,hx⟩
theorem oK {e:Nat}{L L':List Sgn}{nt:Bool}{a:Atm}(h:fp e L nt=.ok (a,L')):∃x L1 L3,L=x::L1/\x.kind=1/\a.rel=x.text/\a.not=nt/\isT L1 0 [40]=true /\
  listGo e (gG e) [1,2] (L1.tail.length+1) [] L1.tail=.ok (a.ts,L3)/\isT L3 0 [41]=true/\L'=L3.tail:=by
 unfold fp at h
 cases h1:ey e L with
 |error q=>rw[h1]at h;cases h
 |ok q=>
  obtain⟨rel,L1⟩:=q
  rw[h1,bW]at h
  obtain⟨x,rfl,hk,ht⟩:=dW h1
  cases h2:iZ e (gG e) [1,2] L1 with
  |error q=>rw[h2]at h;cases h
  |ok q=>
   obtain⟨ts,L4⟩:=q
   rw[h2,bW]at h
   injection h with h;injection h with e1 e2
   subst e1;subst e2
   unfold iZ at h2
   cases h3:dR e L1 [40]with
   |error q=>rw[h3]at h2;cases h2
   |ok q=>
    obtain⟨u,L2⟩:=q
    obtain⟨c1,rfl⟩:=ez h3
    rw[h3,bW]at h2
    cases h4:listGo e (gG e) [1,2] (L1.tail.length+1) [] L1.tail with
    |error q=>rw[h4]at h2;cases h2
    |ok q=>
     obtain⟨xs,L3⟩:=q
     rw[h4,bW]at h2
     cases h5:dR e L3 [41]with
     |error q=>rw[h5]at h2;cases h2
     |ok q=>
      obtain⟨u,L5⟩:=q
      obtain⟨c2,rfl⟩:=ez h5
      rw[h5,bW]at h2
      injection h2 with h2;injection h2 with e1 e2
      subst e1
      exact⟨x,L1,L3,rfl,hk,ht.symm,rfl,c1,h4,c2,e2.symm⟩
set_option maxHeartbeats 4000000 in
theorem rH (s:St)(r e i j:Nat)(W L L':List Sgn)(a:Atm)(hw:W.length<=40000)(hG:GoodU L)(hi:Sfx W i L)(h:fp e L false=.ok (a,L'))(hj:Sfx W j L')(h8:a.ts.length<=8):SRet Tryz.prog 71 [.ptr r 0] (Rw s r e W i) (.agg (aG a)) (Rw s r e W j):=by
 obtain⟨x,L1,L3,rfl,hk,hrel,hnt,c1,hgo,c2,rfl⟩:=oK h
 clear h
 obtain⟨an,ar,ats⟩:=a
 simp only at hrel hnt hgo h8
 subst hnt
 obtain⟨g1,g2,g3⟩:=hi.cons
 have w1:=fun s=>gp s r e i W x 1 hw g1 hk
 rw[<- hrel]at w1
 have hc1:isT W (i+1) [40]=true:=by rw[g2.isT];exact c1
 have w2:=fun s=>fq s r e (i+1) W [40] hw hc1
 have g4:=g2.tail c1
 have hG2:GoodU L1.tail:=fun y hy=>hG y (List.mem_cons_of_mem _ (List.mem_of_mem_tail hy))
 obtain⟨t0,L4,ht0,hrest⟩:=eG hgo
 obtain⟨x4,hx4⟩:=jV ht0
 rw[hx4]at g4 hG2 ht0
 obtain⟨g5,g6,g7⟩:=g4.cons
 have w3:=fun s=>xT s r e (i+1+1) (i+1+1+1) W _ L4 t0 hw hG2 g4 ht0 g6
 have hG4:GoodU L4:=fun y hy=>hG2 y (List.mem_cons_of_mem _ hy)
 clear g1 g2 g3 g4 g5 g7 c1 hc1 ht0 hx4 hk hG hG2 hgo
 rw[List.nil_append]at hrest
 have HRest:=u_ hrest
 have HG4:=u_ hG4
 have HS6:=u_ g6
 clear hrest hG4 g6
 refine aw Tryz.func71 rfl Tryz.ntmps71 rfl fun Q hQ hQe=>?_
 (repeat'(first|refine Ctl ?_|(with_reducible first|(refine j_ hK ?_;clear hK hE K E)|(refine j_ hKh ?_;clear hKh Kh)|(refine j_ hKb (aL ?_);clear hKb Kb)|refine aq 3 [([0,1,2],3,[[0,1]]),([4],5,[[],[]]),([6],7,[[],[],[]])] [] hQe fun K E hK hE=>?_)|((first|(with_reducible first|refine ae fun K E hK hE=>?_|refine ak mz (w1 _) ?_|refine ak my (w2 _) ?_|refine ak Cj (w3 _) ?_|refine aE fun Kh hKh=>?_|refine aD fun Kh hKh=>?_|refine aM fun Kb hKb=>?_)|((with_reducible refine ao (fun b hb=>?_));(repeat(obtain⟨_,hb⟩:=hb)))|((with_reducible refine cq (fun o2 ho=>?_));(try simp(disch:=assumption) only[bc,eA,aH]at ho);(repeat(obtain⟨_,ho⟩:=ho))))<;>(try simp(disch:=first|assumption|omega) only[go_sem,seval,aC,dE,aH, *]))))
 rename_i bz z1 z2 hbz z3 z4 z5 z6 q7 q8 q9
 obtain⟨bA,hbA⟩:∃x,x=b:=⟨_,rfl⟩
 subst hbA
 subst hrel
 refine aI (fun m env t=>∃(p:Nat) (ts:List Trm) (o:Own) (Lp:List Sgn),Sfx W p Lp/\GoodU Lp/\m=Lp.length/\((isT Lp 0 [44]=true/\∃f,listGo e (gG e) [1,2] f ts Lp.tail=.ok (ats,L3))\/(isT Lp 0 [44]=false/\ats=ts/\L3=Lp)) /\
  t=Rw (((s.own o 53 3 ts.length).set bz (.obj 40 [.bool false,.str [],.lst [] .full])).set bA (.obj 40 [.bool false,.str x.text,.lst (ts.map aC) o])) r e W p/\OwnOk s o ts.length/\ay o r/\ay o bA/\ay o bz /\
  env 0=.ptr r 0/\env 2=.ptr bz 0/\env 3=.ptr bA 0) L4.length ?_ ?_
 ·refine⟨_,Fg.refl _,i+1+1+1,[t0],o2,L4,HS6.out,HG4.out,rfl,?_,rfl,ho,‹_›,‹_›,‹_›,ab,ab,ab⟩
  rcases HRest.out with ⟨k1,k2⟩|k
  ·exact .inl ⟨k1,_,k2⟩
  ·exact .inr k
 ·clear w1 w2 w3 HRest HG4 HS6 hi ho q7 q8 q9 o2 t0 x4
  rintro m env t ⟨p,ts,o,Lp,hS,hGp,rfl,hrest,rfl,hO,hor,hoA,hoz,e0,e2,e3⟩
  have hpl:=hS.1
  rcases hrest with ⟨hc,f,hf⟩|⟨hc,hts,hL⟩
  ·have hlt:=i6 f hf
   cases f with
   |zero=>cases hf
   |succ f=>
    obtain⟨t1,L5,ht1,hrest⟩:=eG hf
    obtain⟨x5,hx5⟩:=jV ht1
    have g1:=hS.tail hc
    have hG5:GoodU Lp.tail:=fun y hy=>hGp y (List.mem_of_mem_tail hy)
    have hWc:isT W p [44]=true:=by rw[hS.isT];exact hc
    have hlp:L5.length<Lp.length:=by
     have:=congrArg List.length hx5
     rw[List.length_tail]at this
     simp only[List.length_cons]at this;omega
    rw[hx5]at g1 hG5 ht1
    obtain⟨g5,g6,g7⟩:=g1.cons
    have hp1:=g1.1
    have v1:=fun s=>oU s r e p W hw hpl hWc
    have v2:=fun s a b t=>mV s r e (p+1) W a b t hp1
    have v3:=fun s b=>jD s r e (p+1) W (ts.length:Int) 8 b (by omega)
    have v4:=fun s=>xT s r e (p+1) (p+1+1) W _ L5 t1 hw hG5 g1 ht1 g6
    have hGL:GoodU L5:=fun y hy=>hG5 y (List.mem_cons_of_mem _ hy)
    have HR:=u_ hrest
    have HGL:=u_ hGL
    have HS:=u_ g6
    have HM:=u_ hlp
    have hml:(ts.map aC).length=ts.length:=a_ _
    have hml8:ts.length<8:=by omega
    clear hrest hGL g6 hlp ht1 hf hx5 hc hWc hS hGp g1 hG5 g5 g7 hlt
    (repeat'(first|refine Ctl ?_|(with_reducible first|(refine j_ hK ?_;clear hK hE K E)|(refine j_ hKh ?_;clear hKh Kh)|(refine j_ hKb (aL ?_);clear hKb Kb)|refine aq 5 [([0,1,2,3,4],5,[[0,1,2,3]]),([],6,[[],[]])] [] hQe fun K E hK hE=>?_|refine aq 6 [([0,1,2],3,[[0,1]]),([4],5,[[],[]]),([6],7,[[],[],[]])] [] hQe fun K E hK hE=>?_)|((with_reducible refine aj (fun h=>?_) (fun h=>?_))<;>(try(exfalso;assumption)))|((first|(with_reducible first|refine ae fun K E hK hE=>?_|refine ak qn (v1 _) ?_|refine ak qp (v3 _ _) ?_|refine ak Cj (v4 _) ?_|refine aE fun Kh hKh=>?_|refine aD fun Kh hKh=>?_|refine aM fun Kb hKb=>?_)|((with_reducible refine aO xP (v2 _ _ _ _) (fun a h=>?_)))|((with_reducible refine cq (fun o2 ho=>?_));(try simp(disch:=assumption) only[aQ,aS,bc,eA,dF]at ho);(repeat(obtain⟨_,ho⟩:=ho))))<;>(try simp(disch:=first|assumption|omega) only[go_sem,seval,aC,dF,dE, *]))))
    refine⟨Rw (((s.own o2 53 3 (ts++[t1]).length).set bz (.obj 40 [.bool false,.str [],.lst [] .full])).set bA (.obj 40 [.bool false,.str x.text,.lst ((ts++[t1]).map aC) o2])) r e W (p+1+1),?_,L5.length,HM.out,p+1+1,ts++[t1],o2,L5,HS.out,HGL.out,rfl,?_,rfl,?_,‹_›,‹_›,‹_›,ab,ab,ab⟩
    ·simp only[List.map_append,List.map_cons,List.map_nil,aC,d_,List.length_cons,List.length_nil]
     exact Fg.refl _
    ·rcases HR.out with ⟨k1,k2⟩|k
     ·exact .inl ⟨k1,_,k2⟩
     ·exact .inr k
    ·simpa only[d_,List.length_cons,List.length_nil]using ho
  ·subst hts
   subst hL
   have hWc:isT W p [44]=false:=by rw[hS.isT];exact hc
   have hWd:isT W p [41]=true:=by rw[hS.isT];exact c2
   have hjp:j=p+1:=by
    have g:=hS.tail c2
    have e1:=congrArg List.length g.2
    have e2:=congrArg List.length hj.2
    rw[D_]at e1 e2
    have:=g.1;have:=hj.1
    omega
   have v1:=fun s=>oV s r e p W hpl hWc
   have v2:=fun s=>fq s r e p W [41] hw hWd
   subst hjp
   clear hc hWc hWd c2 hj hS hGp
   (repeat'(first|refine Ctl ?_|((with_reducible refine j_ hK ?_);clear hK hE K E)|((with_reducible refine aj (fun h=>?_) (fun h=>?_))<;>(try(exfalso;assumption)))|(((with_reducible first|refine ae fun K E hK hE=>?_|refine ak qn (v1 _) ?_|refine ak my (v2 _) ?_))<;>(try simp(disch:=first|assumption|omega) only[go_sem,seval, *]))))
   all_goals(refine ap EW hQ ?_)
   refine⟨_,Rw s r e W (p+1),Wk.agg ?_,?_,rfl,rfl⟩
   ·simp only[aG];(repeat(first|exact WkL.nil|apply WkL.same|apply WkL.lst))
   ·refine Fg.rw ?_
    (exact bC)
end Go.Proofs.YteldpmgepfaiiaaGreatDoor
namespace Go.Proofs.YteldpmgepfaiiaaGreatDoor
open Go.RowKit
attribute [local go_sem] lh lQ lg jk lf dF dE eA ed
attribute [local go_sem] aH aV cH
theorem Sfx.one {W L:List Sgn}{i j:Nat}(h:Sfx W i L)(k:Sfx W j L):j=i:=by
 have e1:=congrArg List.length h.2
 have e2:=congrArg List.length k.2
 rw[D_]at e1 e2
 have:=h.1;have:=k.1
 omega
def tP (e:Nat)(L:List Sgn):PU Dcl:=bu (ey e L) fun n L=>bu (iZ e (ey e) [1] L) fun ds L=>bu (dR e L [46]) fun _ L=>.ok (⟨n,ds⟩,L)
theorem tO {e:Nat}{L L':List Sgn}{a:Dcl}(h:tP e L=.ok (a,L')):∃x L1 L3,L=x::L1/\x.kind=1/\a.name=x.text/\isT L1 0 [40]=true /\
  listGo e (ey e) [1] (L1.tail.length+1) [] L1.tail=.ok (a.doms,L3)/\isT L3 0 [41]=true/\isT L3.tail 0 [46]=true/\L'=L3.tail.tail:=by
 unfold tP at h
 cases h1:ey e L with
 |error q=>rw[h1]at h;cases h
 |ok q=>
  obtain⟨rel,L1⟩:=q
  rw[h1,bW]at h
  obtain⟨x,rfl,hk,ht⟩:=dW h1
  cases h2:iZ e (ey e) [1] L1 with
  |error q=>rw[h2]at h;cases h
  |ok q=>
   obtain⟨ts,L4⟩:=q
   rw[h2,bW]at h
   cases h0:dR e L4 [46]with
   |error q=>rw[h0]at h;cases h
   |ok q=>
    obtain⟨u,L6⟩:=q
    obtain⟨c3,rfl⟩:=ez h0
    rw[h0,bW]at h
    injection h with h;injection h with e1 e2
    subst e1;subst e2
    unfold iZ at h2
    cases h3:dR e L1 [40]with
    |error q=>rw[h3]at h2;cases h2
    |ok q=>
     obtain⟨u,L2⟩:=q
     obtain⟨c1,rfl⟩:=ez h3
     rw[h3,bW]at h2
     cases h4:listGo e (ey e) [1] (L1.tail.length+1) [] L1.tail with
     |error q=>rw[h4]at h2;cases h2
     |ok q=>
      obtain⟨xs,L3⟩:=q
      rw[h4,bW]at h2
      cases h5:dR e L3 [41]with
      |error q=>rw[h5]at h2;cases h2
      |ok q=>
       obtain⟨u,L5⟩:=q
       obtain⟨c2,rfl⟩:=ez h5
       rw[h5,bW]at h2
       injection h2 with h2;injection h2 with e1 e2
       subst e1;subst e2
       exact⟨x,L1,L3,rfl,hk,ht.symm,c1,h4,c2,c3,rfl⟩
set_option maxHeartbeats 4000000 in
theorem Es (s:St)(r e i j:Nat)(W L L':List Sgn)(a:Dcl)(hw:W.length<=40000)(hi:Sfx W i L)(h:tP e L=.ok (a,L'))(hj:Sfx W j L')(h8:a.doms.length<=8):SRet Tryz.prog 38 [.ptr r 0] (Rw s r e W i) (.agg (az a)) (Rw s r e W j):=by
 obtain⟨x,L1,L3,rfl,hk,hrel,c1,hgo,c2,c3,rfl⟩:=tO h
 clear h
 obtain⟨ar,ats⟩:=a
 simp only at hrel hgo h8
 obtain⟨g1,g2,g3⟩:=hi.cons
 have w1:=fun s=>gp s r e i W x 1 hw g1 hk
 rw[<- hrel]at w1
 have hc1:isT W (i+1) [40]=true:=by rw[g2.isT];exact c1
 have w2:=fun s=>fq s r e (i+1) W [40] hw hc1
 have g4:=g2.tail c1
 obtain⟨t0,L4,ht0,hrest⟩:=eG hgo
 obtain⟨x4,hx4,hk4,ht4⟩:=dW ht0
 rw[hx4]at g4 ht0
 obtain⟨g5,g6,g7⟩:=g4.cons
 have w3:=fun s=>gp s r e (i+1+1) W x4 1 hw g5 hk4
 rw[ht4]at w3
 clear g1 g2 g3 g4 g5 g7 c1 hc1 ht0 hx4 hk hk4 ht4 hgo
 rw[List.nil_append]at hrest
 have HRest:=u_ hrest
 have HS6:=u_ g6
 clear hrest g6
 refine aw Tryz.func38 rfl Tryz.ntmps38 rfl fun Q hQ hQe=>?_
 (repeat'(first|refine Ctl ?_|(with_reducible first|(refine j_ hK ?_;clear hK hE K E)|(refine j_ hKh ?_;clear hKh Kh)|(refine j_ hKb (aL ?_);clear hKb Kb)|refine aq 3 [([0,1,2],3,[[0,1]]),([4],5,[[],[]]),([6],7,[[],[],[]])] [] hQe fun K E hK hE=>?_)|((first|(with_reducible first|refine ae fun K E hK hE=>?_|refine ak mz (w1 _) ?_|refine ak my (w2 _) ?_|refine ak mz (w3 _) ?_|refine aE fun Kh hKh=>?_|refine aD fun Kh hKh=>?_|refine aM fun Kb hKb=>?_)|((with_reducible refine ao (fun b hb=>?_));(repeat(obtain⟨_,hb⟩:=hb)))|((with_reducible refine cq (fun o2 ho=>?_));(try simp(disch:=assumption) only[bc,eA,aH]at ho);(repeat(obtain⟨_,ho⟩:=ho))))<;>(try simp(disch:=first|assumption|omega) only[go_sem,seval,dE,aH, *]))))
 rename_i bz z1 z2 hbz z3 z4 z5 z6 q7 q8 q9
 obtain⟨bA,hbA⟩:∃x,x=b:=⟨_,rfl⟩
 subst hbA
 subst hrel
 refine aI (fun m env t=>∃(p:Nat) (ts:List (List UInt8)) (o:Own) (Lp:List Sgn),Sfx W p Lp/\m=Lp.length/\((isT Lp 0 [44]=true/\∃f,listGo e (ey e) [1] f ts Lp.tail=.ok (ats,L3))\/(isT Lp 0 [44]=false/\ats=ts/\L3=Lp)) /\
  t=Rw (((s.own o 9 1 ts.length).set bz (.obj 66 [.str [],.lst [] .full])).set bA (.obj 66 [.str x.text,.lst (aA ts) o])) r e W p/\OwnOk s o ts.length/\ay o r/\ay o bA/\ay o bz /\
  env 0=.ptr r 0/\env 2=.ptr bz 0/\env 3=.ptr bA 0) L4.length ?_ ?_
 ·refine⟨_,Fg.refl _,i+1+1+1,[t0],o2,L4,HS6.out,rfl,?_,rfl,ho,‹_›,‹_›,‹_›,ab,ab,ab⟩
  rcases HRest.out with ⟨k1,k2⟩|k
  ·exact .inl ⟨k1,_,k2⟩
  ·exact .inr k
 ·clear w1 w2 w3 HRest HS6 hi ho q7 q8 q9 o2 t0 x4
  rintro m env t ⟨p,ts,o,Lp,hS,rfl,hrest,rfl,hO,hor,hoA,hoz,e0,e2,e3⟩
  have hpl:=hS.1
  rcases hrest with ⟨hc,f,hf⟩|⟨hc,hts,hL⟩
  ·have hlt:=i6 f hf
   cases f with
   |zero=>cases hf
   |succ f=>
    obtain⟨t1,L5,ht1,hrest⟩:=eG hf
    obtain⟨x5,hx5,hk5,ht5⟩:=dW ht1
    have g1:=hS.tail hc
    have hWc:isT W p [44]=true:=by rw[hS.isT];exact hc
    have hlp:L5.length<Lp.length:=by
     have:=congrArg List.length hx5
     rw[List.length_tail]at this
     simp only[List.length_cons]at this;omega
    rw[hx5]at g1 ht1
    obtain⟨g5,g6,g7⟩:=g1.cons
    have hp1:=g1.1
    have v1:=fun s=>oU s r e p W hw hpl hWc
    have v2:=fun s a b t=>mV s r e (p+1) W a b t hp1
    have v3:=fun s b=>jD s r e (p+1) W (ts.length:Int) 8 b (by omega)
    have v4:=fun s=>gp s r e (p+1) W x5 1 hw g5 hk5
    rw[ht5]at v4
    have HR:=u_ hrest
    have HS:=u_ g6
    have HM:=u_ hlp
    have hml:(aA ts).length=ts.length:=by simp[aA]
    have hml8:ts.length<8:=by omega
    clear hrest g6 hlp ht1 hf hx5 hc hWc hS g1 g5 g7 hlt hk5 ht5
    (repeat'(first|refine Ctl ?_|(with_reducible first|(refine j_ hK ?_;clear hK hE K E)|(refine j_ hKh ?_;clear hKh Kh)|(refine j_ hKb (aL ?_);clear hKb Kb)|refine aq 5 [([0,1,2,3,4],5,[[0,1,2,3]]),([],6,[[],[]])] [] hQe fun K E hK hE=>?_|refine aq 6 [([0,1,2],3,[[0,1]]),([4],5,[[],[]]),([6],7,[[],[],[]])] [] hQe fun K E hK hE=>?_)|((with_reducible refine aj (fun h=>?_) (fun h=>?_))<;>(try(exfalso;assumption)))|((first|(with_reducible first|refine ae fun K E hK hE=>?_|refine ak qn (v1 _) ?_|refine ak qp (v3 _ _) ?_|refine ak mz (v4 _) ?_|refine aE fun Kh hKh=>?_|refine aD fun Kh hKh=>?_|refine aM fun Kb hKb=>?_)|((with_reducible refine aO xP (v2 _ _ _ _) (fun a h=>?_)))|((with_reducible refine cq (fun o2 ho=>?_));(try simp(disch:=assumption) only[aQ,aS,bc,eA,dF,hml]at ho);(repeat(obtain⟨_,ho⟩:=ho))))<;>(try simp(disch:=first|assumption|omega) only[go_sem,seval,dF,dE, *]))))
    refine⟨Rw (((s.own o2 9 1 (ts++[t1]).length).set bz (.obj 66 [.str [],.lst [] .full])).set bA (.obj 66 [.str x.text,.lst (aA (ts++[t1])) o2])) r e W (p+1+1),?_,L5.length,HM.out,p+1+1,ts++[t1],o2,L5,HS.out,rfl,?_,rfl,?_,‹_›,‹_›,‹_›,ab,ab,ab⟩
    ·simp only[aA,List.map_append,List.map_cons,List.map_nil,d_,List.length_cons,List.length_nil]
     exact Fg.refl _
    ·rcases HR.out with ⟨k1,k2⟩|k
     ·exact .inl ⟨k1,_,k2⟩
     ·exact .inr k
    ·simpa only[d_,List.length_cons,List.length_nil]using ho
  ·subst hts
   subst hL
   have hWc:isT W p [44]=false:=by rw[hS.isT];exact hc
   have hWd:isT W p [41]=true:=by rw[hS.isT];exact c2
   have g:=hS.tail c2
   have hWe:isT W (p+1) [46]=true:=by rw[g.isT];exact c3
   have hjp:j=p+1+1:=(g.tail c3).one hj
   have v1:=fun s=>oV s r e p W hpl hWc
   have v2:=fun s=>fq s r e p W [41] hw hWd
   have v3:=fun s=>fq s r e (p+1) W [46] hw hWe
   subst hjp
   clear hc hWc hWd hWe c2 c3 hj hS g
   (repeat'(first|refine Ctl ?_|((with_reducible refine j_ hK ?_);clear hK hE K E)|((with_reducible refine aj (fun h=>?_) (fun h=>?_))<;>(try(exfalso;assumption)))|(((with_reducible first|refine ae fun K E hK hE=>?_|refine ak qn (v1 _) ?_|refine ak my (v2 _) ?_|refine ak my (v3 _) ?_))<;>(try simp(disch:=first|assumption|omega) only[go_sem,seval, *]))))
   all_goals(refine ap E2 hQ ?_)
   refine⟨_,Rw s r e W (p+1+1),Wk.agg ?_,?_,rfl,rfl⟩
   ·simp only[az];(repeat(first|exact WkL.nil|apply WkL.same|apply WkL.lst))
   ·refine Fg.rw ?_
    (exact bC)
theorem ue {e:Nat}{L L':List Sgn}{nt:Bool}{a:Atm}(h:fp e L nt=.ok (a,L')):fp e L false=.ok (⟨false,a.rel,a.ts⟩,L')/\a.not=nt:=by
 unfold fp at h ⊢
 generalize ey e L=q at h ⊢
 cases q with
 |error q=>cases h
 |ok q=>
  obtain⟨rel,L1⟩:=q
  simp only[bW]at h ⊢
  generalize iZ e (gG e) [1,2] L1=q at h ⊢
  cases q with
  |error q=>cases h
  |ok q=>
   obtain⟨ts,L4⟩:=q
   simp only[bW]at h ⊢
   injection h with h;injection h with e1 e2
   subst e1;subst e2
   exact⟨rfl,rfl⟩
def th (L:List Sgn):List Sgn:=if isT L 0 [33]=true then L.tail else L
set_option maxHeartbeats 4000000 in
theorem Cr (s:St)(r e i j:Nat)(W L L':List Sgn)(a:Atm)(hw:W.length<=40000)(hG:GoodU L)(hi:Sfx W i L)(h:fp e (th L) (isT L 0 [33])=.ok (a,L'))(hj:Sfx W j L')(h8:a.ts.length<=8):SRet Tryz.prog 72 [.ptr r 0] (Rw s r e W i) (.agg (aG a)) (Rw s r e W j):=by
 obtain⟨h1,h2⟩:=ue h
 clear h
 have hil:=hi.1
 have hw1:=fun s=>ld s r e i W [33] hil
 rw[hi.isT]at hw1
 obtain⟨an,ar,ats⟩:=a
 simp only at h1 h2 h8
 cases hc:isT L 0 [33]with
 |true=>
  rw[hc]at hw1 h2
  subst h2
  simp only[th,hc,if_true]at h1
  have hG2:GoodU L.tail:=fun y hy=>hG y (List.mem_of_mem_tail hy)
  have g:=hi.tail hc
  have w2:=fun s=>rH s r e (i+1) j W L.tail L' ⟨false,ar,ats⟩ hw hG2 g h1 hj h8
  simp only[aG]at w2
  have hip:=g.1
  clear h1 hG hG2 g hi hj hc
  refine aw Tryz.func72 rfl Tryz.ntmps72 rfl fun Q hQ hQe=>?_
  (repeat'(first|refine Ctl ?_|((with_reducible refine j_ hK ?_);clear hK hE K E)|((with_reducible refine aj (fun h=>?_) (fun h=>?_))<;>(try(exfalso;assumption)))|((first|(with_reducible first|refine ae fun K E hK hE=>?_|refine ak iC (hw1 _) ?_|refine ak xN (w2 _) ?_)|((with_reducible refine ao (fun b hb=>?_));(repeat(obtain⟨_,hb⟩:=hb))))<;>(try simp(disch:=first|assumption|omega) only[go_sem,seval, *]))))
  all_goals(refine ap AA hQ ?_)
  refine⟨_,Rw s r e W j,Wk.agg ?_,?_,rfl,rfl⟩
  ·simp only[aG];(repeat(first|exact WkL.nil|apply WkL.same))
  ·refine Fg.rw ?_
   (exact bC)
 |false=>
  rw[hc]at hw1 h2
  subst h2
  simp only[th,hc,Bool.false_eq_true,if_false]at h1
  have w2:=fun s=>rH s r e i j W L L' ⟨false,ar,ats⟩ hw hG hi h1 hj h8
  simp only[aG]at w2
  clear h1 hG hi hj hc
  refine aw Tryz.func72 rfl Tryz.ntmps72 rfl fun Q hQ hQe=>?_
  (repeat'(first|refine Ctl ?_|((with_reducible refine j_ hK ?_);clear hK hE K E)|((with_reducible refine aj (fun h=>?_) (fun h=>?_))<;>(try(exfalso;assumption)))|((first|(with_reducible first|refine ae fun K E hK hE=>?_|refine ak iC (hw1 _) ?_|refine ak xN (w2 _) ?_)|((with_reducible refine ao (fun b hb=>?_));(repeat(obtain⟨_,hb⟩:=hb))))<;>(try simp(disch:=first|assumption|omega) only[go_sem,seval, *]))))
  all_goals(refine ap AA hQ ?_)
  refine⟨_,Rw s r e W j,Wk.agg ?_,?_,rfl,rfl⟩
  ·simp only[aG];(repeat(first|exact WkL.nil|apply WkL.same))
  ·refine Fg.rw ?_
   (exact bC)
end Go.Proofs.YteldpmgepfaiiaaGreatDoor
namespace Go.Proofs.YteldpmgepfaiiaaGreatDoor
open Go.RowKit
attribute [local go_sem] lh lQ lg jk lf dF dE eA ed
attribute [local go_sem] aH aV cH
theorem Sfx.suf {W L L':List Sgn}{i:Nat}(h:Sfx W i L)(k:L' <:+ L):∃j,Sfx W j L':=by
 obtain⟨h1,rfl⟩:=h
 obtain⟨p,hp⟩:=k.trans (List.drop_suffix i W)
 exact⟨p.length,by rw[<- hp];simp,by rw[<- hp];simp⟩
theorem suf_tail {L:List Sgn}:L.tail <:+ L:=List.tail_suffix L
theorem ka {α:Type}{e:Nat}{one:List Sgn->PU α}{ks:List Int}(hone:∀L x L',one L=.ok (x,L')->L' <:+ L):∀(f:Nat) {out xs:List α} {L Lend:List Sgn},listGo e one ks f out L=.ok (xs,Lend)->Lend <:+ L
 |0,out,xs,L,Lend,h=>by cases h
 |f+1,out,xs,L,Lend,h=>by
  obtain⟨x,L1,h1,⟨_,h2⟩|⟨_,_,h2⟩⟩:=eG h
  ·exact((ka hone f h2).trans suf_tail).trans (hone _ _ _ h1)
  ·rw[h2];exact hone _ _ _ h1
theorem yB {e:Nat}{L L':List Sgn}{t:Trm}(h:gG e L=.ok (t,L')):L' <:+ L:=by
 obtain⟨x,rfl⟩:=jV h
 exact List.suffix_cons _ _
theorem dx {e:Nat}{L L':List Sgn}{nt:Bool}{a:Atm}(h:fp e L nt=.ok (a,L')):L' <:+ L:=by
 obtain⟨x,L1,L3,rfl,_,_,_,_,hgo,_,rfl⟩:=oK h
 exact(suf_tail.trans ((ka (fun _ _ _ h=>yB h) _ hgo).trans suf_tail)).trans (List.suffix_cons _ _)
theorem fW {L:List Sgn}:th L <:+ L:=by
 unfold th;split
 ·exact suf_tail
 ·exact List.suffix_refl _
theorem jh {e f:Nat}{out xs:List Atm}{L Lend:List Sgn}(h:bodyGo e (f+1) out L=.ok (xs,Lend)) :
  ∃x L1,fp e (th L) (isT L 0 [33])=.ok (x,L1)/\((isT L1 0 [44]=true/\bodyGo e f (out++[x]) L1.tail=.ok (xs,Lend))\/(isT L1 0 [44]=false/\xs=out++[x]/\Lend=L1)):=by
 simp only[bodyGo]at h
 cases hr:ev e L out.length 8 (db [1] L || isT L 0 [33])with
 |error q=>rw[hr]at h;cases h
 |ok q=>
  obtain⟨u,L0⟩:=q
  have e0:=gI hr
  subst e0
  rw[hr,bW]at h
  change bu (fp e (th L0) (isT L0 0 [33])) _=_ at h
  cases h1:fp e (th L0) (isT L0 0 [33])with
  |error q=>rw[h1]at h;cases h
  |ok q=>
   obtain⟨x,L1⟩:=q
   rw[h1,bW]at h
   refine⟨x,L1,rfl,?_⟩
   split at h
   ·rename_i hc;exact .inl ⟨hc,h⟩
   ·rename_i hc
    injection h with h;injection h with h2 h3
    exact .inr ⟨by simpa using hc,h2.symm,h3.symm⟩
theorem gn {e:Nat}:∀(f:Nat) {out xs:List Atm} {L Lend:List Sgn},bodyGo e f out L=.ok (xs,Lend)->out.length<xs.length/\(∀y,y∈out->y∈xs)/\Lend <:+ L
 |0,out,xs,L,Lend,h=>by cases h
 |f+1,out,xs,L,Lend,h=>by
  obtain⟨x,L1,h1,⟨_,h2⟩|⟨_,h2,h3⟩⟩:=jh h
  ·obtain⟨g1,g2,g3⟩:=gn f h2
   rw[d_]at g1
   exact⟨by simp only[List.length_cons,List.length_nil]at g1;omega,fun y hy=>g2 y (by simp[hy]),((g3.trans suf_tail).trans (dx h1)).trans fW⟩
  ·rw[h2,h3];exact⟨by simp,fun y hy=>by simp[hy],(dx h1).trans fW⟩
theorem oI {e f:Nat}{out xs:List Atm}{Lend:List Sgn}{x:Atm}{L1:List Sgn}(h:(isT L1 0 [44]=true/\bodyGo e f (out++[x]) L1.tail=.ok (xs,Lend))\/(isT L1 0 [44]=false/\xs=out++[x]/\Lend=L1)):x∈xs:=by
 rcases h with ⟨_,h⟩|⟨_,h,_⟩
 ·exact(gn f h).2.1 x (by simp)
 ·rw[h];simp
theorem fO {L L':List Sgn}(h:L' <:+ L)(hG:GoodU L):GoodU L':=fun y hy=>hG y (h.subset hy)
theorem nE {e:Nat}{L L':List Sgn}{a:Rul}(h:mj e L=.ok (a,L')):∃L1 L2,fp e L false=.ok (a.head,L1)/\((isT L1 0 [58,45]=true/\bodyGo e (L1.length+1) [] L1.tail=.ok (a.body,L2))\/(isT L1 0 [58,45]=false/\a.body=[]/\L2=L1)) /\
  isT L2 0 [46]=true/\L'=L2.tail:=by
 unfold mj at h
 cases h1:fp e L false with
 |error q=>rw[h1]at h;cases h
 |ok q=>
  obtain⟨hd,L1⟩:=q
  rw[h1,bW]at h
  by_cases hc:isT L1 0 [58,45]=true
  ·rw[if_pos hc]at h
   cases h2:bodyGo e (L1.length+1) [] L1.tail with
   |error q=>rw[h2]at h;cases h
   |ok q=>
    obtain⟨b,L2⟩:=q
    rw[h2,bW]at h
    cases h3:dR e L2 [46]with
    |error q=>rw[h3]at h;cases h
    |ok q=>
     obtain⟨u,L3⟩:=q
     obtain⟨c2,rfl⟩:=ez h3
     rw[h3,bW]at h
     injection h with h;injection h with e1 e2
     subst e1;subst e2
     exact⟨L1,L2,rfl,.inl ⟨hc,h2⟩,c2,rfl⟩
  ·rw[if_neg hc,bW]at h
   cases h3:dR e L1 [46]with
   |error q=>rw[h3]at h;cases h
   |ok q=>
    obtain⟨u,L3⟩:=q
    obtain⟨c2,rfl⟩:=ez h3
    rw[h3,bW]at h
    injection h with h;injection h with e1 e2
    subst e1;subst e2
    exact⟨L1,L1,rfl,.inr ⟨by simpa using hc,rfl,rfl⟩,c2,rfl⟩
set_option maxHeartbeats 4000000 in
theorem Er (s:St)(r e i j:Nat)(W L L':List Sgn)(a:Rul)(hw:W.length<=40000)(hG:GoodU L)(hi:Sfx W i L)(h:mj e L=.ok (a,L'))(hj:Sfx W j L')(h8:a.head.ts.length<=8)(hb8:a.body.length<=8)(hba:∀x,x∈a.body->x.ts.length<=8) :
  SRet Tryz.prog 40 [.ptr r 0] (Rw s r e W i) (.agg (ax a)) (Rw s r e W j):=by
 obtain⟨L1,L2,h1,hbody,c2,rfl⟩:=nE h
 clear h
 obtain⟨⟨an,ar,ats⟩,abd⟩:=a
 simp only at h1 hbody h8 hb8 hba
 have hn:=(ue h1).2
 simp only at hn
 subst hn
 obtain⟨i1,hi1⟩:=hi.suf (dx h1)
 have hil:=hi1.1
 have w1:=fun s=>rH s r e i i1 W L L1 ⟨false,ar,ats⟩ hw hG hi h1 hi1 h8
 simp only[aG]at w1
 have w2:=fun s=>ld s r e i1 W [58,45] hil
 rw[hi1.isT]at w2
 have hG1:=fO (dx h1) hG
 clear h1 hG hi
 rcases hbody with ⟨hc,hgo⟩|⟨hc,rfl,rfl⟩
 ·rw[hc]at w2
  have g1:=hi1.tail hc
  obtain⟨t0,L4,ht0,hrest⟩:=jh hgo
  obtain⟨i2,hi2⟩:=g1.suf ((dx ht0).trans fW)
  have hG2:GoodU L1.tail:=fO suf_tail hG1
  have hG4:GoodU L4:=fO ((dx ht0).trans fW) hG2
  have w3:=fun s=>Cr s r e (i1+1) i2 W _ L4 t0 hw hG2 g1 ht0 hi2 (hba _ (oI hrest))
  have hi1l:=g1.1
  rw[List.nil_append]at hrest
  have HRest:=u_ hrest
  have HG4:=u_ hG4
  have HS6:=u_ hi2
  clear hrest hG4 hi2 g1 hgo hc hi1 ht0 hG2 hG1
  obtain⟨tn,tr,tt⟩:=t0
  simp only[aG]at w3
  refine aw Tryz.func40 rfl Tryz.ntmps40 rfl fun Q hQ hQe=>?_
  (repeat'(first|refine Ctl ?_|(with_reducible first|(refine j_ hK ?_;clear hK hE K E)|(refine j_ hKh ?_;clear hKh Kh)|(refine j_ hKb (aL ?_);clear hKb Kb)|refine aq 4 [([0,1,2],3,[[0,1]]),([4],5,[[],[]]),([6],7,[[],[],[]])] [] hQe fun K E hK hE=>?_)|((with_reducible refine aj (fun h=>?_) (fun h=>?_))<;>(try(exfalso;assumption)))|((first|(with_reducible first|refine ae fun K E hK hE=>?_|refine ak xN (w1 _) ?_|refine ak iC (w2 _) ?_|refine ak Fn (w3 _) ?_|refine aE fun Kh hKh=>?_|refine aD fun Kh hKh=>?_|refine aM fun Kb hKb=>?_)|((with_reducible refine ao (fun b hb=>?_));(repeat(obtain⟨_,hb⟩:=hb)))|((with_reducible refine cq (fun o2 ho=>?_));(try simp(disch:=assumption) only[bc,eA,aH]at ho);(repeat(obtain⟨_,ho⟩:=ho))))<;>(try simp(disch:=first|assumption|omega) only[go_sem,seval,dE,aH, *]))))
  rename_i bz z1 z2 hbz z3 z4 z5 z6 q7 q8 q9
  obtain⟨bA,hbA⟩:∃x,x=b:=⟨_,rfl⟩
  subst hbA
  refine aI (fun m env t=>∃(p:Nat) (ts:List Atm) (o:Own) (Lp:List Sgn),Sfx W p Lp/\GoodU Lp/\m=Lp.length/\((isT Lp 0 [44]=true/\∃f,bodyGo e f ts Lp.tail=.ok (abd,L2))\/(isT Lp 0 [44]=false/\abd=ts/\L2=Lp)) /\
   t=Rw (((s.own o 40 3 ts.length).set bz (.obj 43 [.bool false,.str [],.lst [] .full,.lst [] .full])).set bA (.obj 43 [.bool false,.str ar,.lst (ats.map aC) .no,.lst (ts.map aG) o])) r e W p/\OwnOk s o ts.length/\ay o r/\ay o bA/\ay o bz /\
   env 0=.ptr r 0/\env 2=.ptr bz 0/\env 3=.ptr bA 0) L4.length ?_ ?_
  ·refine⟨_,Fg.refl _,i2,[⟨tn,tr,tt⟩],o2,L4,HS6.out,HG4.out,rfl,?_,rfl,ho,‹_›,‹_›,‹_›,ab,ab,ab⟩
   rcases HRest.out with ⟨k1,k2⟩|k
   ·exact .inl ⟨k1,_,k2⟩
   ·exact .inr k
  ·clear w1 w2 w3 HRest HG4 HS6 ho q7 q8 q9 o2
   rintro m env t ⟨p,ts,o,Lp,hS,hGp,rfl,hrest,rfl,hO,hor,hoA,hoz,e0,e2,e3⟩
   have hpl:=hS.1
   rcases hrest with ⟨hc,f,hf⟩|⟨hc,hts,hL⟩
   ·have hlt:=(gn f hf).1
    cases f with
    |zero=>cases hf
    |succ f=>
     obtain⟨t1,L5,ht1,hrest⟩:=jh hf
     have g1:=hS.tail hc
     obtain⟨p2,hp2⟩:=g1.suf ((dx ht1).trans fW)
     have hG5:GoodU Lp.tail:=fO suf_tail hGp
     have hWc:isT W p [44]=true:=by rw[hS.isT];exact hc
     have hlp:L5.length<Lp.length:=by
      have h1:=((dx ht1).trans fW).length_le
      rw[List.length_tail]at h1
      have:Lp≠[]:=by rintro rfl;simp[isT]at hc
      have:=List.length_pos_iff.2 this
      omega
     have hp1:=g1.1
     have v1:=fun s=>oU s r e p W hw hpl hWc
     have v2:=fun s a b t=>mV s r e (p+1) W a b t hp1
     have v3:=fun s b=>jD s r e (p+1) W (ts.length:Int) 8 b (by omega)
     have v4:=fun s=>Cr s r e (p+1) p2 W _ L5 t1 hw hG5 g1 ht1 hp2 (hba _ (oI hrest))
     have hGL:GoodU L5:=fO ((dx ht1).trans fW) hG5
     have HR:=u_ hrest
     have HGL:=u_ hGL
     have HS:=u_ hp2
     have HM:=u_ hlp
     have hml:(ts.map aG).length=ts.length:=a_ _
     have hml8:ts.length<8:=by omega
     clear hrest hGL hp2 hlp ht1 hf hc hWc hS hGp g1 hG5 hlt
     obtain⟨tn,tr,tt⟩:=t1
     simp only[aG]at v4
     (repeat'(first|refine Ctl ?_|(with_reducible first|(refine j_ hK ?_;clear hK hE K E)|(refine j_ hKh ?_;clear hKh Kh)|(refine j_ hKb (aL ?_);clear hKb Kb)|refine aq 6 [([0,1,2,3,4],5,[[0,1,2,3]]),([],6,[[],[]])] [] hQe fun K E hK hE=>?_|refine aq 7 [([0,1,2],3,[[0,1]]),([4],5,[[],[]]),([6],7,[[],[],[]])] [] hQe fun K E hK hE=>?_)|((with_reducible refine aj (fun h=>?_) (fun h=>?_))<;>(try(exfalso;assumption)))|((first|(with_reducible first|refine ae fun K E hK hE=>?_|refine ak qn (v1 _) ?_|refine ak qp (v3 _ _) ?_|refine ak Fn (v4 _) ?_|refine aE fun Kh hKh=>?_|refine aD fun Kh hKh=>?_|refine aM fun Kb hKb=>?_)|((with_reducible refine aO xP (v2 _ _ _ _) (fun a h=>?_)))|((with_reducible refine cq (fun o2 ho=>?_));(try simp(disch:=assumption) only[aQ,aS,bc,eA,dF]at ho);(repeat(obtain⟨_,ho⟩:=ho))))<;>(try simp(disch:=first|assumption|omega) only[go_sem,seval,dF,dE, *]))))
     refine⟨Rw (((s.own o2 40 3 (ts++[(⟨tn,tr,tt⟩:Atm)]).length).set bz (.obj 43 [.bool false,.str [],.lst [] .full,.lst [] .full])).set bA (.obj 43 [.bool false,.str ar,.lst (ats.map aC) .no,.lst ((ts++[(⟨tn,tr,tt⟩:Atm)]).map aG) o2])) r e W p2,?_,L5.length,HM.out,p2,ts++[(⟨tn,tr,tt⟩:Atm)],o2,L5,HS.out,HGL.out,rfl,?_,rfl,?_,‹_›,‹_›,‹_›,ab,ab,ab⟩
     ·simp only[List.map_append,List.map_cons,List.map_nil,aG,d_,List.length_cons,List.length_nil]
      exact Fg.refl _
     ·rcases HR.out with ⟨k1,k2⟩|k
      ·exact .inl ⟨k1,_,k2⟩
      ·exact .inr k
     ·simpa only[d_,List.length_cons,List.length_nil]using ho
   ·subst hts
    subst hL
    have hWc:isT W p [44]=false:=by rw[hS.isT];exact hc
    have hWd:isT W p [46]=true:=by rw[hS.isT];exact c2
    have hjp:j=p+1:=(hS.tail c2).one hj
    have v1:=fun s=>oV s r e p W hpl hWc
    have v2:=fun s=>fq s r e p W [46] hw hWd
    subst hjp
    clear hc hWc hWd c2 hj hS hGp
    (repeat'(first|refine Ctl ?_|((with_reducible refine j_ hK ?_);clear hK hE K E)|((with_reducible refine aj (fun h=>?_) (fun h=>?_))<;>(try(exfalso;assumption)))|(((with_reducible first|refine ae fun K E hK hE=>?_|refine ak qn (v1 _) ?_|refine ak my (v2 _) ?_))<;>(try simp(disch:=first|assumption|omega) only[go_sem,seval, *]))))
    all_goals(refine ap AH hQ ?_)
    refine⟨_,Rw s r e W (p+1),Wk.agg ?_,?_,rfl,rfl⟩
    ·simp only[ax];(repeat(first|exact WkL.nil|apply WkL.same|apply WkL.lst))
    ·refine Fg.rw ?_
     (exact bC)
 ·rw[hc]at w2
  have hWd:isT W i1 [46]=true:=by rw[hi1.isT];exact c2
  have hjp:j=i1+1:=(hi1.tail c2).one hj
  have w3:=fun s=>fq s r e i1 W [46] hw hWd
  subst hjp
  clear hc hi1 hG1 c2 hj hWd
  refine aw Tryz.func40 rfl Tryz.ntmps40 rfl fun Q hQ hQe=>?_
  (repeat'(first|refine Ctl ?_|((with_reducible refine j_ hK ?_);clear hK hE K E)|((with_reducible refine aj (fun h=>?_) (fun h=>?_))<;>(try(exfalso;assumption)))|((first|(with_reducible first|refine ae fun K E hK hE=>?_|refine ak xN (w1 _) ?_|refine ak iC (w2 _) ?_|refine ak my (w3 _) ?_)|((with_reducible refine ao (fun b hb=>?_));(repeat(obtain⟨_,hb⟩:=hb))))<;>(try simp(disch:=first|assumption|omega) only[go_sem,seval, *]))))
  all_goals(refine ap AH hQ ?_)
  refine⟨_,Rw s r e W (i1+1),Wk.agg ?_,?_,rfl,rfl⟩
  ·simp only[ax];(repeat(first|exact WkL.nil|apply WkL.same|apply WkL.lst))
  ·refine Fg.rw ?_
   (exact bC)
end Go.Proofs.YteldpmgepfaiiaaGreatDoor
namespace Go.Proofs.YteldpmgepfaiiaaGreatDoor
open Go.RowKit
theorem WkL.self:∀x:List VV,WkL x x
 |[]=>.nil
 |a::l=>.same a (WkL.self l)
theorem GS.wkobj {s:St}{b:Nat}{T:TypeId}{xs ys:List VV}(hb:s b=.obj T xs)(hl:ys.length=xs.length)
  (hw:∀(j:Nat) (y:VV),ys[j]?=some y->∃x,xs[j]?=some x/\Wk x y/\(x.one=true->y.one=true)):GS s (s.set b (.obj T ys)):=by
 intro w0 G w h
 have hob:=h.ok b
 rw[hb]at hob
 obtain⟨hB,hn,c,hc,hsz,hx⟩:=hob
 refine⟨h.below,h.K,h.cap,fun x=>?_,h.gl,h.rows.keep' (Gh.le.refl G) (Nat.le_refl _) (fun g _ hg=>⟨?_,rfl,fun _=>rfl⟩) (fun b' T' xs' rs' hb'=>?_)⟩
 ·by_cases e:x=b
  ·subst e
   rw[q_]
   refine⟨hB,hn,c,hc,hsz.trans hl.symm,fun i y hy=>?_⟩
   obtain⟨x0,h0,h1,h2⟩:=hw i y hy
   obtain⟨h3,v,hv,hR⟩:=hx i x0 h0
   exact⟨h2 h3,v,hv,h1 G v hR⟩
  ·rw[k_ _ _ e];exact h.ok x
 ·rw[k_ _ _ (by rintro rfl;rw[hb]at hg;cases hg)];exact hg
 ·have hne:b'≠b:=by rintro rfl;rw[q_]at hb';cases hb'
  rw[k_ _ _ hne]at hb'
  exact⟨hb',rfl⟩
theorem Wk.rows {l l':List (List VV)}{o:Own}(hl:l'.length=l.length)(hw:∀(i:Nat) (x':List VV),l'[i]?=some x'->∃x,l[i]?=some x/\WkL x x'):Wk (.lst l o) (.lst l' o):=
 fun _ _ h=>h.wkrow hl hw
theorem yM {l:List (List VV)}{a b:List VV}(h:WkL a b)(i:Nat)(x':List VV)(hx:(l++[b])[i]?=some x'):∃x,(l++[a])[i]?=some x/\WkL x x':=by
 by_cases hi:i<l.length
 ·rw[o_ hi]at hx ⊢
  exact⟨x',hx,WkL.self _⟩
 ·rw[r_ (by omega)]at hx ⊢
  cases hj:i - l.length with
  |zero=>rw[hj]at hx;simp at hx;subst hx;exact⟨a,by simp,h⟩
  |succ k=>rw[hj]at hx;simp at hx
theorem lT {P:Program}{N:Nat}{D:List Deferred}{c:Code}{k:List Itm}{Q:Pst}{env:Env}{s:St}(t:Nat){x y:VV}(ht:env t=x)(hw:Wk x y)(h:Kp P N D (.code c::k) Q .norm (upd env t y) s):Kp P N D (.code c::k) Q .norm env s:=
 fun w0 G w a hfr hD hS=>h w0 G w a ⟨hfr.size,fun i=>by
  by_cases e:i=t
  ·subst e
   simp only[upd,if_true]
   exact hw _ _ (ht ▸ hfr.rel i)
  ·simp only[upd,if_neg e]
   exact hfr.rel i⟩ hD hS
theorem OwnOk.fg {B T:St}{o:Own}{n:Nat}(h:OwnOk B o n)(hf:Fg B T):OwnOk T o n:=by
 cases o with
 |at_ b=>
  rcases hf b with e|e
  ·exact e
  ·exact e.trans h
 |_=>exact h
theorem Fg.ownm {B T:St}(hf:Fg B T){o:Own}{K:TypeId}{sz n:Nat}:Fg (B.own o K sz n) (T.own o K sz n):=by
 cases o with
 |at_ b=>exact hf.set _ _
 |_=>exact hf
theorem Fg.free {B T:St}(h:Fg B T){b:Nat}(hb:B b=.free):T b=.free:=by
 rcases h b with e|e
 ·exact e
 ·exact e.trans hb
end Go.Proofs.YteldpmgepfaiiaaGreatDoor
