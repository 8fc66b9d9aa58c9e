/- Walks of functions that the claim reaches, and plain facts of them. Conditions: those in the statements. -/
import Derived.Test.YtohnaepcgnbaiaaGreatDoorJkEhj
import Derived.Test.YtohnaepcgnbaiaaGreatDoorJkPkj
import Derived.Test.YtohnaepcgnbaiaaGreatDoorJkQej
import Derived.Test.YtohnaepcgnbaiaaGreatDoorJkHej
set_option linter.unusedSimpArgs false
set_option linter.unusedVariables false
set_option maxRecDepth 100000
namespace Go.Proofs.YtohnaepcgnbaiaaGreatDoor
open Go.RowKit
theorem qv:∀{l:List Int},(aI l).flatten=aM l
 |[]=>rfl
 |x::l=>by
  have:=qv (l:=l)
  simp only[aI,aM,List.map_cons,List.flatten_cons]at this ⊢
  rw[this]
  rfl
theorem dV {l:List Nat}{m:Nat}:ak (l++[m])=ak l++[[.int .i64 (m:Int)]]:=by simp[ak]
def dw (L:List (List Int))(vs:List Nat)(j:Nat):List Nat:=(L.take j).flatMap fun c=>iq c 0 vs [0]
theorem yq {L:List (List Int)}{vs:List Nat}{j:Nat}{c:List Int}(h:L[j]?=some c):dw L vs (j+1)=dw L vs j++iq c 0 vs [0]:=by
 unfold dw
 rw[List.take_add_one,h]
 simp
def OutS (s u:St)(x:VV)(j:Nat)(O:List Nat):Prop:=
 (j=0/\O=[]/\u=s/\x=.raw (.slice none 0 0))\/(0<j/\∃g,s g=.free/\u=s.set g (.row 3 1 (aM (O.map fun(k:Nat)=>(k:Int))))/\x=.mrw g O.length)
attribute [-go_sem] bJ cX bH bG
set_option maxHeartbeats 16000000 in
theorem Fz {s:St}{p g q n B:Nat}{ns:List Tr}{mk:Int}(hM:NMem s p g q n B ns mk 0)(hN:NsOk n ns)(hn:n<=256)(hBs:ns.length<=1048576){t:Tr}(ht:t∈ns){vs:List Nat}(hv:vs.Nodup)(hlt:∀v,v∈vs->v<n)(hoc:∀v,dh v t=true->v∈vs)(h61:vs.length<=61){most:Nat}(hm:most<=16384)(hc:(dC t vs).length<=most) :
  SRet Tryz.prog 69 [.ptr p 0,.int .i64 (ixN ns t:Nat),.lst (ak vs) .no,.int .i64 most] s (.tup [.lst (ak (dC t vs)) .no,.int .i64 0]) s:=by
 have hot:=hN.ok t ht
 have hI:InV vs t:=mK hoc
 have hol:=AH hot hI hv hlt
 have hcl:(cB t (List.replicate n 2)).length<=16384:=by
  have:=E2 (t:=t) (w:=List.replicate n 2) (vs:=vs)
  omega
 have w1:=MV hM hN hn hBs ht hv hlt hoc h61
 have w2:=Cm hM hN hn hBs ht (Nat.le_refl 16384) hcl
 have hfin:=fun(l:List Nat) h1 h2=>CM (l:=l) hot hI hv hlt h1 h2
 have hcc:∀c,c∈cB t (List.replicate n 2)->c.length=n/\(iq c 0 vs [0]).length<=16384:=fun c h=>⟨kv hot (by simp) h,by
  have:(iq c 0 vs [0]).length<=(jL t (List.replicate n 2) vs).length:=by
   obtain⟨a,b,e⟩:=List.append_of_mem h
   unfold jL
   rw[e,List.flatMap_append,List.flatMap_cons,p_,p_]
   omega
  omega⟩
 have hup:∀j,(dw (cB t (List.replicate n 2)) vs j).length<=16384:=fun j=>by
  have:(dw (cB t (List.replicate n 2)) vs j).length<=(jL t (List.replicate n 2) vs).length:=by
   unfold jL dw
   conv=>rhs;rw[<- List.take_append_drop j (cB t (List.replicate n 2)),List.flatMap_append,p_]
   omega
  omega
 have hall:dw (cB t (List.replicate n 2)) vs (cB t (List.replicate n 2)).length=jL t (List.replicate n 2) vs:=by unfold jL dw;rw[b_]
 rw[<- hall]at hfin
 have hat:=fun(i k:Nat) (h:vs[i]?=some k)=>aH h
 have hln:(ak vs).length=vs.length:=natsL_len
 have hln62:¬ ((ak vs).length:Int) > 62:=by rw[hln];omega
 have hm1:¬ (most:Int)<0:=by omega
 have hm3:¬ (most:Int) > 16384:=by omega
 have hc1:¬ (((dC t vs).length:Nat):Int) > (most:Int):=by omega
 have hlt2:∀i v,vs[i]?=some v->v<n:=fun i v h=>hlt v (y_ h)
 have hrl:=ib (rows:=cB t (List.replicate n 2))
 have hra:=fun i r h=>qP (rows:=cB t (List.replicate n 2)) (i:=i) (r:=r) h
 clear hM hN hI hoc hot hol hall ht
 generalize cB t (List.replicate n 2)=CL at *
 generalize hSV:dC t vs=SV at *
 generalize hSL:SV.length=sl at *
 generalize ixN ns t=k at *
 generalize ak vs=V at *
 generalize hLL:bh CL=LL at *
 have HAT:=o_ hat
 have HLT:=o_ hlt2
 have HRA:=o_ hra
 have HCC:=o_ hcc
 have HUP:=o_ hup
 have HFIN:=o_ hfin
 clear hat hlt hlt2 hra hcc hup hfin hLL hSL hSV hc hv
 rw[hln]at hln62
 refine am Tryz.func69 rfl Tryz.ntmps69 rfl fun Q hQ hQe=>?_
 (repeat'(first|(with_reducible refine aR 12 ?_)|refine Ctl ?_|((with_reducible refine k_ hK ?_);clear hK hE K E)|((with_reducible refine ah (fun h=>?_) (fun h=>?_))<;>(try(exfalso;assumption)))|(((with_reducible first|refine ab fun K E hK hE=>?_|refine ae Mr (w1) ?_|refine ae Mq (w2) ?_))<;>(try simp(disch:=omega) only[go_sem,seval,hln62,hm1,hm3,hc1,hln, *]))))
 unfold bC
 refine iR 13 (ac) ?_
 (repeat'(first|refine Ctl ?_|((with_reducible refine k_ hK ?_);clear hK hE K E)|(((with_reducible refine ab fun K E hK hE=>?_))<;>(try simp(disch:=omega) only[go_sem,seval,hrl, *]))))
 refine bV (fun m env s'=>∃(j:Nat) (x:VV),j<=CL.length/\m+j=CL.length/\Hid (OutS s s' x j (dw CL vs j))/\env 2=.lst V .no/\env 13=x/\env 57=.lst LL .no/\env 58=.int .i64 CL.length/\env 59=.int .i64 j) CL.length ?_ ?_
 ·exact⟨_,Fg.refl _,0,_,by omega,by omega,o_ (.inl ⟨rfl,rfl,rfl,rfl⟩),ac,ac,ac,ac,ac⟩
 rintro m env u ⟨j,x,hj,hmj,HO,e2,e13,e57,e58,e59⟩
 by_cases h2:j<CL.length
 ·have hx:=HRA.out j _ (m_ h2)
  obtain⟨hcn,hce⟩:=HCC.out _ (List.getElem_mem h2)
  have hadd:=yq (vs:=vs) (m_ h2)
  have hulen:=HUP.out (j+1)
  generalize CL[j]=c at *
  have hcat:=fun(i:Nat) (z:Int) (h:c[i]?=some z)=>ej h
  simp only[cK]at hx
  generalize aI c=CV at *
  obtain⟨TG,hTG⟩:∃TG,TG=iq c 0 vs [0]:=⟨_,rfl⟩
  rw[<- hTG]at hadd hce
  have hl0:ak [0]=[[.int .i64 0]]:=rfl
  have HADD:=o_ hadd
  have HTG:=o_ hTG.symm
  have HCAT:=o_ hcat
  clear hadd hTG hcat
  (repeat'(first|refine Ctl ?_|((with_reducible refine k_ hK ?_);clear hK hE K E)|((with_reducible refine ah (fun h=>?_) (fun h=>?_))<;>(try(exfalso;assumption)))|(((with_reducible refine ab fun K E hK hE=>?_))<;>(try simp(disch:=omega) only[go_sem,seval,hx,hln, *]))))
  refine bV (fun m2 env s'=>∃(i:Nat) (al:List Nat) (oA:Own),i<=vs.length/\m2+i=vs.length/\Hid (iq c i (vs.drop i) al=TG/\al.Nodup/\0<al.length/\∀m,m∈al->m<2 ^ i)/\s'=u/\env 2=.lst V .no/\env 13=x/\env 57=.lst LL .no/\env 58=.int .i64 CL.length/\env 59=.int .i64 j/\env 15=.lst CV .no/\env 16=.lst (ak al) oA/\env 64=.lst V .no/\env 65=.int .i64 vs.length/\env 66=.int .i64 i) vs.length ?_ ?_
  ·exact⟨_,Fg.refl _,0,[0],.full,by omega,by omega,o_ ⟨by rw[List.drop_zero];exact HTG.out,by simp,by simp,by simp⟩,rfl,ac,ac,ac,ac,ac,ac,by(rw[hl0];((try simp(disch:=assumption) only[go_sem,seval, *])<;>rfl)),ac,ac,ac⟩
  clear e2 e13 e57 e58 e59 hl0
  rintro m2 env s' ⟨i,al,oA,hi,hmi,HE,rfl,e2,e13,e57,e58,e59,e15,e16,e64,e65,e66⟩
  by_cases h3:i<vs.length
  ·have hvx:=HAT.out i _ (m_ h3)
   have hvn:=HLT.out i _ (m_ h3)
   have hdr:=c_ h3
   generalize vs[i]=v at *
   obtain⟨cv,hcv⟩:∃cv,c[v]?=some cv:=⟨_,m_ (by omega)⟩
   have hcx:=HCAT.out v cv hcv
   have HE2:Hid (iq c (i+1) (vs.drop (i+1)) (bI c i v al)=TG/\(bI c i v al).Nodup/\0<(bI c i v al).length/\∀m,m∈bI c i v al->m<2 ^ (i+1)):=by
    obtain⟨a1,a2,a3,a4⟩:=HE.out
    rw[hdr]at a1
    obtain⟨b1,b2⟩:=sf (c:=c) (v:=v) a2 a4
    exact o_ ⟨a1,b1,pP a3,b2⟩
   have hal:al.length<=16384:=by
    obtain⟨a1,a2,a3,a4⟩:=HE.out
    have:=qD (c:=c) (vs:=vs.drop i) (i:=i) (all:=al)
    rw[a1]at this
    omega
   have hnal:(ak al).length=al.length:=natsL_len
   have haat:=fun(i k:Nat) (h:al[i]?=some k)=>aH h
   have h4:=HE.out.2.2.2
   have H4:=o_ h4
   have HAAT:=o_ haat
   have hnn0:ak (bI c i v (al.take 0))=[]:=rfl
   have hi61:i<=61:=by omega
   have hsh:=jD (k:=i) (by omega)
   have hstep:=fun(j m:Nat) (h:al[j]?=some m)=>show bI c i v (al.take (j+1))=bI c i v (al.take j)++((if cv≠1 then [m] else [])++(if cv≠0 then [m+2 ^ i] else [])) by
    rw[List.take_add_one,h]
    have:=x8 (c:=c) (i:=i) (v:=v) (m:=m) (all:=al.take j)
    rw[hcv]at this
    exact this
   have hor:=fun(m:Nat) (h:m<2 ^ i)=>Lr h hi61
   generalize hPP:2 ^ i=PP at *
   have HOR:=o_ hor
   have HSTEP:=o_ hstep
   have HPP:=o_ hPP
   clear hdr hcv haat h4 HE hPP hor hstep
   (repeat'(first|refine Ctl ?_|((with_reducible refine k_ hK ?_);clear hK hE K E)|((with_reducible refine ah (fun h=>?_) (fun h=>?_))<;>(try(exfalso;assumption)))|(((with_reducible refine ab fun K E hK hE=>?_))<;>(try simp(disch:=omega) only[go_sem,seval,hvx,hnal, *]))))
   refine bV (fun m3 env s''=>∃(i3:Nat) (o3:Own),i3<=al.length/\m3+i3=al.length/\OwnOk s' o3 (bI c i v (al.take i3)).length/\s''=s'.own o3 3 1 (bI c i v (al.take i3)).length/\env 2=.lst V .no/\env 13=x/\env 57=.lst LL .no/\env 58=.int .i64 CL.length/\env 59=.int .i64 j/\env 15=.lst CV .no/\env 17=.int .i64 i/\env 18=.int .i64 v/\env 19=.lst (ak (bI c i v (al.take i3))) o3/\env 64=.lst V .no/\env 65=.int .i64 vs.length/\env 66=.int .i64 i/\env 71=.lst (ak al) oA/\env 72=.int .i64 al.length/\env 73=.int .i64 i3) al.length ?_ ?_
   ·exact⟨_,Fg.refl _,0,.full,by omega,by omega,rfl,rfl,ac,ac,ac,ac,ac,ac,ac,ac,by(rw[hnn0];((try simp(disch:=assumption) only[go_sem,seval, *])<;>rfl)),ac,ac,ac,ac,ac,ac⟩
   clear e2 e13 e57 e58 e59 e15 e16 e64 e65 e66 hnn0
   rintro m3 env s'' ⟨i3,o3,hi3,hm3,hO3,rfl,e2,e13,e57,e58,e59,e15,e17,e18,e19,e64,e65,e66,e71,e72,e73⟩
   by_cases h5:i3<al.length
   ·have hmx:=HAAT.out i3 _ (m_ h5)
    have hml:=H4.out _ (List.getElem_mem h5)
    have hst:=HSTEP.out i3 _ (m_ h5)
    have hlen3:(bI c i v (al.take i3)).length<=2 * 16384:=by
     have:=lI (c:=c) (i:=i) (v:=v) (all:=al.take i3)
     rw[r_]at this
     omega
    have hor:=HOR.out _ hml
    clear hml
    generalize al[i3]=mm at *
    generalize hNX:bI c i v (al.take i3)=nx at *
    have HNX:=o_ hNX
    clear hNX
    have hnxl:(ak nx).length=nx.length:=natsL_len
    by_cases c1:cv=1
    ·subst c1
     have hst2:bI c i v (al.take (i3+1))=nx++[mm+PP]:=by rw[hst];rfl
     have hnx2:ak (bI c i v (al.take (i3+1)))=ak nx++[[.int .i64 ((mm+PP:Nat):Int)]]:=by rw[hst2,dV]
     have hl2:(bI c i v (al.take (i3+1))).length=nx.length+1:=by rw[hst2];simp
     have HH:=o_ (And.intro hnx2 hl2)
     clear hst hst2 hnx2 hl2
     generalize mm+PP=mp at *
     generalize ak nx=NL at *
     generalize nx.length=ql at *
     (repeat'(first|refine Ctl ?_|((with_reducible refine k_ hK ?_);clear hK hE K E)|((with_reducible refine ah (fun h=>?_) (fun h=>?_))<;>(try(exfalso;assumption)))|((first|(with_reducible refine ab fun K E hK hE=>?_)|((with_reducible refine fC (fun o2 ho=>?_));(try simp(disch:=assumption) only[bz,bB,cZ,c6,z_,List.length_cons,List.length_nil,Nat.zero_add,hmx,hcx,hsh,hor,hnxl]at ho)))<;>(try simp(disch:=first|assumption|omega) only[go_sem,seval,hmx,hcx,hsh,hor,hnxl, *]))))
     all_goals exact⟨_,Fg.refl _,m3 - 1,by omega,i3+1,o2,by omega,by omega,by rw[HH.out.2];exact ho,by rw[HH.out.2],ac,ac,ac,ac,ac,ac,ac,ac,by(rw[HH.out.1];((try simp(disch:=assumption) only[go_sem,seval, *])<;>rfl)),ac,ac,ac,ac,ac,ac⟩
    ·by_cases c0:cv=0
     ·subst c0
      have hst2:bI c i v (al.take (i3+1))=nx++[mm]:=by rw[hst];rfl
      have hnx2:ak (bI c i v (al.take (i3+1)))=ak nx++[[.int .i64 (mm:Int)]]:=by rw[hst2,dV]
      have hl2:(bI c i v (al.take (i3+1))).length=nx.length+1:=by rw[hst2];simp
      have HH:=o_ (And.intro hnx2 hl2)
      clear hst hst2 hnx2 hl2 c1
      generalize ak nx=NL at *
      generalize nx.length=ql at *
      (repeat'(first|refine Ctl ?_|((with_reducible refine k_ hK ?_);clear hK hE K E)|((with_reducible refine ah (fun h=>?_) (fun h=>?_))<;>(try(exfalso;assumption)))|((first|(with_reducible refine ab fun K E hK hE=>?_)|((with_reducible refine fC (fun o2 ho=>?_));(try simp(disch:=assumption) only[bz,bB,cZ,c6,z_,List.length_cons,List.length_nil,Nat.zero_add,hmx,hcx,hnxl]at ho)))<;>(try simp(disch:=first|assumption|omega) only[go_sem,seval,hmx,hcx,hnxl, *]))))
      all_goals exact⟨_,Fg.refl _,m3 - 1,by omega,i3+1,o2,by omega,by omega,by rw[HH.out.2];exact ho,by rw[HH.out.2],ac,ac,ac,ac,ac,ac,ac,ac,by(rw[HH.out.1];((try simp(disch:=assumption) only[go_sem,seval, *])<;>rfl)),ac,ac,ac,ac,ac,ac⟩
     ·have hst2:bI c i v (al.take (i3+1))=(nx++[mm])++[mm+PP]:=by rw[hst,if_pos c1,if_pos c0,List.append_assoc]
      have hnx2:ak (bI c i v (al.take (i3+1)))=(ak nx++[[.int .i64 (mm:Int)]])++[[.int .i64 ((mm+PP:Nat):Int)]]:=by rw[hst2,dV,dV]
      have hl2:(bI c i v (al.take (i3+1))).length=nx.length+1+1:=by rw[hst2];simp
      have HH:=o_ (And.intro hnx2 hl2)
      clear hst hst2 hnx2 hl2
      generalize mm+PP=mp at *
      generalize ak nx=NL at *
      generalize nx.length=ql at *
      have hnx3:(NL++[[VV.int .i64 (mm:Int)]]).length=ql+1:=by rw[p_,hnxl];rfl
      (repeat'(first|refine Ctl ?_|((with_reducible refine k_ hK ?_);clear hK hE K E)|((with_reducible refine ah (fun h=>?_) (fun h=>?_))<;>(try(exfalso;assumption)))|((first|(with_reducible refine ab fun K E hK hE=>?_)|((with_reducible refine fC (fun o2 ho=>?_));(try simp(disch:=assumption) only[bz,bB,cZ,c6,z_,List.length_cons,List.length_nil,Nat.zero_add,hmx,hcx,hsh,hor,hnxl,hnx3,c0,c1]at ho)))<;>(try simp(disch:=first|assumption|omega) only[go_sem,seval,hmx,hcx,hsh,hor,hnxl,hnx3,c0,c1, *]))))
      all_goals exact⟨_,Fg.refl _,m3 - 1,by omega,i3+1,o2,by omega,by omega,by rw[HH.out.2];exact ho,by rw[HH.out.2],ac,ac,ac,ac,ac,ac,ac,ac,by(rw[HH.out.1];((try simp(disch:=assumption) only[go_sem,seval, *])<;>rfl)),ac,ac,ac,ac,ac,ac⟩
   ·obtain rfl:i3=al.length:=by omega
    rw[b_]at hO3 e19 ⊢
    (repeat'(first|refine Ctl ?_|((with_reducible refine k_ hK ?_);clear hK hE K E)|((with_reducible refine ah (fun h=>?_) (fun h=>?_))<;>(try(exfalso;assumption)))|(((with_reducible refine ab fun K E hK hE=>?_))<;>(try simp(disch:=omega) only[go_sem,seval, *]))))
    all_goals exact⟨_,Fg.own hO3,m2 - 1,by omega,i+1,bI c i v al,o3,by omega,by omega,HE2,rfl,ac,ac,ac,ac,ac,ac,ac,ac,ac,ac⟩
  ·have hiv:i=vs.length:=by omega
   subst hiv
   obtain⟨a1,a2,a3,a4⟩:=HE.out
   rw[B_]at a1
   have ha:al=TG:=a1
   subst ha
   have hnl:(ak al).length=al.length:=natsL_len
   have hne:ak al≠[]:=fun e=>by rw[e]at hnl;simp at hnl;omega
   have hone:∀y,y∈ak al->y.length=1:=fun y hy=>by
    obtain⟨z,_,rfl⟩:=A_.1 hy
    rfl
   have hfl:(ak al).flatten=aM (al.map fun(k:Nat)=>(k:Int)):=by rw[cA,qv]
   have hadd:=HADD.out
   rw[hadd,p_]at hulen
   have HH:=o_ hadd
   clear HE a1 a2 a3 a4 hadd HTG HADD h3
   rcases HO.out with ⟨h0,hO0,hu,hx0⟩|⟨h0,g,hg,hu,hx0⟩
   ·subst hu hx0 h0
    rw[hO0,List.nil_append]at HH
    clear HO hO0 hulen
    generalize ak al=AL at *
    (repeat'(first|refine Ctl ?_|((with_reducible refine k_ hK ?_);clear hK hE K E)|((with_reducible refine ah (fun h=>?_) (fun h=>?_))<;>(try(exfalso;omega)))|((first|(with_reducible refine ab fun K E hK hE=>?_)|((with_reducible refine fG (fun bM hM=>?_))))<;>(try simp(disch:=omega) only[go_sem,seval,hnl,hfl,Nat.mul_one, *]))))
    exact⟨_,Fg.refl _,m - 1,by omega,0+1,_,by omega,by omega,o_ (.inr ⟨by omega,bM,hM,by rw[HH.out],by rw[HH.out]⟩),ac,ac,ac,ac,ac⟩
   ·subst hu hx0
    have hOl:=HUP.out j
    generalize hOO:dw CL vs j=O at *
    have hil:(aM (O.map fun(k:Nat)=>(k:Int))).length=O.length:=by rw[dJ,z_]
    have hap:aM ((O++al).map fun(k:Nat)=>(k:Int))=aM (O.map fun(k:Nat)=>(k:Int))++aM (al.map fun(k:Nat)=>(k:Int)):=by simp[aM]
    have HAP:=o_ hap
    have hsg:s.set g .free=s:=v_ _ _ _ hg
    clear hap HO hOO
    generalize aM (O.map fun(k:Nat)=>(k:Int))=OX at *
    generalize aM (al.map fun(k:Nat)=>(k:Int))=AX at *
    generalize ak al=AL at *
    (repeat'(first|refine Ctl ?_|((with_reducible refine k_ hK ?_);clear hK hE K E)|((with_reducible refine ah (fun h=>?_) (fun h=>?_))<;>(try(exfalso;omega)))|((first|(with_reducible refine ab fun K E hK hE=>?_)|((with_reducible refine cJ (fun bM hM=>?_))))<;>(try simp(disch:=omega) only[go_sem,seval,hnl,hfl,Nat.mul_one,hil,hsg,St.set_set, *]))))
    exact⟨_,Fg.refl _,m - 1,by omega,j+1,_,by omega,by omega,o_ (.inr ⟨by omega,bM,hM,by rw[HH.out,HAP.out],by rw[HH.out,p_]⟩),ac,ac,ac,ac,ac⟩
 ·have hjc:j=CL.length:=by omega
  subst hjc
  rcases HO.out with ⟨h0,hO0,hu,hx0⟩|⟨h0,g,hg,hu,hx0⟩
  ·subst hu hx0
   have hsv:=HFIN.out [] (by rw[hO0]) (by simp)
   have ws:=tV u
   have HSV:=o_ hsv
   clear hsv HO hO0
   (repeat'(first|(with_reducible refine aR 33 ?_)|refine Ctl ?_|((with_reducible refine k_ hK ?_);clear hK hE K E)|((with_reducible refine ah (fun h=>?_) (fun h=>?_))<;>(try(exfalso;assumption)))|(((with_reducible first|refine ab fun K E hK hE=>?_|refine ae BB (ws) ?_))<;>(try simp(disch:=omega) only[go_sem,seval, *]))))
   unfold bC
   refine lC 13 (x:=.raw (.slice none 0 0)) (y:=.lst [] .no) (ac) Wk.rawnil ?_
   (repeat'(first|refine Ctl ?_|((with_reducible refine k_ hK ?_);clear hK hE K E)|(((with_reducible refine ab fun K E hK hE=>?_))<;>(try simp(disch:=omega) only[go_sem,seval, *]))))
   all_goals(refine aq zX hQ ?_)
   rw[<- HSV.out]
   exact⟨_,_,Wk.refl _,Fg.refl _,rfl,rfl⟩
  ·subst hu hx0
   have hperm:(dw CL vs CL.length).mergeSort.Perm (dw CL vs CL.length):=List.mergeSort_perm _ _
   have hpw:(dw CL vs CL.length).mergeSort.Pairwise (·<=·):=by
    have:=List.pairwise_mergeSort (le:=fun a b:Nat=>decide (a<=b)) (fun a b c h1 h2=>by simp at *;omega) (fun a b=>by simp;omega) (dw CL vs CL.length)
    exact this.imp fun h=>by simpa using h
   have hsv:=HFIN.out _ hperm hpw
   have hrz:cR ((dw CL vs CL.length).map fun(k:Nat)=>(k:Int))=SV.map fun(k:Nat)=>(k:Int):=by
    rw[ii (hperm.symm.map _),hsv,sE]
    rw[List.pairwise_map]
    rw[hsv]at hpw
    exact hpw.imp fun h=>by omega
   have hsl:SV.length=(dw CL vs CL.length).length:=by rw[<- hsv];exact hperm.length_eq
   have hup:=HUP.out CL.length
   have ws:=xX (s.set g (.row 3 1 (aM ((dw CL vs CL.length).map fun(k:Nat)=>(k:Int))))) g 3 ((dw CL vs CL.length).map fun(k:Nat)=>(k:Int)) (by rw[z_];omega) (q_ _ _ _)
   rw[hrz,z_,St.set_set]at ws
   have hsg:s.set g .free=s:=v_ _ _ _ hg
   have hfz:(aM (SV.map fun(k:Nat)=>(k:Int))).map (fun y=>[y])=ak SV:=by simp[aM,ak,Function.comp]
   have hil:(aM (SV.map fun(k:Nat)=>(k:Int))).length=(dw CL vs CL.length).length:=by rw[dJ,z_,hsl]
   clear hperm hpw hsv hrz hsl HO
   generalize aM ((dw CL vs CL.length).map fun(k:Nat)=>(k:Int))=OX at *
   generalize (dw CL vs CL.length).length=ol at *
   generalize aM (SV.map fun(k:Nat)=>(k:Int))=SX at *
   generalize ak SV=SL at *
   (repeat'(first|(with_reducible refine aR 33 ?_)|refine Ctl ?_|((with_reducible refine k_ hK ?_);clear hK hE K E)|((with_reducible refine ah (fun h=>?_) (fun h=>?_))<;>(try(exfalso;assumption)))|(((with_reducible first|refine ab fun K E hK hE=>?_|refine ae BB (ws) ?_))<;>(try simp(disch:=omega) only[go_sem,seval, *]))))
   unfold bC
   refine kK 13 g ol (q_ _ _ _) (ac) hil ?_
   rw[hfz,St.set_set,hsg]
   (repeat'(first|refine Ctl ?_|((with_reducible refine k_ hK ?_);clear hK hE K E)|(((with_reducible refine ab fun K E hK hE=>?_))<;>(try simp(disch:=omega) only[go_sem,seval, *]))))
   all_goals(refine aq zX hQ ?_)
   exact⟨_,_,Wk.refl _,Fg.refl _,rfl,rfl⟩
end Go.Proofs.YtohnaepcgnbaiaaGreatDoor
namespace Go.Proofs.YtohnaepcgnbaiaaGreatDoor
open Go.RowKit
def gQ (at_:List (List Nat))(ks:List Nat):List Nat:=ks.map fun k=>(at_.getD k []).length
def eD (wd:List Nat)(m:Nat):List Int:=(cz wd m).map fun(k:Nat)=>(k:Int)
theorem ni:∀{wd:List Nat} {m:Nat},(cz wd m).length=wd.length
 |[],_=>rfl
 |w::ws,m=>by simp only[cz,List.length_cons,ni]
theorem zP {wd:List Nat}{m:Nat}:(eD wd m).length=wd.length:=by rw[eD,z_,ni]
theorem r5 (at_:List (List Nat))(ks:List Nat):aj at_ ks=(ks.map fun k=>at_.getD k []).flatten:=rfl
theorem mS (at_:List (List Nat))(ks:List Nat):gQ at_ ks=(ks.map fun k=>at_.getD k []).map (·.length):=by simp[gQ,Function.comp]
theorem oL:∀{L:List (List Nat)} {i j:Nat} {a b:List Nat},L.flatten.Nodup->L[i]?=some a->L[j]?=some b->i≠j->∀x,x∈a->x∈b->False
 |[],i,j,a,b,_,h,_,_=>by simp at h
 |c::L,i,j,a,b,hn,hi,hj,hne=>by
  rw[List.flatten_cons,List.nodup_append]at hn
  obtain⟨h1,h2,h3⟩:=hn
  have mem:∀{k:Nat} {d:List Nat},L[k]?=some d->∀x,x∈d->x∈L.flatten:=fun hk x hx=>List.mem_flatten.2 ⟨_,y_ hk,hx⟩
  cases i with
  |zero=>
   cases j with
   |zero=>exact absurd rfl hne
   |succ j=>
    simp at hi hj
    subst hi
    intro x hx hy
    exact h3 x hx x (mem hj x hy) rfl
  |succ i=>
   cases j with
   |zero=>
    simp at hi hj
    subst hj
    intro x hx hy
    exact h3 x hy x (mem hi x hx) rfl
   |succ j=>exact oL h2 (by simpa using hi) (by simpa using hj) (by omega)
theorem xr:∀{L:List (List Nat)} {a:List Nat},L.flatten.Nodup->a∈L->a.Nodup
 |[],a,_,h=>by simp at h
 |c::L,a,hn,h=>by
  rw[List.flatten_cons,List.nodup_append]at hn
  rcases AT.1 h with rfl|h
  ·exact hn.1
  ·exact xr hn.2.1 h
theorem DOk.getD {n:Nat}{ds:List (List UInt8×Nat)}{at_:List (List Nat)}(h:DOk n ds at_){k:Nat}(hk:k<ds.length):at_[k]?=some (at_.getD k [])/\(at_.getD k []).length<=30/\∀v,v∈at_.getD k []->v<n:=by
 obtain⟨nm,sz,l,h1,h2,h3,h4,h5,h6,h7⟩:=h.get hk
 have e:at_.getD k []=l:=by rw[List.getD_eq_getElem?_getD,h2];rfl
 rw[e]
 exact⟨h2,h6,h7⟩
theorem cr {n:Nat}{ds:List (List UInt8×Nat)}{at_:List (List Nat)}(h:DOk n ds at_){ks:List Nat}(hn:ks.Nodup)(hk:∀k,k∈ks->k<ds.length):(aj at_ ks).Nodup:=by
 refine gC (fun k hm=>xr h.nd (y_ (h.getD (hk k hm)).1)) ?_
 refine List.Pairwise.imp_of_mem (fun {a b} ha hb hne x hx hy=>?_) hn
 exact oL h.nd (h.getD (hk a ha)).1 (h.getD (hk b hb)).1 hne x hx hy
theorem aJ {n:Nat}{ds:List (List UInt8×Nat)}{at_:List (List Nat)}(h:DOk n ds at_){ks:List Nat}(hk:∀k,k∈ks->k<ds.length):∀v,v∈aj at_ ks->v<n:=fun v hv=>by
 obtain⟨k,hm,hv⟩:=List.mem_flatMap.1 hv
 exact(h.getD (hk k hm)).2.2 v hv
def gq (t:Tr)(at_:List (List Nat))(ks:List Nat):List (List Int):=(dC t (aj at_ ks)).map (eD (gQ at_ ks))
theorem jb (t:Tr)(at_:List (List Nat))(ks:List Nat):(gq t at_ ks).Nodup:=by
 have h:=yd (t:=t) (ds:=ks.map fun k=>at_.getD k [])
 rw[<- r5,<- mS]at h
 have e:gq t at_ ks=((dC t (aj at_ ks)).map (cz (gQ at_ ks))).map (fun l=>l.map fun(k:Nat)=>(k:Int)):=by
  simp[gq,eD,Function.comp]
 rw[e,List.nodup_iff_pairwise_ne,List.pairwise_map]
 refine List.Pairwise.imp (fun {a b} hne he=>hne ?_) h
 exact(List.map_inj_right (fun x y h=>by omega)).1 he
theorem wH {m w:Nat}(hm:m<2 ^ 62)(hw:w<=62):bF .shr .i64 (m:Int) (w:Int)=some (.int .i64 ((m / 2 ^ w:Nat):Int)):=by
 have hp:((2:Int) ^ w)=((2 ^ w:Nat):Int):=by simp
 have h0:(0:Int)<=(w:Int):=Int.natCast_nonneg _
 simp only[bF,if_pos h0]
 have h1:min ((w:Int).toNat) IntKind.i64.bits=w:=by simp[IntKind.bits];omega
 rw[h1,hp,Int.fdiv_eq_ediv_of_nonneg _ (Int.natCast_nonneg _)]
 rfl
def RowS (s u:St)(x:VV)(j:Nat)(rows:List (List Int)):Prop:=
 (j=0/\rows=[]/\u=s/\x=.raw (.slice none 0 0))\/(0<j/\∃g,s g=.free/\u=s.set g (.row 28 1 (rows.map cK))/\x=.mrw g rows.length)
theorem BU {m w:Nat}(hw:w<=61):bF .and .i64 (m:Int) (((2 ^ w:Nat):Int) - 1)=some (.int .i64 ((m % 2 ^ w:Nat):Int)):=by
 have h:=rI hw (m:Int)
 have hle:2 ^ w<=2 ^ 61:=Nat.pow_le_pow_right (by omega) hw
 have hpos:0<2 ^ w:=Nat.two_pow_pos w
 rw[bT (by omega) (by omega)]at h
 rw[h]
 have:jw w (m:Int)=m % 2 ^ w:=by
  unfold jw
  have hp:((2:Int) ^ w)=((2 ^ w:Nat):Int):=by simp
  (rw[hp];omega)
 rw[this]
attribute [-go_sem] bJ cX bH bG
set_option maxHeartbeats 16000000 in
theorem qL {s:St}{KK:OB}{q c n B:Nat}{ns:List Tr}{ds:List (List UInt8×Nat)}{at_:List (List Nat)}(hC:CMem s KK q c n B ns ds at_)(hD:DOk n ds at_)(hn:n<=256)(ks:List Nat)(ow:Own)(hks:∀k,k∈ks->k<ds.length)(hl:ks.length<=32)(hnd:ks.Nodup){t:Tr}(ht:t∈ns)
  (hoc:∀v,dh v t=true->v∈aj at_ ks) (h61:(aj at_ ks).length<=61) {most:Nat} (hm:most<=16384) (hc:(gq t at_ ks).length<=most) :
  SRet Tryz.prog 36 [.ptr c 0,.int .i64 (ixN ns t:Nat),.lst (ak ks) ow,.int .i64 most] s (.tup [.lst (bh (dO (gq t at_ ks))) .no,.int .i64 0]) s:=by
 have wv:=gK hC hD ks ow hks hl
 rw[if_pos hnd]at wv
 have hvn:=cr hD hnd hks
 have hvl:=aJ hD hks
 obtain⟨mk,hM⟩:=hC.om.st.mem
 have hsl:(gq t at_ ks).length=(dC t (aj at_ ks)).length:=by simp[gq]
 have we:=Fz hM hC.om.st.ok hn (by have:=hC.om.st.bd;omega) ht hvn hvl hoc h61 hm (by omega)
 obtain⟨d,cc,ho⟩:=hC.om.op
 have wq:=dD s q KK.o KK.s.p hC.qo
 have ws:=eU s KK.o KK.s.p d cc ho
 have hco:=hC.co
 have hnd2:=jb t at_ ks
 have hlt:∀m,m∈dC t (aj at_ ks)->m<2 ^ 61:=fun m h=>by
  have:=(fP.1 h).1
  exact Nat.lt_of_lt_of_le this (Nat.pow_le_pow_right (by omega) h61)
 have hat:=fun(i k:Nat) (h:ks[i]?=some k)=>aH h
 have hat2:=fun(i k:Nat) (h:(dC t (aj at_ ks))[i]?=some k)=>aH h
 have hA2:∀k,k∈ks->(atC at_)[k]?=some [.lst (ak (at_.getD k [])) .no]/\(at_.getD k []).length<=30:=fun k hk=>⟨pc (hD.getD (hks k hk)).1,(hD.getD (hks k hk)).2.1⟩
 have hln:(ak ks).length=ks.length:=natsL_len
 have hlv:(ak (aj at_ ks)).length=(aj at_ ks).length:=natsL_len
 have hls:(ak (dC t (aj at_ ks))).length=(dC t (aj at_ ks)).length:=natsL_len
 have hwl:(gQ at_ ks).length=ks.length:=by simp[gQ]
 have hwd:∀(i k:Nat),ks[i]?=some k->(gQ at_ ks)[i]?=some (at_.getD k []).length:=fun i k h=>by simp[gQ,h]
 have hm1:¬ (most:Int)<0:=by omega
 have hm3:¬ (most:Int) > 16384:=by omega
 have hv62:¬ ((aj at_ ks).length:Int) > 62:=by omega
 have htR:gq t at_ ks=(dC t (aj at_ ks)).map (eD (gQ at_ ks)):=rfl
 have hsle:(dC t (aj at_ ks)).length<=16384:=by omega
 clear hC hD hks hnd ht hoc h61 hvn hvl hM hc hsl
 generalize gq t at_ ks=TR at *
 generalize dC t (aj at_ ks)=SV at *
 generalize gQ at_ ks=wd at *
 generalize aj at_ ks=vs at *
 generalize ixN ns t=k at *
 generalize hVK:ak ks=VK at *
 generalize hVS:ak SV=VS at *
 generalize ak vs=VV' at *
 generalize hAC:atC at_=AC at *
 generalize dx ds=DC at *
 have HAT:=o_ hat
 have HAT2:=o_ hat2
 have HA2:=o_ hA2
 have HLT:=o_ hlt
 have HWD:=o_ hwd
 have HND:=o_ hnd2
 have HTR:=o_ htR
 clear hat hat2 hA2 hlt hwd hnd2 htR hVK hVS hAC ho
 rw[<- hlv]at hv62
 refine am Tryz.func36 rfl Tryz.ntmps36 rfl fun Q hQ hQe=>?_
 (repeat'(first|(with_reducible refine aR 8 ?_)|refine Ctl ?_|((with_reducible refine k_ hK ?_);clear hK hE K E)|((with_reducible refine ah (fun h=>?_) (fun h=>?_))<;>(try(exfalso;first|assumption|omega)))|(((with_reducible first|refine ab fun K E hK hE=>?_|refine ae qH (wv) ?_|refine ae dK (wq) ?_|refine ae iv (ws) ?_|refine ae P5 (we) ?_))<;>(try simp(disch:=omega) only[go_sem,seval,hv62,hm1,hm3,hln, *]))))
 unfold bC
 refine iR 13 (ac) ?_
 (repeat'(first|refine Ctl ?_|((with_reducible refine k_ hK ?_);clear hK hE K E)|(((with_reducible refine ab fun K E hK hE=>?_))<;>(try simp(disch:=omega) only[go_sem,seval,hls, *]))))
 refine bV (fun m env s'=>∃(j:Nat) (x:VV),j<=SV.length/\m+j=SV.length/\Hid (RowS s s' x j ((SV.take j).map (eD wd)))/\env 0=.ptr c 0/\env 2=.lst VK ow/\env 13=x/\env 57=.lst VS .no/\env 58=.int .i64 SV.length/\env 59=.int .i64 j) SV.length ?_ ?_
 ·exact⟨_,Fg.refl _,0,_,by omega,by omega,o_ (.inl ⟨rfl,rfl,rfl,rfl⟩),ac,ac,ac,ac,ac,ac⟩
 clear we wv
 rintro m env u ⟨j,x,hj,hmj,HO,e0,e2,e13,e57,e58,e59⟩
 by_cases h2:j<SV.length
 ·have hx:=HAT2.out j _ (m_ h2)
  have hmlt:=HLT.out _ (List.getElem_mem h2)
  have htk:(SV.take (j+1)).map (eD wd)=(SV.take j).map (eD wd)++[eD wd SV[j]]:=by
   rw[List.take_add_one,m_ h2,List.map_append]
   rfl
  generalize SV[j]=m0 at *
  have huco:u c=.obj 132 [.ptr q 0,.lst DC .no,.lst AC .no]:=by
   rcases HO.out with ⟨_,_,hu,_⟩|⟨_,g,hg,hu,_⟩
   ·rw[hu];exact hco
   ·rw[hu,j_ _ _ (nef hg (by rw[hco];simp)).1];exact hco
  have hcf:u c≠.free:=by rw[huco];simp
  have hs0:Hid (cz wd m0=[]++cz (wd.drop 0) m0):=o_ (by rw[List.drop_zero,List.nil_append])
  have hnl0:ak ([]:List Nat)=[]:=rfl
  have HTK:=o_ htk
  clear htk
  (repeat'(first|refine Ctl ?_|((with_reducible refine k_ hK ?_);clear hK hE K E)|((with_reducible refine ah (fun h=>?_) (fun h=>?_))<;>(try(exfalso;assumption)))|(((with_reducible refine ab fun K E hK hE=>?_))<;>(try simp(disch:=omega) only[go_sem,seval,hx,hln, *]))))
  refine bV (fun m2 env s'=>∃(i mc:Nat) (rw_:List Nat) (o:Own),i<=ks.length/\m2+i=ks.length/\Hid (cz wd m0=rw_++cz (wd.drop i) mc)/\mc<2 ^ 61/\rw_.length=i/\OwnOk u o i/\s'=u.own o 3 1 i/\env 0=.ptr c 0/\env 2=.lst VK ow/\env 13=x/\env 57=.lst VS .no/\env 58=.int .i64 SV.length/\env 59=.int .i64 j/\env 15=.int .i64 mc/\env 16=.lst (ak rw_) o/\env 63=.lst VK ow/\env 64=.int .i64 ks.length/\env 65=.int .i64 i) ks.length ?_ ?_
  ·exact⟨_,Fg.refl _,0,m0,[],.full,by omega,by omega,hs0,hmlt,rfl,rfl,rfl,ac,ac,ac,ac,ac,ac,ac,by(rw[hnl0];((try simp(disch:=assumption) only[go_sem,seval, *])<;>rfl)),ac,ac,ac⟩
  clear e0 e2 e13 e57 e58 e59 hs0 hnl0 hx hmlt
  rintro m2 env s' ⟨i,mc,rw_,o,hi,hmi,HE,hmc,hrl,hO,rfl,e0,e2,e13,e57,e58,e59,e15,e16,e63,e64,e65⟩
  have p2:=hO.not hcf
  by_cases h3:i<ks.length
  ·have hkx:=HAT.out i _ (m_ h3)
   obtain⟨ha,hal⟩:=HA2.out _ (List.getElem_mem h3)
   have hw:=HWD.out i _ (m_ h3)
   have hwlen:(ak (at_.getD ks[i] [])).length=(at_.getD ks[i] []).length:=natsL_len
   obtain⟨hw1,hw2⟩:=x_.1 hw
   have hsp:=HE.out
   rw[c_ hw1,hw2]at hsp
   simp only[cz]at hsp
   generalize (at_.getD ks[i] []).length=w at *
   generalize ak (at_.getD ks[i] [])=WL at *
   generalize ks[i]=kx at *
   have hsh:=jD (k:=w) (by omega)
   have hand:=BU (m:=mc) (w:=w) (by omega)
   have hshr:=wH (m:=mc) (w:=w) (by omega) (by omega)
   have hdl:mc / 2 ^ w<=mc:=Nat.div_le_self _ _
   have hpw:2 ^ w<=2 ^ 61:=Nat.pow_le_pow_right (by omega) (by omega)
   have hpp:0<2 ^ w:=Nat.two_pow_pos w
   have hnr:ak (rw_++[mc % 2 ^ w])=ak rw_++[[.int .i64 ((mc % 2 ^ w:Nat):Int)]]:=dV
   have hnl:(ak rw_).length=i:=by rw[natsL_len,hrl]
   have HE2:Hid (cz wd m0=(rw_++[mc % 2 ^ w])++cz (wd.drop (i+1)) (mc / 2 ^ w)):=o_ (by rw[hsp,List.append_assoc];rfl)
   have HRL:Hid ((rw_++[mc % 2 ^ w]).length=i+1):=o_ (by rw[p_,hrl];rfl)
   have HNR:=o_ hnr
   clear HE hsp hw hw1 hw2 hnr hrl
   generalize rw_++[mc % 2 ^ w]=rw2 at *
   generalize ak rw_=RL at *
   generalize mc % 2 ^ w=mr at *
   generalize mc / 2 ^ w=mq at *
   generalize 2 ^ w=PW at *
   (repeat'(first|refine Ctl ?_|((with_reducible refine k_ hK ?_);clear hK hE K E)|((with_reducible refine ah (fun h=>?_) (fun h=>?_))<;>(try(exfalso;assumption)))|((first|(with_reducible refine ab fun K E hK hE=>?_)|((with_reducible refine fC (fun o2 ho=>?_));(try simp(disch:=assumption) only[bz,bB,cZ,c6,z_,List.length_cons,List.length_nil,Nat.zero_add,hkx,ha,hwlen,hsh,hand,hshr,hnl]at ho)))<;>(try simp(disch:=first|assumption|omega) only[go_sem,seval,hkx,ha,hwlen,hsh,hand,hshr,hnl, *]))))
   all_goals exact⟨_,Fg.refl _,m2 - 1,by omega,i+1,mq,rw2,o2,by omega,by omega,HE2,by omega,HRL.out,ho,rfl,ac,ac,ac,ac,ac,ac,ac,by(rw[HNR.out];((try simp(disch:=assumption) only[go_sem,seval, *])<;>rfl)),ac,ac,ac⟩
  ·have hik:i=ks.length:=by omega
   have hrw:ak rw_=aI (eD wd m0):=by
    have h1:=HE.out
    rw[List.drop_of_length_le (by omega)]at h1
    simp only[cz,List.append_nil]at h1
    rw[eD,h1,cA]
   (repeat'(first|(with_reducible refine aR 19 ?_)|refine Ctl ?_|((with_reducible refine k_ hK ?_);clear hK hE K E)|((with_reducible refine ah (fun h=>?_) (fun h=>?_))<;>(try(exfalso;omega)))|(((with_reducible refine ab fun K E hK hE=>?_))<;>(try simp(disch:=omega) only[go_sem,seval, *]))))
   unfold bC
   refine lC 16 (x:=.lst (ak rw_) o) (y:=.lst (ak rw_) .no) (ac) (Wk.lst _ _) ?_
   refine dr (s':=u) (Fg.own hO) ?_
   rw[hrw]
   have hadd:=HTK.out
   have HH:=o_ hadd
   have hrl1:∀y:List VV,y=[.lst (aI (eD wd m0)) .no]->y.length=1:=fun y hy=>by rw[hy];rfl
   clear HE hrw hO p2 hadd HTK
   rcases HO.out with ⟨h0,hO0,hu,hx0⟩|⟨h0,g,hg,hu,hx0⟩
   ·subst hu hx0 h0
    rw[hO0,List.nil_append]at HH
    clear HO hO0
    generalize hLX:aI (eD wd m0)=LX at *
    have HLX:=o_ hLX
    clear hLX
    (repeat'(first|refine Ctl ?_|((with_reducible refine k_ hK ?_);clear hK hE K E)|((first|(with_reducible refine ab fun K E hK hE=>?_)|((with_reducible refine fG (fun bM hM=>?_))))<;>(try simp(disch:=omega) only[go_sem,seval,Nat.mul_one, *]))))
    refine⟨_,Fg.refl _,m - 1,by omega,0+1,_,by omega,by omega,o_ (.inr ⟨by omega,bM,hM,?_,?_⟩),ac,ac,ac,ac,ac,ac⟩
    ·rw[HH.out,<- HLX.out];rfl
    ·rw[HH.out];rfl
   ·subst hu hx0
    have hrlen:((SV.take j).map (eD wd)).length=j:=by rw[z_,r_];omega
    have hxl:(((SV.take j).map (eD wd)).map cK).length=j:=by rw[z_,hrlen]
    have hsg:s.set g .free=s:=v_ _ _ _ hg
    have hap:((SV.take (j+1)).map (eD wd)).map cK=((SV.take j).map (eD wd)).map cK++[.lst (aI (eD wd m0)) .no]:=by rw[HH.out,List.map_append];rfl
    have hapl:((SV.take (j+1)).map (eD wd)).length=j+1:=by rw[z_,r_];omega
    have HAP:=o_ (And.intro hap hapl)
    clear hap hapl HO HH huco
    rw[hrlen]at e13
    generalize aI (eD wd m0)=LX at *
    generalize ((SV.take j).map (eD wd)).map cK=XR at *
    clear hrlen
    (repeat'(first|refine Ctl ?_|((with_reducible refine k_ hK ?_);clear hK hE K E)|((first|(with_reducible refine ab fun K E hK hE=>?_)|((with_reducible refine cJ (fun bM hM=>?_))))<;>(try simp(disch:=omega) only[go_sem,seval,Nat.mul_one,hxl,hsg,St.set_set, *]))))
    exact⟨_,Fg.refl _,m - 1,by omega,j+1,_,by omega,by omega,o_ (.inr ⟨by omega,bM,hM,by rw[HAP.out.1];rfl,by rw[HAP.out.2]⟩),ac,ac,ac,ac,ac,ac⟩
 ·have hjc:j=SV.length:=by omega
  subst hjc
  have hall:(SV.take SV.length).map (eD wd)=TR:=by rw[b_];exact HTR.out.symm
  have ho:=HO.out
  rw[hall]at ho
  clear HO
  rcases ho with ⟨h0,hO0,hu,hx0⟩|⟨h0,g,hg,hu,hx0⟩
  ·subst hu hx0
   have wz:=Ff u []
   have HTN:=o_ hO0
   clear hO0
   (repeat'(first|(with_reducible refine aR 22 ?_)|refine Ctl ?_|((with_reducible refine k_ hK ?_);clear hK hE K E)|((with_reducible refine ah (fun h=>?_) (fun h=>?_))<;>(try(exfalso;assumption)))|(((with_reducible first|refine ab fun K E hK hE=>?_|refine ae GL (wz) ?_))<;>(try simp(disch:=omega) only[go_sem,seval, *]))))
   unfold bC
   refine lC 13 (x:=.raw (.slice none 0 0)) (y:=.lst [] .no) (ac) Wk.rawnil ?_
   (repeat'(first|refine Ctl ?_|((with_reducible refine k_ hK ?_);clear hK hE K E)|(((with_reducible refine ab fun K E hK hE=>?_))<;>(try simp(disch:=omega) only[go_sem,seval, *]))))
   all_goals(refine aq z8 hQ ?_)
   rw[HTN.out]
   exact⟨_,_,Wk.refl _,Fg.refl _,rfl,rfl⟩
  ·subst hu hx0
   have hTRl:TR.length=SV.length:=by rw[HTR.out,z_]
   have hpm:(dO TR).length=TR.length:=((List.perm_ext_iff_of_nodup (eB TR).nodup HND.out).2 fun r=>sortR_mem).length_eq
   have wz:=Mx TR g 28 (by omega) HND.out (fun r hr=>by
    rw[HTR.out]at hr
    obtain⟨z,_,rfl⟩:=A_.1 hr
    rw[zP,hwl]
    omega) (s.set g (.row 28 1 (TR.map cK))) (q_ _ _ _)
   rw[St.set_set]at wz
   have hsg:s.set g .free=s:=v_ _ _ _ hg
   have hfz:((dO TR).map cK).map (fun y=>[y])=bh (dO TR):=by simp[bh,Function.comp]
   have hil:((dO TR).map cK).length=TR.length:=by rw[z_,hpm]
   clear hpm hTRl hall
   generalize TR.map cK=OX at *
   generalize TR.length=ol at *
   generalize (dO TR).map cK=SX at *
   generalize bh (dO TR)=RS at *
   (repeat'(first|(with_reducible refine aR 22 ?_)|refine Ctl ?_|((with_reducible refine k_ hK ?_);clear hK hE K E)|((with_reducible refine ah (fun h=>?_) (fun h=>?_))<;>(try(exfalso;assumption)))|(((with_reducible first|refine ab fun K E hK hE=>?_|refine ae GL (wz) ?_))<;>(try simp(disch:=omega) only[go_sem,seval, *]))))
   unfold bC
   refine kK 13 g ol (q_ _ _ _) (ac) hil ?_
   rw[hfz,St.set_set,hsg]
   (repeat'(first|refine Ctl ?_|((with_reducible refine k_ hK ?_);clear hK hE K E)|(((with_reducible refine ab fun K E hK hE=>?_))<;>(try simp(disch:=omega) only[go_sem,seval, *]))))
   all_goals(refine aq z8 hQ ?_)
   exact⟨_,_,Wk.refl _,Fg.refl _,rfl,rfl⟩
end Go.Proofs.YtohnaepcgnbaiaaGreatDoor
