/- Walks of functions that the claim reaches, and plain facts of them. Conditions: those in the statements. -/
import Derived.Test.YtndlnadbnganeaaGreatDoorJnRgj
import Derived.Test.YtndlnadbnganeaaGreatDoorJnPkj
import Derived.Test.YtndlnadbnganeaaGreatDoorJnQcj
import Derived.Test.YtndlnadbnganeaaGreatDoorJnHej
import Derived.Test.YtndlnadbnganeaaGreatDoorJnRp
import Derived.Laws.RangeAny
set_option linter.unusedSimpArgs false
set_option linter.unusedVariables false
set_option maxRecDepth 100000
namespace Go.Proofs.YtndlnadbnganeaaGreatDoor
open Go.RowKit
theorem ints_flat:∀{l:List Int},(intsL l).flatten=ints l
 |[]=>rfl
 |x::l=>by
  have:=ints_flat (l:=l)
  simp only[intsL,ints,List.map_cons,List.flatten_cons]at this ⊢
  rw[this]
  rfl
theorem natsL_add {l:List Nat}{m:Nat}:natsL (l++[m])=natsL l++[[.int .i64 (m:Int)]]:=by simp[natsL]
def outUp (L:List (List Int))(vs:List Nat)(j:Nat):List Nat:=(L.take j).flatMap fun c=>expE c 0 vs [0]
theorem outUp_add {L:List (List Int)}{vs:List Nat}{j:Nat}{c:List Int}(h:L[j]?=some c):outUp L vs (j+1)=outUp L vs j++expE c 0 vs [0]:=by
 unfold outUp
 rw[List.take_add_one,h]
 simp
def OutS (s u:St)(x:VV)(j:Nat)(O:List Nat):Prop:=
 (j=0∧O=[]∧u=s∧x=.raw (.slice none 0 0))∨(0<j∧∃g,s g=.free∧u=s.set g (.row 3 1 (ints (O.map fun(k:Nat)=>(k:Int))))∧x=.mrw g O.length)
attribute [-go_sem] p_and p_or p_shl p_shr
set_option maxHeartbeats 16000000 in
theorem Keach_S {s:St}{p g q n B:Nat}{ns:List Tr}{mk:Int}(hM:NMem s p g q n B ns mk 0)(hN:NsOk n ns)(hn:n≤256)(hBs:ns.length≤1048576){t:Tr}(ht:t∈ns){vs:List Nat}(hv:vs.Nodup)(hlt:∀v,v∈vs→v<n)(hoc:∀v,occT v t=true→v∈vs)(h61:vs.length≤61){most:Nat}(hm:most≤16384)(hc:(satV t vs).length≤most) :
  SRet Tryz.prog 32 [.ptr p 0,.int .i64 (ixN ns t:Nat),.lst (natsL vs) .no,.int .i64 most] s (.tup [.lst (natsL (satV t vs)) .no,.int .i64 0]) s:=by
 have hot:=hN.ok t ht
 have hI:InV vs t:=inV_occ hoc
 have hol:=outE_len hot hI hv hlt
 have hcl:(cubT t (List.replicate n 2)).length≤16384:=by
  have:=cubT_le (t:=t) (w:=List.replicate n 2) (vs:=vs)
  omega
 have w1:=Ksat_S hM hN hn hBs ht hv hlt hoc h61
 have w2:=Kcubes_S hM hN hn hBs ht (Nat.le_refl 16384) hcl
 have hfin:=fun(l:List Nat) h1 h2=>satV_of (l:=l) hot hI hv hlt h1 h2
 have hcc:∀c,c∈cubT t (List.replicate n 2)→c.length=n∧(expE c 0 vs [0]).length≤16384:=fun c h=>⟨cubT_len hot (by simp) h,by
  have:(expE c 0 vs [0]).length≤(outE t (List.replicate n 2) vs).length:=by
   obtain⟨a,b,e⟩:=List.append_of_mem h
   unfold outE
   rw[e,List.flatMap_append,List.flatMap_cons,List.length_append,List.length_append]
   omega
  omega⟩
 have hup:∀j,(outUp (cubT t (List.replicate n 2)) vs j).length≤16384:=fun j=>by
  have:(outUp (cubT t (List.replicate n 2)) vs j).length≤(outE t (List.replicate n 2) vs).length:=by
   unfold outE outUp
   conv=>rhs;rw[← List.take_append_drop j (cubT t (List.replicate n 2)),List.flatMap_append,List.length_append]
   omega
  omega
 have hall:outUp (cubT t (List.replicate n 2)) vs (cubT t (List.replicate n 2)).length=outE t (List.replicate n 2) vs:=by unfold outE outUp;rw[List.take_length]
 rw[← hall]at hfin
 have hat:=fun(i k:Nat) (h:vs[i]?=some k)=>natsL_at h
 have hln:(natsL vs).length=vs.length:=natsL_len
 have hln62:¬ ((natsL vs).length:Int) > 62:=by rw[hln];omega
 have hm1:¬ (most:Int)<0:=by omega
 have hm3:¬ (most:Int) > 16384:=by omega
 have hc1:¬ (((satV t vs).length:Nat):Int) > (most:Int):=by omega
 have hlt2:∀i v,vs[i]?=some v→v<n:=fun i v h=>hlt v (List.mem_of_getElem? h)
 have hrl:=rwsC_len (rows:=cubT t (List.replicate n 2))
 have hra:=fun i r h=>rwsC_at (rows:=cubT t (List.replicate n 2)) (i:=i) (r:=r) h
 clear hM hN hI hoc hot hol hall ht
 generalize cubT t (List.replicate n 2)=CL at *
 generalize hSV:satV t vs=SV at *
 generalize hSL:SV.length=sl at *
 generalize ixN ns t=k at *
 generalize natsL vs=V at *
 generalize hLL:rwsC CL=LL at *
 have HAT:=Lib.hid hat
 have HLT:=Lib.hid hlt2
 have HRA:=Lib.hid hra
 have HCC:=Lib.hid hcc
 have HUP:=Lib.hid hup
 have HFIN:=Lib.hid hfin
 clear hat hlt hlt2 hra hcc hup hfin hLL hSL hSV hc hv
 rw[hln]at hln62
 refine G_enter Tryz.func32 rfl Tryz.ntmps32 rfl fun Q hQ hQe=>?_
 (repeat'(first|(with_reducible refine Kp_atQ 12 ?_)|refine Ctl ?_|((with_reducible refine Kof.use hK ?_);clear hK hE K E)|((with_reducible refine W_cond (fun h=>?_) (fun h=>?_))<;>(try(exfalso;assumption)))|(((with_reducible first|refine G_region fun K E hK hE=>?_|refine call_ret can62 (w1) ?_|refine call_ret can63 (w2) ?_))<;>(try simp(disch:=omega) only[go_sem,seval,hln62,hm1,hm3,hc1,hln, *]))))
 unfold StopQ
 refine Kp_rawnil 13 (z_sl) ?_
 (repeat'(first|refine Ctl ?_|((with_reducible refine Kof.use hK ?_);clear hK hE K E)|(((with_reducible refine G_region fun K E hK hE=>?_))<;>(try simp(disch:=omega) only[go_sem,seval,hrl, *]))))
 refine G_loop (fun m env s'=>∃(j:Nat) (x:VV),j≤CL.length∧m+j=CL.length∧Hid (OutS s s' x j (outUp CL vs j))∧env 2=.lst V .no∧env 13=x∧env 57=.lst LL .no∧env 58=.int .i64 CL.length∧env 59=.int .i64 j) CL.length ?_ ?_
 ·exact⟨_,Fg.refl _,0,_,by omega,by omega,Lib.hid (.inl ⟨rfl,rfl,rfl,rfl⟩),z_sl,z_sl,z_sl,z_sl,z_sl⟩
 rintro m env u ⟨j,x,hj,hmj,HO,e2,e13,e57,e58,e59⟩
 by_cases h2:j<CL.length
 ·have hx:=HRA.out j _ (List.getElem?_eq_getElem h2)
  obtain⟨hcn,hce⟩:=HCC.out _ (List.getElem_mem h2)
  have hadd:=outUp_add (vs:=vs) (List.getElem?_eq_getElem h2)
  have hulen:=HUP.out (j+1)
  generalize CL[j]=c at *
  have hcat:=fun(i:Nat) (z:Int) (h:c[i]?=some z)=>intsL_at h
  simp only[rowV]at hx
  generalize intsL c=CV at *
  obtain⟨TG,hTG⟩:∃TG,TG=expE c 0 vs [0]:=⟨_,rfl⟩
  rw[← hTG]at hadd hce
  have hl0:natsL [0]=[[.int .i64 0]]:=rfl
  have HADD:=Lib.hid hadd
  have HTG:=Lib.hid hTG.symm
  have HCAT:=Lib.hid hcat
  clear hadd hTG hcat
  (repeat'(first|refine Ctl ?_|((with_reducible refine Kof.use hK ?_);clear hK hE K E)|((with_reducible refine W_cond (fun h=>?_) (fun h=>?_))<;>(try(exfalso;assumption)))|(((with_reducible refine G_region fun K E hK hE=>?_))<;>(try simp(disch:=omega) only[go_sem,seval,hx,hln, *]))))
  refine G_loop (fun m2 env s'=>∃(i:Nat) (al:List Nat) (oA:Own),i≤vs.length∧m2+i=vs.length∧Hid (expE c i (vs.drop i) al=TG∧al.Nodup∧0<al.length∧∀m,m∈al→m<2 ^ i)∧s'=u∧env 2=.lst V .no∧env 13=x∧env 57=.lst LL .no∧env 58=.int .i64 CL.length∧env 59=.int .i64 j∧env 15=.lst CV .no∧env 16=.lst (natsL al) oA∧env 64=.lst V .no∧env 65=.int .i64 vs.length∧env 66=.int .i64 i) vs.length ?_ ?_
  ·exact⟨_,Fg.refl _,0,[0],.full,by omega,by omega,Lib.hid ⟨by rw[List.drop_zero];exact HTG.out,by simp,by simp,by simp⟩,rfl,z_sl,z_sl,z_sl,z_sl,z_sl,z_sl,by(rw[hl0];((try simp(disch:=assumption) only[go_sem,seval, *])<;>rfl)),z_sl,z_sl,z_sl⟩
  clear e2 e13 e57 e58 e59 hl0
  rintro m2 env s' ⟨i,al,oA,hi,hmi,HE,rfl,e2,e13,e57,e58,e59,e15,e16,e64,e65,e66⟩
  by_cases h3:i<vs.length
  ·have hvx:=HAT.out i _ (List.getElem?_eq_getElem h3)
   have hvn:=HLT.out i _ (List.getElem?_eq_getElem h3)
   have hdr:=List.drop_eq_getElem_cons h3
   generalize vs[i]=v at *
   obtain⟨cv,hcv⟩:∃cv,c[v]?=some cv:=⟨_,List.getElem?_eq_getElem (by omega)⟩
   have hcx:=HCAT.out v cv hcv
   have HE2:Hid (expE c (i+1) (vs.drop (i+1)) (stepE c i v al)=TG∧(stepE c i v al).Nodup∧0<(stepE c i v al).length∧∀m,m∈stepE c i v al→m<2 ^ (i+1)):=by
    obtain⟨a1,a2,a3,a4⟩:=HE.out
    rw[hdr]at a1
    obtain⟨b1,b2⟩:=stepE_ok (c:=c) (v:=v) a2 a4
    exact Lib.hid ⟨a1,b1,stepE_pos a3,b2⟩
   have hal:al.length≤16384:=by
    obtain⟨a1,a2,a3,a4⟩:=HE.out
    have:=expE_grow (c:=c) (vs:=vs.drop i) (i:=i) (all:=al)
    rw[a1]at this
    omega
   have hnal:(natsL al).length=al.length:=natsL_len
   have haat:=fun(i k:Nat) (h:al[i]?=some k)=>natsL_at h
   have h4:=HE.out.2.2.2
   have H4:=Lib.hid h4
   have HAAT:=Lib.hid haat
   have hnn0:natsL (stepE c i v (al.take 0))=[]:=rfl
   have hi61:i≤61:=by omega
   have hsh:=shl_one (k:=i) (by omega)
   have hstep:=fun(j m:Nat) (h:al[j]?=some m)=>show stepE c i v (al.take (j+1))=stepE c i v (al.take j)++((if cv≠1 then [m] else [])++(if cv≠0 then [m+2 ^ i] else [])) by
    rw[List.take_add_one,h]
    have:=stepE_add (c:=c) (i:=i) (v:=v) (m:=m) (all:=al.take j)
    rw[hcv]at this
    exact this
   have hor:=fun(m:Nat) (h:m<2 ^ i)=>or_new h hi61
   generalize hPP:2 ^ i=PP at *
   have HOR:=Lib.hid hor
   have HSTEP:=Lib.hid hstep
   have HPP:=Lib.hid hPP
   clear hdr hcv haat h4 HE hPP hor hstep
   (repeat'(first|refine Ctl ?_|((with_reducible refine Kof.use hK ?_);clear hK hE K E)|((with_reducible refine W_cond (fun h=>?_) (fun h=>?_))<;>(try(exfalso;assumption)))|(((with_reducible refine G_region fun K E hK hE=>?_))<;>(try simp(disch:=omega) only[go_sem,seval,hvx,hnal, *]))))
   refine G_loop (fun m3 env s''=>∃(i3:Nat) (o3:Own),i3≤al.length∧m3+i3=al.length∧OwnOk s' o3 (stepE c i v (al.take i3)).length∧s''=s'.own o3 3 1 (stepE c i v (al.take i3)).length∧env 2=.lst V .no∧env 13=x∧env 57=.lst LL .no∧env 58=.int .i64 CL.length∧env 59=.int .i64 j∧env 15=.lst CV .no∧env 17=.int .i64 i∧env 18=.int .i64 v∧env 19=.lst (natsL (stepE c i v (al.take i3))) o3∧env 64=.lst V .no∧env 65=.int .i64 vs.length∧env 66=.int .i64 i∧env 71=.lst (natsL al) oA∧env 72=.int .i64 al.length∧env 73=.int .i64 i3) al.length ?_ ?_
   ·exact⟨_,Fg.refl _,0,.full,by omega,by omega,rfl,rfl,z_sl,z_sl,z_sl,z_sl,z_sl,z_sl,z_sl,z_sl,by(rw[hnn0];((try simp(disch:=assumption) only[go_sem,seval, *])<;>rfl)),z_sl,z_sl,z_sl,z_sl,z_sl,z_sl⟩
   clear e2 e13 e57 e58 e59 e15 e16 e64 e65 e66 hnn0
   rintro m3 env s'' ⟨i3,o3,hi3,hm3,hO3,rfl,e2,e13,e57,e58,e59,e15,e17,e18,e19,e64,e65,e66,e71,e72,e73⟩
   by_cases h5:i3<al.length
   ·have hmx:=HAAT.out i3 _ (List.getElem?_eq_getElem h5)
    have hml:=H4.out _ (List.getElem_mem h5)
    have hst:=HSTEP.out i3 _ (List.getElem?_eq_getElem h5)
    have hlen3:(stepE c i v (al.take i3)).length≤2 * 16384:=by
     have:=stepE_twice (c:=c) (i:=i) (v:=v) (all:=al.take i3)
     rw[List.length_take]at this
     omega
    have hor:=HOR.out _ hml
    clear hml
    generalize al[i3]=mm at *
    generalize hNX:stepE c i v (al.take i3)=nx at *
    have HNX:=Lib.hid hNX
    clear hNX
    have hnxl:(natsL nx).length=nx.length:=natsL_len
    by_cases c1:cv=1
    ·subst c1
     have hst2:stepE c i v (al.take (i3+1))=nx++[mm+PP]:=by rw[hst];rfl
     have hnx2:natsL (stepE c i v (al.take (i3+1)))=natsL nx++[[.int .i64 ((mm+PP:Nat):Int)]]:=by rw[hst2,natsL_add]
     have hl2:(stepE c i v (al.take (i3+1))).length=nx.length+1:=by rw[hst2];simp
     have HH:=Lib.hid (And.intro hnx2 hl2)
     clear hst hst2 hnx2 hl2
     generalize mm+PP=mp at *
     generalize natsL nx=NL at *
     generalize nx.length=ql at *
     (repeat'(first|refine Ctl ?_|((with_reducible refine Kof.use hK ?_);clear hK hE K E)|((with_reducible refine W_cond (fun h=>?_) (fun h=>?_))<;>(try(exfalso;assumption)))|((first|(with_reducible refine G_region fun K E hK hE=>?_)|((with_reducible refine W_app (fun o2 ho=>?_));(try simp(disch:=assumption) only[disown_set,disown_own,ownok_o,ownok_m,List.length_map,List.length_cons,List.length_nil,Nat.zero_add,hmx,hcx,hsh,hor,hnxl]at ho)))<;>(try simp(disch:=first|assumption|omega) only[go_sem,seval,hmx,hcx,hsh,hor,hnxl, *]))))
     all_goals exact⟨_,Fg.refl _,m3 - 1,by omega,i3+1,o2,by omega,by omega,by rw[HH.out.2];exact ho,by rw[HH.out.2],z_sl,z_sl,z_sl,z_sl,z_sl,z_sl,z_sl,z_sl,by(rw[HH.out.1];((try simp(disch:=assumption) only[go_sem,seval, *])<;>rfl)),z_sl,z_sl,z_sl,z_sl,z_sl,z_sl⟩
    ·by_cases c0:cv=0
     ·subst c0
      have hst2:stepE c i v (al.take (i3+1))=nx++[mm]:=by rw[hst];rfl
      have hnx2:natsL (stepE c i v (al.take (i3+1)))=natsL nx++[[.int .i64 (mm:Int)]]:=by rw[hst2,natsL_add]
      have hl2:(stepE c i v (al.take (i3+1))).length=nx.length+1:=by rw[hst2];simp
      have HH:=Lib.hid (And.intro hnx2 hl2)
      clear hst hst2 hnx2 hl2 c1
      generalize natsL nx=NL at *
      generalize nx.length=ql at *
      (repeat'(first|refine Ctl ?_|((with_reducible refine Kof.use hK ?_);clear hK hE K E)|((with_reducible refine W_cond (fun h=>?_) (fun h=>?_))<;>(try(exfalso;assumption)))|((first|(with_reducible refine G_region fun K E hK hE=>?_)|((with_reducible refine W_app (fun o2 ho=>?_));(try simp(disch:=assumption) only[disown_set,disown_own,ownok_o,ownok_m,List.length_map,List.length_cons,List.length_nil,Nat.zero_add,hmx,hcx,hnxl]at ho)))<;>(try simp(disch:=first|assumption|omega) only[go_sem,seval,hmx,hcx,hnxl, *]))))
      all_goals exact⟨_,Fg.refl _,m3 - 1,by omega,i3+1,o2,by omega,by omega,by rw[HH.out.2];exact ho,by rw[HH.out.2],z_sl,z_sl,z_sl,z_sl,z_sl,z_sl,z_sl,z_sl,by(rw[HH.out.1];((try simp(disch:=assumption) only[go_sem,seval, *])<;>rfl)),z_sl,z_sl,z_sl,z_sl,z_sl,z_sl⟩
     ·have hst2:stepE c i v (al.take (i3+1))=(nx++[mm])++[mm+PP]:=by rw[hst,if_pos c1,if_pos c0,List.append_assoc]
      have hnx2:natsL (stepE c i v (al.take (i3+1)))=(natsL nx++[[.int .i64 (mm:Int)]])++[[.int .i64 ((mm+PP:Nat):Int)]]:=by rw[hst2,natsL_add,natsL_add]
      have hl2:(stepE c i v (al.take (i3+1))).length=nx.length+1+1:=by rw[hst2];simp
      have HH:=Lib.hid (And.intro hnx2 hl2)
      clear hst hst2 hnx2 hl2
      generalize mm+PP=mp at *
      generalize natsL nx=NL at *
      generalize nx.length=ql at *
      have hnx3:(NL++[[VV.int .i64 (mm:Int)]]).length=ql+1:=by rw[List.length_append,hnxl];rfl
      (repeat'(first|refine Ctl ?_|((with_reducible refine Kof.use hK ?_);clear hK hE K E)|((with_reducible refine W_cond (fun h=>?_) (fun h=>?_))<;>(try(exfalso;assumption)))|((first|(with_reducible refine G_region fun K E hK hE=>?_)|((with_reducible refine W_app (fun o2 ho=>?_));(try simp(disch:=assumption) only[disown_set,disown_own,ownok_o,ownok_m,List.length_map,List.length_cons,List.length_nil,Nat.zero_add,hmx,hcx,hsh,hor,hnxl,hnx3,c0,c1]at ho)))<;>(try simp(disch:=first|assumption|omega) only[go_sem,seval,hmx,hcx,hsh,hor,hnxl,hnx3,c0,c1, *]))))
      all_goals exact⟨_,Fg.refl _,m3 - 1,by omega,i3+1,o2,by omega,by omega,by rw[HH.out.2];exact ho,by rw[HH.out.2],z_sl,z_sl,z_sl,z_sl,z_sl,z_sl,z_sl,z_sl,by(rw[HH.out.1];((try simp(disch:=assumption) only[go_sem,seval, *])<;>rfl)),z_sl,z_sl,z_sl,z_sl,z_sl,z_sl⟩
   ·obtain rfl:i3=al.length:=by omega
    rw[List.take_length]at hO3 e19 ⊢
    (repeat'(first|refine Ctl ?_|((with_reducible refine Kof.use hK ?_);clear hK hE K E)|((with_reducible refine W_cond (fun h=>?_) (fun h=>?_))<;>(try(exfalso;assumption)))|(((with_reducible refine G_region fun K E hK hE=>?_))<;>(try simp(disch:=omega) only[go_sem,seval, *]))))
    all_goals exact⟨_,Fg.own hO3,m2 - 1,by omega,i+1,stepE c i v al,o3,by omega,by omega,HE2,rfl,z_sl,z_sl,z_sl,z_sl,z_sl,z_sl,z_sl,z_sl,z_sl,z_sl⟩
  ·have hiv:i=vs.length:=by omega
   subst hiv
   obtain⟨a1,a2,a3,a4⟩:=HE.out
   rw[List.drop_length]at a1
   have ha:al=TG:=a1
   subst ha
   have hnl:(natsL al).length=al.length:=natsL_len
   have hne:natsL al≠[]:=fun e=>by rw[e]at hnl;simp at hnl;omega
   have hone:∀y,y∈natsL al→y.length=1:=fun y hy=>by
    obtain⟨z,_,rfl⟩:=List.mem_map.1 hy
    rfl
   have hfl:(natsL al).flatten=ints (al.map fun(k:Nat)=>(k:Int)):=by rw[natsL_ints,ints_flat]
   have hadd:=HADD.out
   rw[hadd,List.length_append]at hulen
   have HH:=Lib.hid hadd
   clear HE a1 a2 a3 a4 hadd HTG HADD h3
   rcases HO.out with ⟨h0,hO0,hu,hx0⟩|⟨h0,g,hg,hu,hx0⟩
   ·subst hu hx0 h0
    rw[hO0,List.nil_append]at HH
    clear HO hO0 hulen
    generalize natsL al=AL at *
    (repeat'(first|refine Ctl ?_|((with_reducible refine Kof.use hK ?_);clear hK hE K E)|((with_reducible refine W_cond (fun h=>?_) (fun h=>?_))<;>(try(exfalso;omega)))|((first|(with_reducible refine G_region fun K E hK hE=>?_)|((with_reducible refine W_app0 (fun bM hM=>?_))))<;>(try simp(disch:=omega) only[go_sem,seval,hnl,hfl,Nat.mul_one, *]))))
    exact⟨_,Fg.refl _,m - 1,by omega,0+1,_,by omega,by omega,Lib.hid (.inr ⟨by omega,bM,hM,by rw[HH.out],by rw[HH.out]⟩),z_sl,z_sl,z_sl,z_sl,z_sl⟩
   ·subst hu hx0
    have hOl:=HUP.out j
    generalize hOO:outUp CL vs j=O at *
    have hil:(ints (O.map fun(k:Nat)=>(k:Int))).length=O.length:=by rw[ints_len,List.length_map]
    have hap:ints ((O++al).map fun(k:Nat)=>(k:Int))=ints (O.map fun(k:Nat)=>(k:Int))++ints (al.map fun(k:Nat)=>(k:Int)):=by simp[ints]
    have HAP:=Lib.hid hap
    have hsg:s.set g .free=s:=St.set_self _ _ _ hg
    clear hap HO hOO
    generalize ints (O.map fun(k:Nat)=>(k:Int))=OX at *
    generalize ints (al.map fun(k:Nat)=>(k:Int))=AX at *
    generalize natsL al=AL at *
    (repeat'(first|refine Ctl ?_|((with_reducible refine Kof.use hK ?_);clear hK hE K E)|((with_reducible refine W_cond (fun h=>?_) (fun h=>?_))<;>(try(exfalso;omega)))|((first|(with_reducible refine G_region fun K E hK hE=>?_)|((with_reducible refine W_appM (fun bM hM=>?_))))<;>(try simp(disch:=omega) only[go_sem,seval,hnl,hfl,Nat.mul_one,hil,hsg,St.set_set, *]))))
    exact⟨_,Fg.refl _,m - 1,by omega,j+1,_,by omega,by omega,Lib.hid (.inr ⟨by omega,bM,hM,by rw[HH.out,HAP.out],by rw[HH.out,List.length_append]⟩),z_sl,z_sl,z_sl,z_sl,z_sl⟩
 ·have hjc:j=CL.length:=by omega
  subst hjc
  rcases HO.out with ⟨h0,hO0,hu,hx0⟩|⟨h0,g,hg,hu,hx0⟩
  ·subst hu hx0
   have hsv:=HFIN.out [] (by rw[hO0]) (by simp)
   have ws:=Isort0_S u
   have HSV:=Lib.hid hsv
   clear hsv HO hO0
   (repeat'(first|(with_reducible refine Kp_atQ 33 ?_)|refine Ctl ?_|((with_reducible refine Kof.use hK ?_);clear hK hE K E)|((with_reducible refine W_cond (fun h=>?_) (fun h=>?_))<;>(try(exfalso;assumption)))|(((with_reducible first|refine G_region fun K E hK hE=>?_|refine call_ret can42 (ws) ?_))<;>(try simp(disch:=omega) only[go_sem,seval, *]))))
   unfold StopQ
   refine Kp_wkt 13 (x:=.raw (.slice none 0 0)) (y:=.lst [] .no) (z_sl) Wk.rawnil ?_
   (repeat'(first|refine Ctl ?_|((with_reducible refine Kof.use hK ?_);clear hK hE K E)|(((with_reducible refine G_region fun K E hK hE=>?_))<;>(try simp(disch:=omega) only[go_sem,seval, *]))))
   all_goals(refine W_ret res32 hQ ?_)
   rw[← HSV.out]
   exact⟨_,_,Wk.refl _,Fg.refl _,rfl,rfl⟩
  ·subst hu hx0
   have hperm:(outUp CL vs CL.length).mergeSort.Perm (outUp CL vs CL.length):=List.mergeSort_perm _ _
   have hpw:(outUp CL vs CL.length).mergeSort.Pairwise (·≤·):=by
    have:=List.pairwise_mergeSort (le:=fun a b:Nat=>decide (a≤b)) (fun a b c h1 h2=>by simp at *;omega) (fun a b=>by simp;omega) (outUp CL vs CL.length)
    exact this.imp fun h=>by simpa using h
   have hsv:=HFIN.out _ hperm hpw
   have hrz:riseZ ((outUp CL vs CL.length).map fun(k:Nat)=>(k:Int))=SV.map fun(k:Nat)=>(k:Int):=by
    rw[riseZ_congr (hperm.symm.map _),hsv,riseZ_id]
    rw[List.pairwise_map]
    rw[hsv]at hpw
    exact hpw.imp fun h=>by omega
   have hsl:SV.length=(outUp CL vs CL.length).length:=by rw[← hsv];exact hperm.length_eq
   have hup:=HUP.out CL.length
   have ws:=Isort_S (s.set g (.row 3 1 (ints ((outUp CL vs CL.length).map fun(k:Nat)=>(k:Int))))) g 3 ((outUp CL vs CL.length).map fun(k:Nat)=>(k:Int)) (by rw[List.length_map];omega) (St.set_same _ _ _)
   rw[hrz,List.length_map,St.set_set]at ws
   have hsg:s.set g .free=s:=St.set_self _ _ _ hg
   have hfz:(ints (SV.map fun(k:Nat)=>(k:Int))).map (fun y=>[y])=natsL SV:=by simp[ints,natsL,Function.comp]
   have hil:(ints (SV.map fun(k:Nat)=>(k:Int))).length=(outUp CL vs CL.length).length:=by rw[ints_len,List.length_map,hsl]
   clear hperm hpw hsv hrz hsl HO
   generalize ints ((outUp CL vs CL.length).map fun(k:Nat)=>(k:Int))=OX at *
   generalize (outUp CL vs CL.length).length=ol at *
   generalize ints (SV.map fun(k:Nat)=>(k:Int))=SX at *
   generalize natsL SV=SL at *
   (repeat'(first|(with_reducible refine Kp_atQ 33 ?_)|refine Ctl ?_|((with_reducible refine Kof.use hK ?_);clear hK hE K E)|((with_reducible refine W_cond (fun h=>?_) (fun h=>?_))<;>(try(exfalso;assumption)))|(((with_reducible first|refine G_region fun K E hK hE=>?_|refine call_ret can42 (ws) ?_))<;>(try simp(disch:=omega) only[go_sem,seval, *]))))
   unfold StopQ
   refine Kp_frzR 13 g ol (St.set_same _ _ _) (z_sl) hil ?_
   rw[hfz,St.set_set,hsg]
   (repeat'(first|refine Ctl ?_|((with_reducible refine Kof.use hK ?_);clear hK hE K E)|(((with_reducible refine G_region fun K E hK hE=>?_))<;>(try simp(disch:=omega) only[go_sem,seval, *]))))
   all_goals(refine W_ret res32 hQ ?_)
   exact⟨_,_,Wk.refl _,Fg.refl _,rfl,rfl⟩
end Go.Proofs.YtndlnadbnganeaaGreatDoor
namespace Go.Proofs.YtndlnadbnganeaaGreatDoor
open Go.RowKit
def wdsOf (at_:List (List Nat))(ks:List Nat):List Nat:=ks.map fun k=>(at_.getD k []).length
def rowU (wd:List Nat)(m:Nat):List Int:=(splitW wd m).map fun(k:Nat)=>(k:Int)
theorem splitW_len:∀{wd:List Nat} {m:Nat},(splitW wd m).length=wd.length
 |[],_=>rfl
 |w::ws,m=>by simp only[splitW,List.length_cons,splitW_len]
theorem rowT_len {wd:List Nat}{m:Nat}:(rowU wd m).length=wd.length:=by rw[rowU,List.length_map,splitW_len]
theorem varsOf_flat (at_:List (List Nat))(ks:List Nat):varsOf at_ ks=(ks.map fun k=>at_.getD k []).flatten:=rfl
theorem wdsOf_eq (at_:List (List Nat))(ks:List Nat):wdsOf at_ ks=(ks.map fun k=>at_.getD k []).map (·.length):=by simp[wdsOf,Function.comp]
theorem flat_apart:∀{L:List (List Nat)} {i j:Nat} {a b:List Nat},L.flatten.Nodup→L[i]?=some a→L[j]?=some b→i≠j→∀x,x∈a→x∈b→False
 |[],i,j,a,b,_,h,_,_=>by simp at h
 |c::L,i,j,a,b,hn,hi,hj,hne=>by
  rw[List.flatten_cons,List.nodup_append]at hn
  obtain⟨h1,h2,h3⟩:=hn
  have mem:∀{k:Nat} {d:List Nat},L[k]?=some d→∀x,x∈d→x∈L.flatten:=fun hk x hx=>List.mem_flatten.2 ⟨_,List.mem_of_getElem? hk,hx⟩
  cases i with
  |zero=>
   cases j with
   |zero=>exact absurd rfl hne
   |succ j=>
    simp at hi hj
    subst hi
    intro x hx hy
    exact h3 x hx x (mem hj x hy) rfl
  |succ i=>
   cases j with
   |zero=>
    simp at hi hj
    subst hj
    intro x hx hy
    exact h3 x hy x (mem hi x hx) rfl
   |succ j=>exact flat_apart h2 (by simpa using hi) (by simpa using hj) (by omega)
theorem flat_nd:∀{L:List (List Nat)} {a:List Nat},L.flatten.Nodup→a∈L→a.Nodup
 |[],a,_,h=>by simp at h
 |c::L,a,hn,h=>by
  rw[List.flatten_cons,List.nodup_append]at hn
  rcases List.mem_cons.1 h with rfl|h
  ·exact hn.1
  ·exact flat_nd hn.2.1 h
theorem DOk.getD {n:Nat}{ds:List (List UInt8×Nat)}{at_:List (List Nat)}(h:DOk n ds at_){k:Nat}(hk:k<ds.length):at_[k]?=some (at_.getD k [])∧(at_.getD k []).length≤30∧∀v,v∈at_.getD k []→v<n:=by
 obtain⟨nm,sz,l,h1,h2,h3,h4,h5,h6,h7⟩:=h.get hk
 have e:at_.getD k []=l:=by rw[List.getD_eq_getElem?_getD,h2];rfl
 rw[e]
 exact⟨h2,h6,h7⟩
theorem varsOf_nd {n:Nat}{ds:List (List UInt8×Nat)}{at_:List (List Nat)}(h:DOk n ds at_){ks:List Nat}(hn:ks.Nodup)(hk:∀k,k∈ks→k<ds.length):(varsOf at_ ks).Nodup:=by
 refine nodup_flat (fun k hm=>flat_nd h.nd (List.mem_of_getElem? (h.getD (hk k hm)).1)) ?_
 refine List.Pairwise.imp_of_mem (fun {a b} ha hb hne x hx hy=>?_) hn
 exact flat_apart h.nd (h.getD (hk a ha)).1 (h.getD (hk b hb)).1 hne x hx hy
theorem varsOf_lt {n:Nat}{ds:List (List UInt8×Nat)}{at_:List (List Nat)}(h:DOk n ds at_){ks:List Nat}(hk:∀k,k∈ks→k<ds.length):∀v,v∈varsOf at_ ks→v<n:=fun v hv=>by
 obtain⟨k,hm,hv⟩:=List.mem_flatMap.1 hv
 exact(h.getD (hk k hm)).2.2 v hv
def tupR (t:Tr)(at_:List (List Nat))(ks:List Nat):List (List Int):=(satV t (varsOf at_ ks)).map (rowU (wdsOf at_ ks))
theorem tupR_nodup (t:Tr)(at_:List (List Nat))(ks:List Nat):(tupR t at_ ks).Nodup:=by
 have h:=sat_nodup (t:=t) (ds:=ks.map fun k=>at_.getD k [])
 rw[← varsOf_flat,← wdsOf_eq]at h
 have e:tupR t at_ ks=((satV t (varsOf at_ ks)).map (splitW (wdsOf at_ ks))).map (fun l=>l.map fun(k:Nat)=>(k:Int)):=by
  simp[tupR,rowU,Function.comp]
 rw[e,List.nodup_iff_pairwise_ne,List.pairwise_map]
 refine List.Pairwise.imp (fun {a b} hne he=>hne ?_) h
 exact(List.map_inj_right (fun x y h=>by omega)).1 he
theorem shr_div {m w:Nat}(hm:m<2 ^ 62)(hw:w≤62):vint .shr .i64 (m:Int) (w:Int)=some (.int .i64 ((m / 2 ^ w:Nat):Int)):=by
 have hp:((2:Int) ^ w)=((2 ^ w:Nat):Int):=by simp
 have h0:(0:Int)≤(w:Int):=Int.natCast_nonneg _
 simp only[vint,if_pos h0]
 have h1:min ((w:Int).toNat) IntKind.i64.bits=w:=by simp[IntKind.bits];omega
 rw[h1,hp,Int.fdiv_eq_ediv_of_nonneg _ (Int.natCast_nonneg _)]
 rfl
def RowS (s u:St)(x:VV)(j:Nat)(rows:List (List Int)):Prop:=
 (j=0∧rows=[]∧u=s∧x=.raw (.slice none 0 0))∨(0<j∧∃g,s g=.free∧u=s.set g (.row 34 1 (rows.map rowV))∧x=.mrw g rows.length)
theorem and_lowN {m w:Nat}(hw:w≤61):vint .and .i64 (m:Int) (((2 ^ w:Nat):Int) - 1)=some (.int .i64 ((m % 2 ^ w:Nat):Int)):=by
 have h:=and_low hw (m:Int)
 have hle:2 ^ w≤2 ^ 61:=Nat.pow_le_pow_right (by omega) hw
 have hpos:0<2 ^ w:=Nat.two_pow_pos w
 rw[wrap_i64 (by omega) (by omega)]at h
 rw[h]
 have:addP w (m:Int)=m % 2 ^ w:=by
  unfold addP
  have hp:((2:Int) ^ w)=((2 ^ w:Nat):Int):=by simp
  (rw[hp];omega)
 rw[this]
attribute [-go_sem] p_and p_or p_shl p_shr
set_option maxHeartbeats 16000000 in
theorem Ctuples_S {s:St}{KK:OB}{q c n B:Nat}{ns:List Tr}{ds:List (List UInt8×Nat)}{at_:List (List Nat)}(hC:CMem s KK q c n B ns ds at_)(hD:DOk n ds at_)(hn:n≤256)(ks:List Nat)(ow:Own)(hks:∀k,k∈ks→k<ds.length)(hl:ks.length≤32)(hnd:ks.Nodup){t:Tr}(ht:t∈ns)
  (hoc:∀v,occT v t=true→v∈varsOf at_ ks) (h61:(varsOf at_ ks).length≤61) {most:Nat} (hm:most≤16384) (hc:(tupR t at_ ks).length≤most) :
  SRet Tryz.prog 13 [.ptr c 0,.int .i64 (ixN ns t:Nat),.lst (natsL ks) ow,.int .i64 most] s (.tup [.lst (rwsC (sortR (tupR t at_ ks))) .no,.int .i64 0]) s:=by
 have wv:=Cvars_S hC hD ks ow hks hl
 rw[if_pos hnd]at wv
 have hvn:=varsOf_nd hD hnd hks
 have hvl:=varsOf_lt hD hks
 obtain⟨mk,hM⟩:=hC.om.st.mem
 have hsl:(tupR t at_ ks).length=(satV t (varsOf at_ ks)).length:=by simp[tupR]
 have we:=Keach_S hM hC.om.st.ok hn (by have:=hC.om.st.bd;omega) ht hvn hvl hoc h61 hm (by omega)
 obtain⟨d,cc,ho⟩:=hC.om.op
 have wq:=Qops_S s q KK.o KK.s.p hC.qo
 have ws:=Ostore_S s KK.o KK.s.p d cc ho
 have hco:=hC.co
 have hnd2:=tupR_nodup t at_ ks
 have hlt:∀m,m∈satV t (varsOf at_ ks)→m<2 ^ 61:=fun m h=>by
  have:=(satV_mem.1 h).1
  exact Nat.lt_of_lt_of_le this (Nat.pow_le_pow_right (by omega) h61)
 have hat:=fun(i k:Nat) (h:ks[i]?=some k)=>natsL_at h
 have hat2:=fun(i k:Nat) (h:(satV t (varsOf at_ ks))[i]?=some k)=>natsL_at h
 have hA2:∀k,k∈ks→(atC at_)[k]?=some [.lst (natsL (at_.getD k [])) .no]∧(at_.getD k []).length≤30:=fun k hk=>⟨atC_at (hD.getD (hks k hk)).1,(hD.getD (hks k hk)).2.1⟩
 have hln:(natsL ks).length=ks.length:=natsL_len
 have hlv:(natsL (varsOf at_ ks)).length=(varsOf at_ ks).length:=natsL_len
 have hls:(natsL (satV t (varsOf at_ ks))).length=(satV t (varsOf at_ ks)).length:=natsL_len
 have hwl:(wdsOf at_ ks).length=ks.length:=by simp[wdsOf]
 have hwd:∀(i k:Nat),ks[i]?=some k→(wdsOf at_ ks)[i]?=some (at_.getD k []).length:=fun i k h=>by simp[wdsOf,h]
 have hm1:¬ (most:Int)<0:=by omega
 have hm3:¬ (most:Int) > 16384:=by omega
 have hv62:¬ ((varsOf at_ ks).length:Int) > 62:=by omega
 have htR:tupR t at_ ks=(satV t (varsOf at_ ks)).map (rowU (wdsOf at_ ks)):=rfl
 have hsle:(satV t (varsOf at_ ks)).length≤16384:=by omega
 clear hC hD hks hnd ht hoc h61 hvn hvl hM hc hsl
 generalize tupR t at_ ks=TR at *
 generalize satV t (varsOf at_ ks)=SV at *
 generalize wdsOf at_ ks=wd at *
 generalize varsOf at_ ks=vs at *
 generalize ixN ns t=k at *
 generalize hVK:natsL ks=VK at *
 generalize hVS:natsL SV=VS at *
 generalize natsL vs=VV' at *
 generalize hAC:atC at_=AC at *
 generalize domsC ds=DC at *
 have HAT:=Lib.hid hat
 have HAT2:=Lib.hid hat2
 have HA2:=Lib.hid hA2
 have HLT:=Lib.hid hlt
 have HWD:=Lib.hid hwd
 have HND:=Lib.hid hnd2
 have HTR:=Lib.hid htR
 clear hat hat2 hA2 hlt hwd hnd2 htR hVK hVS hAC ho
 rw[← hlv]at hv62
 refine G_enter Tryz.func13 rfl Tryz.ntmps13 rfl fun Q hQ hQe=>?_
 (repeat'(first|(with_reducible refine Kp_atQ 8 ?_)|refine Ctl ?_|((with_reducible refine Kof.use hK ?_);clear hK hE K E)|((with_reducible refine W_cond (fun h=>?_) (fun h=>?_))<;>(try(exfalso;first|assumption|omega)))|(((with_reducible first|refine G_region fun K E hK hE=>?_|refine call_ret can21 (wv) ?_|refine call_ret can18 (wq) ?_|refine call_ret can33 (ws) ?_|refine call_ret can32 (we) ?_))<;>(try simp(disch:=omega) only[go_sem,seval,hv62,hm1,hm3,hln, *]))))
 unfold StopQ
 refine Kp_rawnil 13 (z_sl) ?_
 (repeat'(first|refine Ctl ?_|((with_reducible refine Kof.use hK ?_);clear hK hE K E)|(((with_reducible refine G_region fun K E hK hE=>?_))<;>(try simp(disch:=omega) only[go_sem,seval,hls, *]))))
 refine G_loop (fun m env s'=>∃(j:Nat) (x:VV),j≤SV.length∧m+j=SV.length∧Hid (RowS s s' x j ((SV.take j).map (rowU wd)))∧env 0=.ptr c 0∧env 2=.lst VK ow∧env 13=x∧env 57=.lst VS .no∧env 58=.int .i64 SV.length∧env 59=.int .i64 j) SV.length ?_ ?_
 ·exact⟨_,Fg.refl _,0,_,by omega,by omega,Lib.hid (.inl ⟨rfl,rfl,rfl,rfl⟩),z_sl,z_sl,z_sl,z_sl,z_sl,z_sl⟩
 clear we wv
 rintro m env u ⟨j,x,hj,hmj,HO,e0,e2,e13,e57,e58,e59⟩
 by_cases h2:j<SV.length
 ·have hx:=HAT2.out j _ (List.getElem?_eq_getElem h2)
  have hmlt:=HLT.out _ (List.getElem_mem h2)
  have htk:(SV.take (j+1)).map (rowU wd)=(SV.take j).map (rowU wd)++[rowU wd SV[j]]:=by
   rw[List.take_add_one,List.getElem?_eq_getElem h2,List.map_append]
   rfl
  generalize SV[j]=m0 at *
  have huco:u c=.obj 63 [.ptr q 0,.lst DC .no,.lst AC .no]:=by
   rcases HO.out with ⟨_,_,hu,_⟩|⟨_,g,hg,hu,_⟩
   ·rw[hu];exact hco
   ·rw[hu,St.set_other _ _ (nef hg (by rw[hco];simp)).1];exact hco
  have hcf:u c≠.free:=by rw[huco];simp
  have hs0:Hid (splitW wd m0=[]++splitW (wd.drop 0) m0):=Lib.hid (by rw[List.drop_zero,List.nil_append])
  have hnl0:natsL ([]:List Nat)=[]:=rfl
  have HTK:=Lib.hid htk
  clear htk
  (repeat'(first|refine Ctl ?_|((with_reducible refine Kof.use hK ?_);clear hK hE K E)|((with_reducible refine W_cond (fun h=>?_) (fun h=>?_))<;>(try(exfalso;assumption)))|(((with_reducible refine G_region fun K E hK hE=>?_))<;>(try simp(disch:=omega) only[go_sem,seval,hx,hln, *]))))
  refine G_loop (fun m2 env s'=>∃(i mc:Nat) (rw_:List Nat) (o:Own),i≤ks.length∧m2+i=ks.length∧Hid (splitW wd m0=rw_++splitW (wd.drop i) mc)∧mc<2 ^ 61∧rw_.length=i∧OwnOk u o i∧s'=u.own o 3 1 i∧env 0=.ptr c 0∧env 2=.lst VK ow∧env 13=x∧env 57=.lst VS .no∧env 58=.int .i64 SV.length∧env 59=.int .i64 j∧env 15=.int .i64 mc∧env 16=.lst (natsL rw_) o∧env 63=.lst VK ow∧env 64=.int .i64 ks.length∧env 65=.int .i64 i) ks.length ?_ ?_
  ·exact⟨_,Fg.refl _,0,m0,[],.full,by omega,by omega,hs0,hmlt,rfl,rfl,rfl,z_sl,z_sl,z_sl,z_sl,z_sl,z_sl,z_sl,by(rw[hnl0];((try simp(disch:=assumption) only[go_sem,seval, *])<;>rfl)),z_sl,z_sl,z_sl⟩
  clear e0 e2 e13 e57 e58 e59 hs0 hnl0 hx hmlt
  rintro m2 env s' ⟨i,mc,rw_,o,hi,hmi,HE,hmc,hrl,hO,rfl,e0,e2,e13,e57,e58,e59,e15,e16,e63,e64,e65⟩
  have p2:=hO.not hcf
  by_cases h3:i<ks.length
  ·have hkx:=HAT.out i _ (List.getElem?_eq_getElem h3)
   obtain⟨ha,hal⟩:=HA2.out _ (List.getElem_mem h3)
   have hw:=HWD.out i _ (List.getElem?_eq_getElem h3)
   have hwlen:(natsL (at_.getD ks[i] [])).length=(at_.getD ks[i] []).length:=natsL_len
   obtain⟨hw1,hw2⟩:=List.getElem?_eq_some_iff.1 hw
   have hsp:=HE.out
   rw[List.drop_eq_getElem_cons hw1,hw2]at hsp
   simp only[splitW]at hsp
   generalize (at_.getD ks[i] []).length=w at *
   generalize natsL (at_.getD ks[i] [])=WL at *
   generalize ks[i]=kx at *
   have hsh:=shl_one (k:=w) (by omega)
   have hand:=and_lowN (m:=mc) (w:=w) (by omega)
   have hshr:=shr_div (m:=mc) (w:=w) (by omega) (by omega)
   have hdl:mc / 2 ^ w≤mc:=Nat.div_le_self _ _
   have hpw:2 ^ w≤2 ^ 61:=Nat.pow_le_pow_right (by omega) (by omega)
   have hpp:0<2 ^ w:=Nat.two_pow_pos w
   have hnr:natsL (rw_++[mc % 2 ^ w])=natsL rw_++[[.int .i64 ((mc % 2 ^ w:Nat):Int)]]:=natsL_add
   have hnl:(natsL rw_).length=i:=by rw[natsL_len,hrl]
   have HE2:Hid (splitW wd m0=(rw_++[mc % 2 ^ w])++splitW (wd.drop (i+1)) (mc / 2 ^ w)):=Lib.hid (by rw[hsp,List.append_assoc];rfl)
   have HRL:Hid ((rw_++[mc % 2 ^ w]).length=i+1):=Lib.hid (by rw[List.length_append,hrl];rfl)
   have HNR:=Lib.hid hnr
   clear HE hsp hw hw1 hw2 hnr hrl
   generalize rw_++[mc % 2 ^ w]=rw2 at *
   generalize natsL rw_=RL at *
   generalize mc % 2 ^ w=mr at *
   generalize mc / 2 ^ w=mq at *
   generalize 2 ^ w=PW at *
   (repeat'(first|refine Ctl ?_|((with_reducible refine Kof.use hK ?_);clear hK hE K E)|((with_reducible refine W_cond (fun h=>?_) (fun h=>?_))<;>(try(exfalso;assumption)))|((first|(with_reducible refine G_region fun K E hK hE=>?_)|((with_reducible refine W_app (fun o2 ho=>?_));(try simp(disch:=assumption) only[disown_set,disown_own,ownok_o,ownok_m,List.length_map,List.length_cons,List.length_nil,Nat.zero_add,hkx,ha,hwlen,hsh,hand,hshr,hnl]at ho)))<;>(try simp(disch:=first|assumption|omega) only[go_sem,seval,hkx,ha,hwlen,hsh,hand,hshr,hnl, *]))))
   all_goals exact⟨_,Fg.refl _,m2 - 1,by omega,i+1,mq,rw2,o2,by omega,by omega,HE2,by omega,HRL.out,ho,rfl,z_sl,z_sl,z_sl,z_sl,z_sl,z_sl,z_sl,by(rw[HNR.out];((try simp(disch:=assumption) only[go_sem,seval, *])<;>rfl)),z_sl,z_sl,z_sl⟩
  ·have hik:i=ks.length:=by omega
   have hrw:natsL rw_=intsL (rowU wd m0):=by
    have h1:=HE.out
    rw[List.drop_of_length_le (by omega)]at h1
    simp only[splitW,List.append_nil]at h1
    rw[rowU,h1,natsL_ints]
   (repeat'(first|(with_reducible refine Kp_atQ 19 ?_)|refine Ctl ?_|((with_reducible refine Kof.use hK ?_);clear hK hE K E)|((with_reducible refine W_cond (fun h=>?_) (fun h=>?_))<;>(try(exfalso;omega)))|(((with_reducible refine G_region fun K E hK hE=>?_))<;>(try simp(disch:=omega) only[go_sem,seval, *]))))
   unfold StopQ
   refine Kp_wkt 16 (x:=.lst (natsL rw_) o) (y:=.lst (natsL rw_) .no) (z_sl) (Wk.lst _ _) ?_
   refine Kp_forget (s':=u) (Fg.own hO) ?_
   rw[hrw]
   have hadd:=HTK.out
   have HH:=Lib.hid hadd
   have hrl1:∀y:List VV,y=[.lst (intsL (rowU wd m0)) .no]→y.length=1:=fun y hy=>by rw[hy];rfl
   clear HE hrw hO p2 hadd HTK
   rcases HO.out with ⟨h0,hO0,hu,hx0⟩|⟨h0,g,hg,hu,hx0⟩
   ·subst hu hx0 h0
    rw[hO0,List.nil_append]at HH
    clear HO hO0
    generalize hLX:intsL (rowU wd m0)=LX at *
    have HLX:=Lib.hid hLX
    clear hLX
    (repeat'(first|refine Ctl ?_|((with_reducible refine Kof.use hK ?_);clear hK hE K E)|((first|(with_reducible refine G_region fun K E hK hE=>?_)|((with_reducible refine W_app0 (fun bM hM=>?_))))<;>(try simp(disch:=omega) only[go_sem,seval,Nat.mul_one, *]))))
    refine⟨_,Fg.refl _,m - 1,by omega,0+1,_,by omega,by omega,Lib.hid (.inr ⟨by omega,bM,hM,?_,?_⟩),z_sl,z_sl,z_sl,z_sl,z_sl,z_sl⟩
    ·rw[HH.out,← HLX.out];rfl
    ·rw[HH.out];rfl
   ·subst hu hx0
    have hrlen:((SV.take j).map (rowU wd)).length=j:=by rw[List.length_map,List.length_take];omega
    have hxl:(((SV.take j).map (rowU wd)).map rowV).length=j:=by rw[List.length_map,hrlen]
    have hsg:s.set g .free=s:=St.set_self _ _ _ hg
    have hap:((SV.take (j+1)).map (rowU wd)).map rowV=((SV.take j).map (rowU wd)).map rowV++[.lst (intsL (rowU wd m0)) .no]:=by rw[HH.out,List.map_append];rfl
    have hapl:((SV.take (j+1)).map (rowU wd)).length=j+1:=by rw[List.length_map,List.length_take];omega
    have HAP:=Lib.hid (And.intro hap hapl)
    clear hap hapl HO HH huco
    rw[hrlen]at e13
    generalize intsL (rowU wd m0)=LX at *
    generalize ((SV.take j).map (rowU wd)).map rowV=XR at *
    clear hrlen
    (repeat'(first|refine Ctl ?_|((with_reducible refine Kof.use hK ?_);clear hK hE K E)|((first|(with_reducible refine G_region fun K E hK hE=>?_)|((with_reducible refine W_appM (fun bM hM=>?_))))<;>(try simp(disch:=omega) only[go_sem,seval,Nat.mul_one,hxl,hsg,St.set_set, *]))))
    exact⟨_,Fg.refl _,m - 1,by omega,j+1,_,by omega,by omega,Lib.hid (.inr ⟨by omega,bM,hM,by rw[HAP.out.1];rfl,by rw[HAP.out.2]⟩),z_sl,z_sl,z_sl,z_sl,z_sl,z_sl⟩
 ·have hjc:j=SV.length:=by omega
  subst hjc
  have hall:(SV.take SV.length).map (rowU wd)=TR:=by rw[List.take_length];exact HTR.out.symm
  have ho:=HO.out
  rw[hall]at ho
  clear HO
  rcases ho with ⟨h0,hO0,hu,hx0⟩|⟨h0,g,hg,hu,hx0⟩
  ·subst hu hx0
   have wz:=Sort0_S u []
   have HTN:=Lib.hid hO0
   clear hO0
   (repeat'(first|(with_reducible refine Kp_atQ 22 ?_)|refine Ctl ?_|((with_reducible refine Kof.use hK ?_);clear hK hE K E)|((with_reducible refine W_cond (fun h=>?_) (fun h=>?_))<;>(try(exfalso;assumption)))|(((with_reducible first|refine G_region fun K E hK hE=>?_|refine call_ret can34 (wz) ?_))<;>(try simp(disch:=omega) only[go_sem,seval, *]))))
   unfold StopQ
   refine Kp_wkt 13 (x:=.raw (.slice none 0 0)) (y:=.lst [] .no) (z_sl) Wk.rawnil ?_
   (repeat'(first|refine Ctl ?_|((with_reducible refine Kof.use hK ?_);clear hK hE K E)|(((with_reducible refine G_region fun K E hK hE=>?_))<;>(try simp(disch:=omega) only[go_sem,seval, *]))))
   all_goals(refine W_ret res13 hQ ?_)
   rw[HTN.out]
   exact⟨_,_,Wk.refl _,Fg.refl _,rfl,rfl⟩
  ·subst hu hx0
   have hTRl:TR.length=SV.length:=by rw[HTR.out,List.length_map]
   have hpm:(sortR TR).length=TR.length:=((List.perm_ext_iff_of_nodup (sortR_rising TR).nodup HND.out).2 fun r=>sortR_mem).length_eq
   have wz:=Sort_S TR g 34 (by omega) HND.out (fun r hr=>by
    rw[HTR.out]at hr
    obtain⟨z,_,rfl⟩:=List.mem_map.1 hr
    rw[rowT_len,hwl]
    omega) (s.set g (.row 34 1 (TR.map rowV))) (St.set_same _ _ _)
   rw[St.set_set]at wz
   have hsg:s.set g .free=s:=St.set_self _ _ _ hg
   have hfz:((sortR TR).map rowV).map (fun y=>[y])=rwsC (sortR TR):=by simp[rwsC,Function.comp]
   have hil:((sortR TR).map rowV).length=TR.length:=by rw[List.length_map,hpm]
   clear hpm hTRl hall
   generalize TR.map rowV=OX at *
   generalize TR.length=ol at *
   generalize (sortR TR).map rowV=SX at *
   generalize rwsC (sortR TR)=RS at *
   (repeat'(first|(with_reducible refine Kp_atQ 22 ?_)|refine Ctl ?_|((with_reducible refine Kof.use hK ?_);clear hK hE K E)|((with_reducible refine W_cond (fun h=>?_) (fun h=>?_))<;>(try(exfalso;assumption)))|(((with_reducible first|refine G_region fun K E hK hE=>?_|refine call_ret can34 (wz) ?_))<;>(try simp(disch:=omega) only[go_sem,seval, *]))))
   unfold StopQ
   refine Kp_frzR 13 g ol (St.set_same _ _ _) (z_sl) hil ?_
   rw[hfz,St.set_set,hsg]
   (repeat'(first|refine Ctl ?_|((with_reducible refine Kof.use hK ?_);clear hK hE K E)|(((with_reducible refine G_region fun K E hK hE=>?_))<;>(try simp(disch:=omega) only[go_sem,seval, *]))))
   all_goals(refine W_ret res13 hQ ?_)
   exact⟨_,_,Wk.refl _,Fg.refl _,rfl,rfl⟩
end Go.Proofs.YtndlnadbnganeaaGreatDoor
namespace Go.Proofs.YtndlnadbnganeaaGreatDoor
open Go.RowKit
def nameB (l:List UInt8):Bool:=(decide (l≠[]) && decide (l.length≤16)) && l.all alnB
theorem odd_high {c:Nat}(h:128≤c):oddB c=true:=by
 simp only[oddB,Bool.and_eq_true,Bool.or_eq_true,decide_eq_true_eq]
 omega
theorem idx_from (s:ByteArray):∀(f pos:Nat),s.size - pos≤f→(Lib.idxFuncFrom oddB true s f pos<0↔∀(j:Nat) (b:UInt8),pos≤j→s.data.toList[j]?=some b→alnB b=true)
 |0,pos,h=>by
  have hsz:s.data.toList.length=s.size:=by rw[Array.length_toList];rfl
  constructor
  ·intro _ j b hj hb
   have:=(List.getElem?_eq_some_iff.1 hb).1
   omega
  ·intro _;unfold Lib.idxFuncFrom;omega
 |f+1,pos,h=>by
  have hsz:s.data.toList.length=s.size:=by rw[Array.length_toList];rfl
  unfold Lib.idxFuncFrom
  by_cases hp:pos<s.size
  ·rw[if_pos hp]
   have hb:s.data.toList[pos]?=some (s[pos]'hp):=by
    rw[List.getElem?_eq_getElem (by omega)]
    rfl
   by_cases hhi:128≤(s[pos]'hp).toNat
   ·obtain⟨h1,h2⟩:=_root_.Go.decode_high s pos hp hhi
    rw[if_pos (odd_high h1)]
    constructor
    ·intro h;omega
    ·intro h
     have:=h pos _ (Nat.le_refl _) hb
     simp only[alnB,odd_high hhi]at this
     cases this
   ·have hd:=_root_.Go.decode_ascii s pos hp (by omega)
    rw[hd]
    by_cases ho:oddB (s[pos]'hp).toNat=true
    ·rw[if_pos ho]
     constructor
     ·intro h;omega
     ·intro h
      have:=h pos _ (Nat.le_refl _) hb
      simp only[alnB,ho]at this
      cases this
    ·rw[if_neg ho,idx_from s f (pos+1) (by omega)]
     constructor
     ·intro h j b hj hjb
      by_cases e:j=pos
      ·subst e
       rw[hb]at hjb
       injection hjb with hjb
       subst hjb
       simp only[alnB]
       simpa using ho
      ·exact h j b (by omega) hjb
     ·intro h j b hj hjb
      exact h j b (by omega) hjb
  ·rw[if_neg hp]
   constructor
   ·intro _ j b hj hb
    have:=(List.getElem?_eq_some_iff.1 hb).1
    omega
   ·intro _;omega
theorem idx_neg (l:List UInt8):Lib.idxFunc oddB true ⟨l.toArray⟩<0↔l.all alnB=true:=by
 unfold Lib.idxFunc
 rw[idx_from _ _ _ (by omega),List.all_eq_true]
 constructor
 ·intro h b hb
  obtain⟨j,hj⟩:=List.mem_iff_getElem?.1 hb
  exact h j b (Nat.zero_le _) (by simpa using hj)
 ·intro h j b _ hj
  exact h b (List.mem_of_getElem? (by simpa using hj))
theorem IdxF_S (s:St)(l:List UInt8):SRet Tryz.prog 146 [.str l,.fn 145 []] s (.int .i64 (Lib.idxFunc oddB true ⟨l.toArray⟩)) s:=by
 intro w0 G w vs hS hA
 obtain⟨v1,v2,rfl,r1,r2⟩:=RL_two hA
 cases r1 with
 |str a=>
 cases r2 with
 |fn f vs xs hs hR=>
 have hv:vs=#[]:=by
  have:vs.size=0:=hs
  exact Array.eq_empty_of_size_eq_zero this
 subst hv
 refine(idx_odd ⟨a⟩ w).mono ?_
 rintro e w' ⟨rfl,hb⟩
 exact⟨G,s,.ret (.int .i64 (Lib.idxFunc oddB true ⟨a⟩)),Gh.le.refl G,hS.world hb,.int _ _,by simp,rfl⟩
set_option maxHeartbeats 2000000 in
theorem Lname_S (s:St)(l:List UInt8):SRet Tryz.prog 127 [.str l] s (.bool (nameB l)) s:=by
 have w1:=IdxF_S s l
 have h1:=idx_neg l
 generalize Lib.idxFunc oddB true ⟨l.toArray⟩=ix at *
 unfold nameB
 have h2:l.all alnB=decide (ix<0):=by
  by_cases e:ix<0
  ·rw[h1.1 e];simp[e]
  ·have:l.all alnB≠true:=fun h=>e (h1.2 h)
   simp only[Bool.not_eq_true]at this
   rw[this];simp[e]
 rw[h2]
 clear h1 h2
 by_cases h3:l=[]
 ·subst h3
  refine G_enter Tryz.func127 rfl Tryz.ntmps127 rfl fun Q hQ hQe=>?_
  (repeat'(first|refine Ctl ?_|((with_reducible refine Kof.use hK ?_);clear hK hE K E)|(((with_reducible refine G_region fun K E hK hE=>?_))<;>(try simp(disch:=omega) only[go_sem,seval, *]))))
  all_goals(refine W_ret res127 hQ ?_)
  all_goals exact⟨_,_,Wk.refl _,Fg.refl _,rfl,rfl⟩
 ·by_cases h4:l.length≤16
  ·have h4':((l.length:Nat):Int)≤16:=by omega
   have e3:decide (l≠[])=true:=decide_eq_true h3
   have e4:decide (l.length≤16)=true:=decide_eq_true h4
   rw[e3,e4]
   clear e3 e4 h4
   refine G_enter Tryz.func127 rfl Tryz.ntmps127 rfl fun Q hQ hQe=>?_
   (repeat'(first|refine Ctl ?_|((with_reducible refine Kof.use hK ?_);clear hK hE K E)|(((with_reducible first|refine G_region fun K E hK hE=>?_|refine call_ret can146 (w1) ?_))<;>(try simp(disch:=omega) only[go_sem,seval,h3,h4', *]))))
   all_goals(refine W_ret res127 hQ ?_)
   all_goals exact⟨_,_,Wk.refl _,Fg.refl _,by simp,rfl⟩
  ·have h4':¬ ((l.length:Nat):Int)≤16:=by omega
   have e3:decide (l≠[])=true:=decide_eq_true h3
   have e4:decide (l.length≤16)=false:=decide_eq_false h4
   rw[e3,e4]
   clear e3 e4 h4
   refine G_enter Tryz.func127 rfl Tryz.ntmps127 rfl fun Q hQ hQe=>?_
   (repeat'(first|refine Ctl ?_|((with_reducible refine Kof.use hK ?_);clear hK hE K E)|(((with_reducible refine G_region fun K E hK hE=>?_))<;>(try simp(disch:=omega) only[go_sem,seval,h3,h4', *]))))
   all_goals(refine W_ret res127 hQ ?_)
   all_goals exact⟨_,_,Wk.refl _,Fg.refl _,by simp,rfl⟩
def halvF:Nat→Nat→Nat
 |0,_=>0
 |f+1,m=>if m=0 then 0 else halvF f (m / 2)+1
theorem halvF_le:∀(f m:Nat),halvF f m≤f
 |0,_=>Nat.le_refl _
 |f+1,m=>by
  unfold halvF
  split
  ·omega
  ·have:=halvF_le f (m / 2);omega
theorem halvF_pow:∀(f m:Nat),m<2 ^ f→m<2 ^ halvF f m
 |0,m,h=>h
 |f+1,m,h=>by
  unfold halvF
  split
  ·omega
  ·have:=halvF_pow f (m / 2) (by rw[Nat.pow_succ]at h;omega)
   rw[Nat.pow_succ]
   omega
def widthN (n:Nat):Nat:=halvF 62 (n - 1)
attribute [-go_sem] p_and p_or p_shl p_shr
set_option maxHeartbeats 2000000 in
theorem Bwidth_S (s:St)(n:Int):SRet Tryz.prog 126 [.int .i64 n] s (.tup (if 1≤n∧n≤4611686018427387903 then [.int .i64 (widthN n.toNat:Nat),.int .i64 0] else [.int .i64 0,.int .i64 1])) s:=by
 by_cases h1:n<1
 ·rw[if_neg (by omega)]
  refine G_enter Tryz.func126 rfl Tryz.ntmps126 rfl fun Q hQ hQe=>?_
  (repeat'(first|refine Ctl ?_|((with_reducible refine Kof.use hK ?_);clear hK hE K E)|((with_reducible refine W_cond (fun h=>?_) (fun h=>?_))<;>(try(exfalso;assumption)))|(((with_reducible refine G_region fun K E hK hE=>?_))<;>(try simp(disch:=omega) only[go_sem,seval,h1, *]))))
  all_goals(refine W_ret res126 hQ ?_)
  all_goals exact⟨_,_,Wk.refl _,Fg.refl _,rfl,rfl⟩
 ·by_cases h2:n > 4611686018427387903
  ·rw[if_neg (by omega)]
   refine G_enter Tryz.func126 rfl Tryz.ntmps126 rfl fun Q hQ hQe=>?_
   (repeat'(first|refine Ctl ?_|((with_reducible refine Kof.use hK ?_);clear hK hE K E)|((with_reducible refine W_cond (fun h=>?_) (fun h=>?_))<;>(try(exfalso;assumption)))|(((with_reducible refine G_region fun K E hK hE=>?_))<;>(try simp(disch:=omega) only[go_sem,seval,h1,h2, *]))))
   all_goals(refine W_ret res126 hQ ?_)
   all_goals exact⟨_,_,Wk.refl _,Fg.refl _,rfl,rfl⟩
  ·rw[if_pos (by omega)]
   obtain⟨m,rfl⟩:∃m:Nat,n=((m+1:Nat):Int):=⟨n.toNat - 1,by omega⟩
   have e0:widthN (((m+1:Nat):Int)).toNat=halvF 62 m:=by simp[widthN]
   rw[e0]
   clear e0
   have hm:m<2 ^ 62:=by omega
   have e1:(((m+1:Nat):Int)) - 1=(m:Int):=by omega
   have hH:Hid (∃f:Nat,f≤62):=Lib.hid ⟨62,by omega⟩
   obtain⟨R,hR⟩:∃R,halvF 62 m=R:=⟨_,rfl⟩
   rw[hR]
   have hR2:Hid (halvF 62 m+0=R):=Lib.hid hR
   have HRl:=Lib.hid (show R≤62 by rw[← hR];exact halvF_le _ _)
   clear hR
   refine G_enter Tryz.func126 rfl Tryz.ntmps126 rfl fun Q hQ hQe=>?_
   (repeat'(first|refine Ctl ?_|((with_reducible refine Kof.use hK ?_);clear hK hE K E)|((with_reducible refine W_cond (fun h=>?_) (fun h=>?_))<;>(try(exfalso;assumption)))|(((with_reducible refine G_region fun K E hK hE=>?_))<;>(try simp(disch:=omega) only[go_sem,seval,h1,h2,e1, *]))))
   refine L_loop (fun fu env s'=>∃(k w:Nat),Hid (halvF fu k+w=R∧k<2 ^ fu)∧fu≤62∧s'=s∧env 4=.int .i64 w∧env 5=.int .i64 k) 62 ⟨m,0,Lib.hid ⟨hR2.out,hm⟩,by omega,rfl,z_sl,z_sl⟩ ?_
   clear hm h1 h2 e1 hR2 hH
   rintro fu env s' ⟨k,w,HH,hfu,rfl,e4,e5⟩
   have hRl:=HRl.out
   obtain⟨a1,a2⟩:=HH.out
   by_cases hk:k=0
   ·subst hk
    have hw:w=R:=by
     cases fu with
     |zero=>simpa [halvF]using a1
     |succ f=>simpa [halvF]using a1
    subst hw
    (repeat'(first|refine Ctl ?_|((with_reducible refine Kof.use hK ?_);clear hK hE K E)|((with_reducible refine W_cond (fun h=>?_) (fun h=>?_))<;>(try(exfalso;assumption)))|(((with_reducible refine G_region fun K E hK hE=>?_))<;>(try simp(disch:=omega) only[go_sem,seval, *]))))
    all_goals(refine W_ret res126 hQ ?_)
    all_goals exact⟨_,_,Wk.refl _,Fg.refl _,rfl,rfl⟩
   ·cases fu with
    |zero=>exact absurd a2 (by simpa using hk)
    |succ f=>
     have a3:halvF f (k / 2)+(w+1)=R:=by
      simp only[halvF,if_neg hk]at a1
      omega
     have a4:k / 2<2 ^ f:=by rw[Nat.pow_succ]at a2;omega
     have hwl:w+1≤62:=by omega
     have hk62:k<2 ^ 62:=Nat.lt_of_lt_of_le a2 (Nat.pow_le_pow_right (by omega) hfu)
     have hsh:=shr_div (m:=k) (w:=1) hk62 (by omega)
     have hkp:(k:Int) > 0:=by omega
     have hkp2:(0:Int)<(k:Int):=by omega
     rw[Nat.pow_one]at hsh
     have hsh:vint .shr .i64 (k:Int) 1=some (.int .i64 ((k / 2:Nat):Int)):=hsh
     have hfd:(k:Int).fdiv (2 ^ min (Int.toNat 1) IntKind.i64.bits)=((k / 2:Nat):Int):=by
      have:vint .shr .i64 (k:Int) 1=some (.int .i64 ((k:Int).fdiv (2 ^ min (Int.toNat 1) IntKind.i64.bits))):=rfl
      rw[this]at hsh
      injection hsh with hsh
      injection hsh with _ hsh
     have H2:=Lib.hid (And.intro a3 a4)
     have hk2:k / 2≤k:=Nat.div_le_self _ _
     clear a1 a2 a3 a4 HH
     generalize k / 2=kk at *
     (repeat'(first|refine Ctl ?_|((with_reducible refine Kof.use hK ?_);clear hK hE K E)|((with_reducible refine W_cond (fun h=>?_) (fun h=>?_))<;>(try(exfalso;assumption)))|(((with_reducible refine G_region fun K E hK hE=>?_))<;>(try simp(disch:=omega) only[go_sem,seval,hkp,hkp2,hsh,hfd, *]))))
     all_goals exact⟨f,by omega,kk,w+1,H2,by omega,rfl,z_sl,z_sl⟩
end Go.Proofs.YtndlnadbnganeaaGreatDoor
