/- Walks of functions that the claim reaches, and plain facts of them. Conditions: those in the statements. -/
import Derived.Test.YtndlnadbnganeaaGreatDoorJjRzj
set_option linter.unusedSimpArgs false
set_option linter.unusedVariables false
set_option maxRecDepth 100000
namespace Go.Proofs.YtndlnadbnganeaaGreatDoor
open Go.RowKit
attribute [-go_sem] p_and p_or p_shl p_shr
set_option maxHeartbeats 16000000 in
theorem CodeRanges_S (s:St)(a a2 od lo hi:Int):SRet Tryz.prog 3 [.agg [.int .i64 a,.int .i64 a2],.int .i64 od,.agg [.int .i64 lo,.int .i64 hi]] s (.bool true) s:=by
 have w3:=fun s=>Cthree_S s a a2 od
 have wa:=Cawake_S
 have W3:=Lib.hid w3
 have WA:=Lib.hid wa
 clear w3 wa
 refine G_enter Tryz.func3 rfl Tryz.ntmps3 rfl fun Q hQ hQe=>?_
 (repeat'(first|refine Ctl ?_|((with_reducible refine Kof.use hK ?_);clear hK hE K E)|((first|(with_reducible refine G_region fun K E hK hE=>?_)|((with_reducible refine W_fresh (fun b hb=>?_));(repeat(obtain⟨_,hb⟩:=hb))))<;>(try simp(disch:=omega) only[go_sem,seval, *]))))
 rename_i b3 hb3 _ _
 obtain⟨b5,hb5⟩:∃z,z=b:=⟨_,rfl⟩
 subst hb5
 have hsb5:s b5=.free:=by assumption
 obtain⟨u0,hu0⟩:∃u,u=(s.set b3 (.obj 22 [.int .i64 a,.int .i64 a2])).set b5 (.obj 22 [.int .i64 lo,.int .i64 hi]):=⟨_,rfl⟩
 rw[← hu0]
 have g5:u0 b5=.obj 22 [.int .i64 lo,.int .i64 hi]:=by rw[hu0,St.set_same]
 have g0:∀z,s z≠.free→u0 z=s z:=fun z hz=>by rw[hu0,St.set_other _ _ (nef hsb5 hz).1,St.set_other _ _ (nef hb3 hz).1]
 obtain⟨x,y,hx,hy,ex,ey,w3⟩:=W3.out u0
 refine call_ex can10 w3 (fun z h=>?_)
 obtain⟨u1,KK,q,c⟩:=z
 obtain⟨o,hD,hL,hC,hF⟩:=h
 dsimp only at hC hF ⊢
 have k5:u1 b5=.obj 22 [.int .i64 lo,.int .i64 hi]:=by rw[(hF b5 (by rw[g5];simp)).1,g5]
 have hfs:∀z,s z≠.free→u1 z=s z∧¬ KK.has z:=fun z hz=>by
  have:=hF z (by rw[g0 z hz];exact hz)
  exact⟨this.1.trans (g0 z hz),this.2⟩
 have hol:o.length=3:=by have:=congrArg List.length hL;simpa using this
 have hat:o[2]?=some (o.getD 2 []):=by rw[List.getD_eq_getElem?_getD,List.getElem?_eq_getElem (by omega)];rfl
 have hla:(o.getD 2 []).length=widthN (1+y):=by
  have h1:(o.map (·.length))[2]?=some (o.getD 2 []).length:=by rw[List.getElem?_map,hat];rfl
  rw[hL]at h1
  simp at h1
  exact h1.symm
 have hds:(dsT x y)[2]?=some ([67],1+y):=rfl
 have hdC:(domsC (dsT x y))[2]?=some [.str [67],.int .i64 ((1+y:Nat):Int)]:=domsC_at hds
 by_cases hbad:lo<0∨((1+y:Nat):Int)≤lo∨hi<0∨((1+y:Nat):Int)≤hi
 ·have wr:=Crng0_S hC hds (.inl hbad)
  rw[if_pos hbad]at wr
  have wa:=WA.out u1
  have hfg:Fg u1 s:=fun z=>by
   by_cases hz:s z=.free
   ·exact .inl hz
   ·exact .inr (hfs z hz).1.symm
  have HFG:=Lib.hid hfg
  clear w3 g5 g0 hu0 hF hfs hol hat hla hds hL hC hD hb hsb5 hb3 hfg
  generalize domsC (dsT x y)=DC at *
  simp only[go_sem,seval]
  have HBAD:=Lib.hid hbad
  clear hbad
  by_cases c1:lo<0
  ·(repeat'(first|refine Ctl ?_|(with_reducible first|(refine Kof.use hK ?_;clear hK hE K E)|(refine Kof.use hKh ?_;clear hKh Kh)|refine G_plan 5 [] [0,1,2,3,4,5,6,7,8,9,10,11,12,13,14,15,16,17,18,19,20,21,22,23,24,25] hQe fun K E hK hE=>?_)|((with_reducible refine W_cond (fun h=>?_) (fun h=>?_))<;>(try(exfalso;assumption)))|(((with_reducible first|refine G_region fun K E hK hE=>?_|refine call_ret can11 (wr) ?_|refine call_ret can12 (wa) ?_|refine P_fin fun Kh hKh=>?_))<;>(try simp(disch:=omega) only[go_sem,seval,c1,hdC, *]))))
   all_goals(refine W_ret res3 hQ ?_)
   all_goals exact⟨_,_,Wk.refl _,HFG.out,rfl,rfl⟩
  ·by_cases c2:((1+y:Nat):Int)≤lo
   ·(repeat'(first|refine Ctl ?_|(with_reducible first|(refine Kof.use hK ?_;clear hK hE K E)|(refine Kof.use hKh ?_;clear hKh Kh)|refine G_plan 5 [] [0,1,2,3,4,5,6,7,8,9,10,11,12,13,14,15,16,17,18,19,20,21,22,23,24,25] hQe fun K E hK hE=>?_)|((with_reducible refine W_cond (fun h=>?_) (fun h=>?_))<;>(try(exfalso;assumption)))|(((with_reducible first|refine G_region fun K E hK hE=>?_|refine call_ret can11 (wr) ?_|refine call_ret can12 (wa) ?_|refine P_fin fun Kh hKh=>?_))<;>(try simp(disch:=omega) only[go_sem,seval,c1,c2,hdC, *]))))
    all_goals(refine W_ret res3 hQ ?_)
    all_goals exact⟨_,_,Wk.refl _,HFG.out,rfl,rfl⟩
   ·by_cases c3:hi<0
    ·(repeat'(first|refine Ctl ?_|(with_reducible first|(refine Kof.use hK ?_;clear hK hE K E)|(refine Kof.use hKh ?_;clear hKh Kh)|refine G_plan 5 [] [0,1,2,3,4,5,6,7,8,9,10,11,12,13,14,15,16,17,18,19,20,21,22,23,24,25] hQe fun K E hK hE=>?_)|((with_reducible refine W_cond (fun h=>?_) (fun h=>?_))<;>(try(exfalso;assumption)))|(((with_reducible first|refine G_region fun K E hK hE=>?_|refine call_ret can11 (wr) ?_|refine call_ret can12 (wa) ?_|refine P_fin fun Kh hKh=>?_))<;>(try simp(disch:=omega) only[go_sem,seval,c1,c2,c3,hdC, *]))))
     all_goals(refine W_ret res3 hQ ?_)
     all_goals exact⟨_,_,Wk.refl _,HFG.out,rfl,rfl⟩
    ·have c4:((1+y:Nat):Int)≤hi:=by rcases HBAD.out with h|h|h|h<;>first|exact h|exact absurd h c1|exact absurd h c2|exact absurd h c3
     (repeat'(first|refine Ctl ?_|(with_reducible first|(refine Kof.use hK ?_;clear hK hE K E)|(refine Kof.use hKh ?_;clear hKh Kh)|refine G_plan 5 [] [0,1,2,3,4,5,6,7,8,9,10,11,12,13,14,15,16,17,18,19,20,21,22,23,24,25] hQe fun K E hK hE=>?_)|((with_reducible refine W_cond (fun h=>?_) (fun h=>?_))<;>(try(exfalso;assumption)))|(((with_reducible first|refine G_region fun K E hK hE=>?_|refine call_ret can11 (wr) ?_|refine call_ret can12 (wa) ?_|refine P_fin fun Kh hKh=>?_))<;>(try simp(disch:=omega) only[go_sem,seval,c1,c2,c3,c4,hdC, *]))))
     all_goals(refine W_ret res3 hQ ?_)
     all_goals exact⟨_,_,Wk.refl _,HFG.out,rfl,rfl⟩
 ·obtain⟨l,rfl⟩:∃l:Nat,lo=(l:Int):=⟨lo.toNat,by omega⟩
  obtain⟨m,rfl⟩:∃m:Nat,hi=(m:Int):=⟨hi.toNat,by omega⟩
  have hl2:l<1+y:=by omega
  have hm2:m<1+y:=by omega
  have hw5:=wid_lt hy
  have hwp:=wid_pow hy
  have hcn:CntN [.lf false,.lf true] 2:=⟨_,Nat.le_refl _,fun t h=>h⟩
  have hp4:2 ^ (o.getD 2 []).length≤2 ^ 4:=Nat.pow_le_pow_right (by omega) (by omega)
  have wr:∃N',OpFC 11 [.ptr c 0,.int .i64 ((2:Nat):Int),.int .i64 l,.int .i64 m] u1 KK 12 16384 [.lf false,.lf true] N' (btwF (o.getD 2 []) l m):=by
   by_cases hlm:l≤m
   ·refine⟨_,Crng_S (N:=2) hC hD hds hat ?_ ?_ hcn ?_⟩
    ·exact hlm
    ·exact hm2
    ·have:(2 * (o.getD 2 []).length+1) * 2 ^ (o.getD 2 []).length≤9 * 2 ^ 4:=Nat.mul_le_mul (by omega) hp4
     omega
   ·have e:btwF (o.getD 2 []) l m=fun _=>false:=by
     funext x
     simp only[btwF,Bool.and_eq_false_iff,decide_eq_false_iff_not]
     omega
    have w:=Crng0_S (lo:=(l:Int)) (hi:=(m:Int)) hC hds (.inr (by omega))
    rw[if_neg (by omega)]at w
    have c0:=hC.om.c0.1
    refine⟨2,?_⟩
    rw[e]
    refine SCalls.mono (h:=w) ?_
    rintro w u ⟨rfl,rfl⟩
    exact⟨(u,KK,[.lf false,.lf true]),by dsimp only;rw[c0.2];rfl,rfl,⟨hC.om,⟨[],by simp⟩,c0.1,hcn,.refl _ _⟩⟩
  obtain⟨N',wr⟩:=wr
  have hrow:=rng_rows (n:=12) (lo:=l) (hi:=m) hD (a:=2) (by simp[dsT]) (by rw[hla];omega)
  have hks:∀k,k∈[2]→k<(dsT x y).length:=fun k hk=>by simp at hk;rw[hk];simp[dsT]
  have hv4:(varsOf o [2]).length≤4:=by rw[varsOf_one,hla];omega
  have hg:DepF (varsOf o [2]) (btwF (o.getD 2 []) l m):=by rw[varsOf_one];exact btwF_dep _ _ _
  have hoc:=occ_tree (n:=12) (varsOf_lt hD hks) hg
  have hrl:(rngL l m).length=m+1 - l:=by simp[rngL]
  have hlen:(tupR (treeT 12 (btwF (o.getD 2 []) l m)) o [2]).length≤16:=by
   have e1:=((List.perm_ext_iff_of_nodup (sortR_rising (tupR (treeT 12 (btwF (o.getD 2 []) l m)) o [2])).nodup (tupR_nodup _ _ _)).2 fun r=>sortR_mem).length_eq
   rw[← e1,hrow,hrl]
   omega
  have wt:=fun(u:St) (KK':OB) (ns:List Tr) (h1:CMem u KK' q c 12 16384 ns (dsT x y) o) (h2:treeT 12 (btwF (o.getD 2 []) l m)∈ns)=>Ctuples_S h1 hD (by omega) [2] .full hks (by simp) (by decide) h2 hoc (by omega) (most:=16) (by omega) hlen
  rw[hrow]at wt
  have hkeep:=fun(u:St) (K':OB) (ns:List Tr) (h1:OMem u K' 12 16384 ns) (h2:OKeep u1 u KK K')=>hC.keep h1 h2
  have hty5:¬ KK.has b5:=hC.om.types k5 (by decide) (by decide) (by decide)
  have hrok:RowsOk (rngL l m):=⟨by rw[hrl];omega,fun r hr=>by simp only[rngL,List.mem_map]at hr;obtain⟨v,_,rfl⟩:=hr;simp⟩
  have hsame:=fun(u:St) (ow:Own)=>SameRowsF_S (rngL l m) (rngL l m) .no .full ow hrok hrok u
  rw[decide_eq_true rfl]at hsame
  have WT:=Lib.hid wt
  have HKEEP:=Lib.hid hkeep
  have HFS:=Lib.hid hfs
  have HS:=Lib.hid hsame
  unfold OpFC at wr
  clear hrow hks hv4 hg hoc hlen wt hkeep hfs hsame hC hD hL hol hla hat hcn hds hp4 hwp hw5 hbad w3 g5 g0 hu0 hF hb hsb5 hb3 hrok
  generalize domsC (dsT x y)=DC at *
  simp only[go_sem,seval]
  (repeat'(first|refine Ctl ?_|((with_reducible refine Kof.use hK ?_);clear hK hE K E)|((with_reducible refine W_cond (fun h=>?_) (fun h=>?_))<;>(try(exfalso;assumption)))|(((with_reducible refine G_region fun K E hK hE=>?_))<;>(try simp(disch:=omega) only[go_sem,seval, *]))))
  refine call_ex can11 wr (fun a h=>?_)
  obtain⟨u2,K2,ns2⟩:=a
  have hm:=h.m
  have hk:=h.k
  have hmem:=h.mem
  dsimp only at hm hk hmem
  have wt:SRet Tryz.prog 13 [.ptr c 0,.int .i64 ((ixF 12 ns2 (btwF (o.getD 2 []) l m):Nat):Int),.lst [[.int .i64 2]] .full,.int .i64 16] u2 _ u2:=WT.out u2 K2 ns2 (HKEEP.out u2 K2 ns2 hm hk) hmem
  have p5:u2 b5=.obj 22 [.int .i64 l,.int .i64 m]:=by rw[hk.out b5 (by rw[k5];simp) hty5,k5]
  have hf5:u2 b5≠.free:=by rw[p5];simp
  have hfg:Fg u2 s:=fun z=>by
   by_cases hz:s z=.free
   ·exact .inl hz
   ·obtain⟨e1,e2⟩:=HFS.out z hz
    exact .inr (by rw[← e1];exact(hk.out z (by rw[e1];exact hz) e2).symm)
  have HFG:=Lib.hid hfg
  clear h hm hk hmem hfg wr k5
  dsimp only
  generalize ixF 12 ns2 (btwF (o.getD 2 []) l m)=kz at *
  have HRL:=Lib.hid hrl
  have hWL:∃WL,WL=rwsC (rngL l m):=⟨_,rfl⟩
  obtain⟨WL,hWL⟩:=hWL
  rw[← hWL]at wt
  have HWL:=Lib.hid hWL
  clear hWL hrl
  have c1:¬ (l:Int)<0:=by omega
  have c2:¬ ((1+y:Nat):Int)≤(l:Int):=by omega
  have c3:¬ (m:Int)<0:=by omega
  have c4:¬ ((1+y:Nat):Int)≤(m:Int):=by omega
  simp only[go_sem,seval]
  (repeat'(first|refine Ctl ?_|(with_reducible first|(refine Kof.use hK ?_;clear hK hE K E)|(refine Kof.use hKh ?_;clear hKh Kh)|refine G_plan 5 [] [0,1,2,3,4,5,6,7,8,9,10,11,12,13,14,15,16,17,18,19,20,21,22,23,24,25] hQe fun K E hK hE=>?_)|((with_reducible refine W_cond (fun h=>?_) (fun h=>?_))<;>(try(exfalso;assumption)))|(((with_reducible first|refine G_region fun K E hK hE=>?_|refine P_fin fun Kh hKh=>?_))<;>(try simp(disch:=omega) only[go_sem,seval,c1,c2,c3,c4,hdC, *]))))
  refine G_loop (fun f env s'=>∃(i:Nat) (ow:Own),i≤m+1 - l∧f+i=m+1 - l∧OwnOk u2 ow i∧s'=u2.own ow 34 1 i∧env 5=.ptr b5 0∧env 7=.ptr c 0∧env 10=.int .i64 kz∧env 11=.int .i64 0∧env 12=.lst (rwsF ((rngL l m).take i) .full) ow∧env 13=.int .i64 ((l+i:Nat):Int)) (m+1 - l) ?_ ?_
  ·exact⟨_,Fg.refl _,0,.full,by omega,by omega,rfl,rfl,z_sl,z_sl,z_sl,z_sl,by(rw[show rwsF ((rngL l m).take 0) .full=[] from rfl];((try simp(disch:=assumption) only[go_sem,seval, *])<;>rfl)),by(rw[Nat.add_zero];((try simp(disch:=assumption) only[go_sem,seval, *])<;>rfl))⟩
  rintro f env s' ⟨i,ow,hi,hfi,hO,rfl,e5,e7,e10,e11,e12,e13⟩
  have q2:=hO.not hf5
  by_cases h7:i<m+1 - l
  ·have hx:(rngL l m)[i]?=some [((l+i:Nat):Int)]:=by simp[rngL,h7]
   have htk:rwsF ((rngL l m).take (i+1)) .full=rwsF ((rngL l m).take i) .full++[[.lst [[.int .i64 ((l+i:Nat):Int)]] .full]]:=by
    rw[List.take_add_one,hx]
    simp[rwsF,intsL]
   have hln:(rwsF ((rngL l m).take i) .full).length=i:=by
    rw[rwsF,List.length_map,List.length_take,HRL.out];omega
   have HTK:=Lib.hid htk
   have hle:((l+i:Nat):Int)≤(m:Int):=by omega
   have hnx:((l+i:Nat):Int)+1=((l+(i+1):Nat):Int):=by omega
   have hi16:l+i≤16:=by omega
   clear hx htk
   generalize rwsF ((rngL l m).take i) .full=RW at *
   generalize hzv:l+i=zv at *
   obtain⟨zw,hzw⟩:∃zw,zw=l+(i+1):=⟨_,rfl⟩
   rw[← hzw]at hnx
   have HZW:=Lib.hid hzw
   clear hzw
   (repeat'(first|refine Ctl ?_|((with_reducible refine Kof.use hK ?_);clear hK hE K E)|((with_reducible refine W_cond (fun h=>?_) (fun h=>?_))<;>(try(exfalso;assumption)))|((first|(with_reducible refine G_region fun K E hK hE=>?_)|((with_reducible refine W_app (fun o2 ho=>?_));(try simp(disch:=assumption) only[disown_set,disown_own,ownok_o,ownok_m,List.length_map,List.length_cons,List.length_nil,Nat.zero_add,hle,hln,hnx]at ho)))<;>(try simp(disch:=first|assumption|omega) only[go_sem,seval,hle,hln,hnx, *]))))
   all_goals exact⟨_,Fg.refl _,f - 1,by omega,i+1,o2,by omega,by omega,ho,rfl,z_sl,z_sl,z_sl,z_sl,by(rw[HTK.out];((try simp(disch:=assumption) only[go_sem,seval, *])<;>rfl)),by(rw[← HZW.out];((try simp(disch:=assumption) only[go_sem,seval, *])<;>rfl))⟩
  ·have hin:i=m+1 - l:=by omega
   have hall:(rngL l m).take i=rngL l m:=List.take_of_length_le (by rw[HRL.out];omega)
   rw[hall]at e12
   have hgt:¬ ((l+i:Nat):Int)≤(m:Int):=by omega
   have hs:=HS.out u2 ow
   have wa:=WA.out u2
   rw[← HWL.out]at hs
   generalize rwsF (rngL l m) .full=RW at *
   (repeat'(first|(with_reducible refine Kp_atQ 12 ?_)|refine Ctl ?_|((with_reducible refine Kof.use hK ?_);clear hK hE K E)|((with_reducible refine W_cond (fun h=>?_) (fun h=>?_))<;>(try(exfalso;omega)))|(((with_reducible refine G_region fun K E hK hE=>?_))<;>(try simp(disch:=first|assumption|omega) only[go_sem,seval,hgt, *]))))
   unfold StopQ
   refine Kp_forget (s':=u2) (Fg.own hO) ?_
   (repeat'(first|refine Ctl ?_|((with_reducible refine Kof.use hK ?_);clear hK hE K E)|(((with_reducible first|refine G_region fun K E hK hE=>?_|refine call_ret can13 (wt) ?_|refine call_ret can14 (hs) ?_|refine call_ret can12 (wa) ?_))<;>(try simp(disch:=omega) only[go_sem,seval, *]))))
   all_goals(refine W_ret res3 hQ ?_)
   exact⟨_,_,Wk.refl _,HFG.out,rfl,rfl⟩
end Go.Proofs.YtndlnadbnganeaaGreatDoor
