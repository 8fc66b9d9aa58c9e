/- Walks of functions that the claim reaches, and plain facts of them. Conditions: those in the statements. -/
import Derived.Test.YtndlnadbnganeaaGreatDoorJjRzj
import Derived.Test.YtndlnadbnganeaaGreatDoorJjSk
set_option linter.unusedSimpArgs false
set_option linter.unusedVariables false
set_option maxRecDepth 100000
namespace Go.Proofs.YtndlnadbnganeaaGreatDoor
open Go.RowKit
attribute [-go_sem] p_and p_or p_shl p_shr
set_option maxHeartbeats 16000000 in
theorem CodeAdds_S (s:St)(a a2 od i1 i2 i3:Int):SRet Tryz.prog 7 [.agg [.int .i64 a,.int .i64 a2],.int .i64 od,.agg [.int .i64 i1,.int .i64 i2,.int .i64 i3]] s (.bool true) s:=by
 have w3:=fun s=>Cthree_S s a a2 od
 have wa:=Cawake_S
 have W3:=Lib.hid w3
 have WA:=Lib.hid wa
 clear w3 wa
 obtain⟨n1,hn1,en1⟩:=and3 i1
 obtain⟨n2,hn2,en2⟩:=and3 i2
 refine G_enter Tryz.func7 rfl Tryz.ntmps7 rfl fun Q hQ hQe=>?_
 (repeat'(first|refine Ctl ?_|((with_reducible refine Kof.use hK ?_);clear hK hE K E)|((first|(with_reducible refine G_region fun K E hK hE=>?_)|((with_reducible refine W_fresh (fun b hb=>?_));(repeat(obtain⟨_,hb⟩:=hb))))<;>(try simp(disch:=omega) only[go_sem,seval, *]))))
 rename_i b3 hb3 _ _
 obtain⟨b5,hb5⟩:∃z,z=b:=⟨_,rfl⟩
 subst hb5
 have hsb5:s b5=.free:=by assumption
 obtain⟨u0,hu0⟩:∃u,u=(s.set b3 (.obj 22 [.int .i64 a,.int .i64 a2])).set b5 (.obj 41 [.int .i64 i1,.int .i64 i2,.int .i64 i3]):=⟨_,rfl⟩
 rw[← hu0]
 have g5:u0 b5=.obj 41 [.int .i64 i1,.int .i64 i2,.int .i64 i3]:=by rw[hu0,St.set_same]
 have g0:∀z,s z≠.free→u0 z=s z:=fun z hz=>by rw[hu0,St.set_other _ _ (nef hsb5 hz).1,St.set_other _ _ (nef hb3 hz).1]
 obtain⟨x,y,hx,hy,ex,ey,w3⟩:=W3.out u0
 refine call_ex can10 w3 (fun z h=>?_)
 obtain⟨o,L⟩:=Law.of h hx hy
 obtain⟨u1,KK,q,c⟩:=z
 dsimp only at L ⊢
 have k5:u1 b5=.obj 41 [.int .i64 i1,.int .i64 i2,.int .i64 i3]:=by rw[(L.fr b5 (by rw[g5];simp)).1,g5]
 have G0:=Lib.hid g0
 clear w3 h hu0 g5 g0 hb hb3 hsb5 ex ey
 by_cases hbad:¬ (n1<3∧n2<3)∨n1=n2∨i3 < -1073741824∨i3 > 1073741824
 ·have we:=L.add0 hbad
  have wa:=WA.out u1
  have HFG:=Lib.hid (L.from G0.out).fg
  have HB:=Lib.hid hbad
  clear L G0 hbad
  generalize domsC (dsT x y)=DC at *
  simp only[go_sem,seval]
  by_cases c1:(n1:Int) > 2
  ·(repeat'(first|refine Ctl ?_|(with_reducible first|(refine Kof.use hK ?_;clear hK hE K E)|(refine Kof.use hKh ?_;clear hKh Kh)|refine G_plan 4 [] [0,1,2,3,4,5,6,7,8,9,10] hQe fun K E hK hE=>?_)|((with_reducible refine W_cond (fun h=>?_) (fun h=>?_))<;>(try(exfalso;assumption)))|(((with_reducible first|refine G_region fun K E hK hE=>?_|refine call_ret can24 (we) ?_|refine call_ret can12 (wa) ?_|refine P_fin fun Kh hKh=>?_))<;>(try simp(disch:=omega) only[go_sem,seval,en1,en2,c1, *]))))
   all_goals(refine W_ret res7 hQ ?_)
   all_goals exact⟨_,_,Wk.refl _,HFG.out,rfl,rfl⟩
  by_cases c2:(n2:Int) > 2
  ·(repeat'(first|refine Ctl ?_|(with_reducible first|(refine Kof.use hK ?_;clear hK hE K E)|(refine Kof.use hKh ?_;clear hKh Kh)|refine G_plan 4 [] [0,1,2,3,4,5,6,7,8,9,10] hQe fun K E hK hE=>?_)|((with_reducible refine W_cond (fun h=>?_) (fun h=>?_))<;>(try(exfalso;assumption)))|(((with_reducible first|refine G_region fun K E hK hE=>?_|refine call_ret can24 (we) ?_|refine call_ret can12 (wa) ?_|refine P_fin fun Kh hKh=>?_))<;>(try simp(disch:=omega) only[go_sem,seval,en1,en2,c1,c2, *]))))
   all_goals(refine W_ret res7 hQ ?_)
   all_goals exact⟨_,_,Wk.refl _,HFG.out,rfl,rfl⟩
  by_cases c3:n1=n2
  ·have hne:((n1:Int)=(n2:Int))=True:=eq_true (by omega)
   clear c3
   (repeat'(first|refine Ctl ?_|(with_reducible first|(refine Kof.use hK ?_;clear hK hE K E)|(refine Kof.use hKh ?_;clear hKh Kh)|refine G_plan 4 [] [0,1,2,3,4,5,6,7,8,9,10] hQe fun K E hK hE=>?_)|((with_reducible refine W_cond (fun h=>?_) (fun h=>?_))<;>(try(exfalso;assumption)))|(((with_reducible first|refine G_region fun K E hK hE=>?_|refine call_ret can24 (we) ?_|refine call_ret can12 (wa) ?_|refine P_fin fun Kh hKh=>?_))<;>(try simp(disch:=omega) only[go_sem,seval,en1,en2,c1,c2,hne, *]))))
   all_goals(refine W_ret res7 hQ ?_)
   all_goals exact⟨_,_,Wk.refl _,HFG.out,rfl,rfl⟩
  have hne:((n1:Int)=(n2:Int))=False:=eq_false (by omega)
  by_cases c4:i3 < -1073741824
  ·clear c3
   (repeat'(first|refine Ctl ?_|(with_reducible first|(refine Kof.use hK ?_;clear hK hE K E)|(refine Kof.use hKh ?_;clear hKh Kh)|refine G_plan 4 [] [0,1,2,3,4,5,6,7,8,9,10] hQe fun K E hK hE=>?_)|((with_reducible refine W_cond (fun h=>?_) (fun h=>?_))<;>(try(exfalso;assumption)))|(((with_reducible first|refine G_region fun K E hK hE=>?_|refine call_ret can24 (we) ?_|refine call_ret can12 (wa) ?_|refine P_fin fun Kh hKh=>?_))<;>(try simp(disch:=omega) only[go_sem,seval,en1,en2,c1,c2,hne,c4, *]))))
   all_goals(refine W_ret res7 hQ ?_)
   all_goals exact⟨_,_,Wk.refl _,HFG.out,rfl,rfl⟩
  ·have c5:i3 > 1073741824:=by
    have:=HB.out
    omega
   clear c3
   (repeat'(first|refine Ctl ?_|(with_reducible first|(refine Kof.use hK ?_;clear hK hE K E)|(refine Kof.use hKh ?_;clear hKh Kh)|refine G_plan 4 [] [0,1,2,3,4,5,6,7,8,9,10] hQe fun K E hK hE=>?_)|((with_reducible refine W_cond (fun h=>?_) (fun h=>?_))<;>(try(exfalso;assumption)))|(((with_reducible first|refine G_region fun K E hK hE=>?_|refine call_ret can24 (we) ?_|refine call_ret can12 (wa) ?_|refine P_fin fun Kh hKh=>?_))<;>(try simp(disch:=omega) only[go_sem,seval,en1,en2,c1,c2,hne,c4,c5, *]))))
   all_goals(refine W_ret res7 hQ ?_)
   all_goals exact⟨_,_,Wk.refl _,HFG.out,rfl,rfl⟩
 ·obtain⟨h1,h2,hne,hlo,hhi⟩:n1<3∧n2<3∧n1≠n2∧-1073741824≤i3∧i3≤1073741824:=by omega
  have d1:(domsC (dsT x y))[n1]?=some [.str [65+UInt8.ofNat n1],.int .i64 ((szD x y n1:Nat):Int)]:=domsC_at (dsT_at h1)
  have d2:(domsC (dsT x y))[n2]?=some [.str [65+UInt8.ofNat n2],.int .i64 ((szD x y n2:Nat):Int)]:=domsC_at (dsT_at h2)
  have c1:¬ (n1:Int) > 2:=by omega
  have c2:¬ (n2:Int) > 2:=by omega
  have c4:¬ i3 < -1073741824:=by omega
  have c5:¬ i3 > 1073741824:=by omega
  obtain⟨v1,v2,v3,v4,v5⟩:=L.wid h1
  obtain⟨v1',v2',v3',v4',v5'⟩:=L.wid h2
  have we:=L.add (more:=i3) h1 h2 hne hlo hhi (by omega)
  have hks:∀k,k∈[n1,n2]→k<3:=fun k hk=>by simp at hk;rcases hk with rfl|rfl<;>assumption
  have hrow:sortR (tupR (treeT 12 (addF (o.getD n1 []) (o.getD n2 []) (szD x y n1) (szD x y n2) i3)) o [n1,n2])=addL (szD x y n2) i3 (szD x y n1):=add_rows L.D (a:=n1) (a2:=n2) h1 h2 hne v5 v5'
  have hal:=addL_len (sb:=szD x y n2) (more:=i3) (i:=szD x y n1)
  have wt:=fun(u:St) (K':OB) (ns:List Tr) (N:Nat) (h:Law u0 u K' q c ns x y o N) (hm:treeT 12 (addF (o.getD n1 []) (o.getD n2 []) (szD x y n1) (szD x y n2) i3)∈ns)=>h.tup hm [n1,n2] .full hks (by simp) (by simpa using hne) (by rw[varsOf_two];exact addF_dep _ _ _ _ _) (most:=16) (by omega) hrow (by omega)
  have hz16:szD x y n1≤16:=v4
  have hnne:((n1:Int)=(n2:Int))=False:=eq_false (by omega)
  have hsame:=fun(u:St) (ow:Own)=>SameRowsF_S (addL (szD x y n2) i3 (szD x y n1)) (addL (szD x y n2) i3 (szD x y n1)) .no .full ow (addL_ok (by omega)) (addL_ok (by omega)) u
  rw[decide_eq_true rfl]at hsame
  have LH:=Lib.hid L
  have WT:=Lib.hid wt
  have HS:=Lib.hid hsame
  unfold OpFC at we
  clear L wt hrow h1 h2 v1 v2 v3 v4 v5 v1' v2' v3' v4' v5' hks hsame hal hbad hne
  generalize domsC (dsT x y)=DC at *
  generalize hsz1:szD x y n1=z1 at *
  generalize hsz2:szD x y n2=z2 at *
  clear hsz1 hsz2
  simp only[go_sem,seval]
  (repeat'(first|refine Ctl ?_|(with_reducible first|(refine Kof.use hK ?_;clear hK hE K E)|(refine Kof.use hKh ?_;clear hKh Kh)|refine G_plan 4 [] [0,1,2,3,4,5,6,7,8,9,10] hQe fun K E hK hE=>?_)|((with_reducible refine W_cond (fun h=>?_) (fun h=>?_))<;>(try(exfalso;assumption)))|(((with_reducible first|refine G_region fun K E hK hE=>?_|refine P_fin fun Kh hKh=>?_))<;>(try simp(disch:=omega) only[go_sem,seval,en1,en2, *]))))
  refine call_ex can24 we (fun a h=>?_)
  obtain⟨u2,K2,ns2⟩:=a
  have L2:=LH.out.step h
  have wt:=WT.out _ _ _ _ L2 h.mem
  simp only[natsL,List.map_cons,List.map_nil]at wt
  dsimp only at wt L2 ⊢
  have HFG:=Lib.hid (L2.from G0.out).fg
  clear h L2 we WT LH
  generalize ixF 12 ns2 (addF (o.getD n1 []) (o.getD n2 []) z1 z2 i3)=kz at *
  have hWL:∃WL,WL=rwsC (addL z2 i3 z1):=⟨_,rfl⟩
  obtain⟨WL,hWL⟩:=hWL
  rw[← hWL]at wt
  have HWL:=Lib.hid hWL
  clear hWL
  simp only[go_sem,seval]
  (repeat'(first|refine Ctl ?_|((with_reducible refine Kof.use hK ?_);clear hK hE K E)|((with_reducible refine W_cond (fun h=>?_) (fun h=>?_))<;>(try(exfalso;assumption)))|(((with_reducible refine G_region fun K E hK hE=>?_))<;>(try simp(disch:=omega) only[go_sem,seval,c1,c2,hnne,c4,c5, *]))))
  refine G_loop (fun f env s'=>∃(i:Nat) (ow:Own),i≤z1∧f+i=z1∧OwnOk u2 ow (addL z2 i3 i).length∧s'=u2.own ow 34 1 (addL z2 i3 i).length∧env 7=.ptr c 0∧env 8=.lst DC .no∧env 10=.int .i64 n1∧env 11=.int .i64 n2∧env 12=.int .i64 i3∧env 13=.int .i64 kz∧env 14=.int .i64 0∧env 15=.lst (rwsF (addL z2 i3 i) .full) ow∧env 16=.int .i64 (i:Int)) z1 ?_ ?_
  ·exact⟨_,Fg.refl _,0,.full,by omega,by omega,rfl,rfl,z_sl,z_sl,z_sl,z_sl,z_sl,z_sl,z_sl,by(rw[show rwsF (addL z2 i3 0) .full=[] from rfl];((try simp(disch:=assumption) only[go_sem,seval, *])<;>rfl)),z_sl⟩
  rintro f env s' ⟨i,ow,hi,hfi,hO,rfl,e7,e8,e10,e11,e12,e13,e14,e15,e16⟩
  have hnx:=addL_next (sb:=z2) (more:=i3) (i:=i)
  have hll:=addL_len (sb:=z2) (more:=i3) (i:=i)
  have hrl:(rwsF (addL z2 i3 i) .full).length=(addL z2 i3 i).length:=by rw[rwsF,List.length_map]
  by_cases h7:i<z1
  ·have hwr:IntKind.i64.wrap ((i:Int)+i3)=(i:Int)+i3:=wrap_i64 (by omega) (by omega)
   by_cases h8:0≤(i:Int)+i3∧(i:Int)+i3<z2
   ·rw[if_pos h8]at hnx
    have htk:rwsF (addL z2 i3 (i+1)) .full=rwsF (addL z2 i3 i) .full++[[.lst [[.int .i64 (i:Int)],[.int .i64 ((i:Int)+i3)]] .full]]:=by
     rw[hnx]
     simp[rwsF,intsL]
    have hln2:(addL z2 i3 (i+1)).length=(addL z2 i3 i).length+1:=by rw[hnx];simp
    have HTK:=Lib.hid (And.intro htk hln2)
    obtain⟨g1,g2⟩:=h8
    clear hnx htk hln2
    generalize rwsF (addL z2 i3 i) .full=RW at *
    generalize (addL z2 i3 i).length=ql at *
    (repeat'(first|refine Ctl ?_|((with_reducible refine Kof.use hK ?_);clear hK hE K E)|((with_reducible refine W_cond (fun h=>?_) (fun h=>?_))<;>(try(exfalso;assumption)))|((first|(with_reducible refine G_region fun K E hK hE=>?_)|((with_reducible refine W_app (fun o2 ho=>?_));(try simp(disch:=assumption) only[disown_set,disown_own,ownok_o,ownok_m,List.length_map,List.length_cons,List.length_nil,Nat.zero_add,hrl,d1,d2,hwr,g1,g2]at ho)))<;>(try simp(disch:=first|assumption|omega) only[go_sem,seval,hrl,d1,d2,hwr,g1,g2, *]))))
    all_goals exact⟨_,Fg.refl _,f - 1,by omega,i+1,o2,by omega,by omega,by rw[HTK.out.2];exact ho,by rw[HTK.out.2],z_sl,z_sl,z_sl,z_sl,z_sl,z_sl,z_sl,by(rw[HTK.out.1];((try simp(disch:=assumption) only[go_sem,seval, *])<;>rfl)),z_sl⟩
   ·rw[if_neg h8]at hnx
    have HNX:=Lib.hid hnx
    have H8:=Lib.hid h8
    clear hnx h8
    by_cases g1:0≤(i:Int)+i3
    ·have g2:¬ (i:Int)+i3<z2:=fun h=>H8.out ⟨g1,h⟩
     generalize hRW:rwsF (addL z2 i3 i) .full=RW at *
     have HRW:=Lib.hid hRW
     clear hRW
     (repeat'(first|refine Ctl ?_|((with_reducible refine Kof.use hK ?_);clear hK hE K E)|((with_reducible refine W_cond (fun h=>?_) (fun h=>?_))<;>(try(exfalso;assumption)))|(((with_reducible refine G_region fun K E hK hE=>?_))<;>(try simp(disch:=omega) only[go_sem,seval,d1,d2,hwr,g1,g2, *]))))
     all_goals exact⟨_,Fg.refl _,f - 1,by omega,i+1,ow,by omega,by omega,by rw[HNX.out];exact hO,by rw[HNX.out],z_sl,z_sl,z_sl,z_sl,z_sl,z_sl,z_sl,by(rw[HNX.out,HRW.out];((try simp(disch:=assumption) only[go_sem,seval, *])<;>rfl)),z_sl⟩
    ·generalize hRW:rwsF (addL z2 i3 i) .full=RW at *
     have HRW:=Lib.hid hRW
     clear hRW
     (repeat'(first|refine Ctl ?_|((with_reducible refine Kof.use hK ?_);clear hK hE K E)|((with_reducible refine W_cond (fun h=>?_) (fun h=>?_))<;>(try(exfalso;assumption)))|(((with_reducible refine G_region fun K E hK hE=>?_))<;>(try simp(disch:=omega) only[go_sem,seval,d1,d2,hwr,g1, *]))))
     all_goals exact⟨_,Fg.refl _,f - 1,by omega,i+1,ow,by omega,by omega,by rw[HNX.out];exact hO,by rw[HNX.out],z_sl,z_sl,z_sl,z_sl,z_sl,z_sl,z_sl,by(rw[HNX.out,HRW.out];((try simp(disch:=assumption) only[go_sem,seval, *])<;>rfl)),z_sl⟩
  ·have hin:i=z1:=by omega
   subst hin
   have hs:=HS.out u2 ow
   have wa:=WA.out u2
   rw[← HWL.out]at hs
   clear hnx
   generalize rwsF (addL z2 i3 i) .full=RW at *
   (repeat'(first|(with_reducible refine Kp_atQ 15 ?_)|refine Ctl ?_|((with_reducible refine Kof.use hK ?_);clear hK hE K E)|((with_reducible refine W_cond (fun h=>?_) (fun h=>?_))<;>(try(exfalso;assumption)))|(((with_reducible refine G_region fun K E hK hE=>?_))<;>(try simp(disch:=omega) only[go_sem,seval,d1, *]))))
   unfold StopQ
   refine Kp_forget (s':=u2) (Fg.own hO) ?_
   (repeat'(first|refine Ctl ?_|((with_reducible refine Kof.use hK ?_);clear hK hE K E)|(((with_reducible first|refine G_region fun K E hK hE=>?_|refine call_ret can13 (wt) ?_|refine call_ret can14 (hs) ?_|refine call_ret can12 (wa) ?_))<;>(try simp(disch:=omega) only[go_sem,seval, *]))))
   all_goals(refine W_ret res7 hQ ?_)
   exact⟨_,_,Wk.refl _,HFG.out,rfl,rfl⟩
end Go.Proofs.YtndlnadbnganeaaGreatDoor
