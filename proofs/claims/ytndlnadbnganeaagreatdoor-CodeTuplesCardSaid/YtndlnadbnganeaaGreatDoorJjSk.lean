/- Walks of functions that the claim reaches, and plain facts of them. Conditions: those in the statements. -/
import Derived.Test.YtndlnadbnganeaaGreatDoorJjRzj
set_option linter.unusedSimpArgs false
set_option linter.unusedVariables false
set_option maxRecDepth 100000
namespace Go.Proofs.YtndlnadbnganeaaGreatDoor
open Go.RowKit
attribute [-go_sem] p_and p_or p_shl p_shr
theorem and3 (a:Int):∃x:Nat,x<4∧vint .and .i64 a 3=some (.int .i64 (x:Int)):=by
 have h:=and_low (w:=2) (by omega) a
 have e:IntKind.i64.wrap (((2 ^ 2:Nat):Int) - 1)=3:=by decide
 rw[e]at h
 exact⟨_,addP_lt 2 a,h⟩
def eqlL (z:Nat):List (List Int):=(List.range z).map fun(v:Nat)=>[(v:Int),(v:Int)]
theorem eqlL_len {z:Nat}:(eqlL z).length=z:=by simp[eqlL]
set_option maxHeartbeats 16000000 in
theorem CodeEqual_S (s:St)(a a2 od i1 i2:Int):SRet Tryz.prog 4 [.agg [.int .i64 a,.int .i64 a2],.int .i64 od,.agg [.int .i64 i1,.int .i64 i2]] s (.bool true) s:=by
 have w3:=fun s=>Cthree_S s a a2 od
 have wa:=Cawake_S
 have W3:=Lib.hid w3
 have WA:=Lib.hid wa
 clear w3 wa
 obtain⟨n1,hn1,en1⟩:=and3 i1
 obtain⟨n2,hn2,en2⟩:=and3 i2
 refine G_enter Tryz.func4 rfl Tryz.ntmps4 rfl fun Q hQ hQe=>?_
 (repeat'(first|refine Ctl ?_|((with_reducible refine Kof.use hK ?_);clear hK hE K E)|((first|(with_reducible refine G_region fun K E hK hE=>?_)|((with_reducible refine W_fresh (fun b hb=>?_));(repeat(obtain⟨_,hb⟩:=hb))))<;>(try simp(disch:=omega) only[go_sem,seval, *]))))
 rename_i b3 hb3 _ _
 obtain⟨b5,hb5⟩:∃z,z=b:=⟨_,rfl⟩
 subst hb5
 have hsb5:s b5=.free:=by assumption
 obtain⟨u0,hu0⟩:∃u,u=(s.set b3 (.obj 22 [.int .i64 a,.int .i64 a2])).set b5 (.obj 22 [.int .i64 i1,.int .i64 i2]):=⟨_,rfl⟩
 rw[← hu0]
 have g5:u0 b5=.obj 22 [.int .i64 i1,.int .i64 i2]:=by rw[hu0,St.set_same]
 have g0:∀z,s z≠.free→u0 z=s z:=fun z hz=>by rw[hu0,St.set_other _ _ (nef hsb5 hz).1,St.set_other _ _ (nef hb3 hz).1]
 obtain⟨x,y,hx,hy,ex,ey,w3⟩:=W3.out u0
 refine call_ex can10 w3 (fun z h=>?_)
 obtain⟨o,L⟩:=Law.of h hx hy
 obtain⟨u1,KK,q,c⟩:=z
 dsimp only at L ⊢
 have k5:u1 b5=.obj 22 [.int .i64 i1,.int .i64 i2]:=by rw[(L.fr b5 (by rw[g5];simp)).1,g5]
 have G0:=Lib.hid g0
 clear w3 h hu0 g5 g0 hb hb3 hsb5 ex ey
 by_cases hbad:¬ (n1<3∧n2<3)∨szD x y n1≠szD x y n2
 ·have we:=L.eq0 hbad
  have wa:=WA.out u1
  have HFG:=Lib.hid (L.from G0.out).fg
  have HB:=Lib.hid hbad
  have hdx:∀n,n<3→(domsC (dsT x y))[n]?=some [.str [65+UInt8.ofNat n],.int .i64 ((szD x y n:Nat):Int)]:=fun n hn=>domsC_at (dsT_at hn)
  have HDX:=Lib.hid hdx
  clear L G0 hbad hdx
  generalize domsC (dsT x y)=DC at *
  simp only[go_sem,seval]
  by_cases c1:(n1:Int) > 2
  ·(repeat'(first|refine Ctl ?_|(with_reducible first|(refine Kof.use hK ?_;clear hK hE K E)|(refine Kof.use hKh ?_;clear hKh Kh)|refine G_plan 4 [] [0,1,2,3,4,5,6,7] hQe fun K E hK hE=>?_|refine G_plan 6 [] [0,1,2,3,4,5,6,7,8,9,10,11,12,13,14,15,16,17,18] hQe fun K E hK hE=>?_)|((with_reducible refine W_cond (fun h=>?_) (fun h=>?_))<;>(try(exfalso;assumption)))|(((with_reducible first|refine G_region fun K E hK hE=>?_|refine call_ret can15 (we) ?_|refine call_ret can12 (wa) ?_|refine P_fin fun Kh hKh=>?_))<;>(try simp(disch:=omega) only[go_sem,seval,en1,en2,c1, *]))))
   all_goals(refine W_ret res4 hQ ?_)
   all_goals exact⟨_,_,Wk.refl _,HFG.out,rfl,rfl⟩
  ·by_cases c2:(n2:Int) > 2
   ·(repeat'(first|refine Ctl ?_|(with_reducible first|(refine Kof.use hK ?_;clear hK hE K E)|(refine Kof.use hKh ?_;clear hKh Kh)|refine G_plan 4 [] [0,1,2,3,4,5,6,7] hQe fun K E hK hE=>?_|refine G_plan 6 [] [0,1,2,3,4,5,6,7,8,9,10,11,12,13,14,15,16,17,18] hQe fun K E hK hE=>?_)|((with_reducible refine W_cond (fun h=>?_) (fun h=>?_))<;>(try(exfalso;assumption)))|(((with_reducible first|refine G_region fun K E hK hE=>?_|refine call_ret can15 (we) ?_|refine call_ret can12 (wa) ?_|refine P_fin fun Kh hKh=>?_))<;>(try simp(disch:=omega) only[go_sem,seval,en1,en2,c1,c2, *]))))
    all_goals(refine W_ret res4 hQ ?_)
    all_goals exact⟨_,_,Wk.refl _,HFG.out,rfl,rfl⟩
   ·have d1:=HDX.out n1 (by omega)
    have d2:=HDX.out n2 (by omega)
    have hne:(((szD x y n1:Nat):Int)=((szD x y n2:Nat):Int))=False:=eq_false (by
     have:=HB.out
     omega)
    generalize szD x y n1=z1 at *
    generalize szD x y n2=z2 at *
    (repeat'(first|refine Ctl ?_|(with_reducible first|(refine Kof.use hK ?_;clear hK hE K E)|(refine Kof.use hKh ?_;clear hKh Kh)|refine G_plan 4 [] [0,1,2,3,4,5,6,7] hQe fun K E hK hE=>?_|refine G_plan 6 [] [0,1,2,3,4,5,6,7,8,9,10,11,12,13,14,15,16,17,18] hQe fun K E hK hE=>?_)|((with_reducible refine W_cond (fun h=>?_) (fun h=>?_))<;>(try(exfalso;assumption)))|(((with_reducible first|refine G_region fun K E hK hE=>?_|refine call_ret can15 (we) ?_|refine call_ret can12 (wa) ?_|refine P_fin fun Kh hKh=>?_))<;>(try simp(disch:=omega) only[go_sem,seval,en1,en2,c1,c2,d1,d2,hne, *]))))
    all_goals(refine W_ret res4 hQ ?_)
    all_goals exact⟨_,_,Wk.refl _,HFG.out,rfl,rfl⟩
 ·obtain⟨⟨h1,h2⟩,hsz⟩:(n1<3∧n2<3)∧szD x y n1=szD x y n2:=by
   constructor
   ·exact Decidable.byContradiction fun h=>hbad (.inl h)
   ·exact Decidable.byContradiction fun h=>hbad (.inr h)
  have d1:(domsC (dsT x y))[n1]?=some [.str [65+UInt8.ofNat n1],.int .i64 ((szD x y n1:Nat):Int)]:=domsC_at (dsT_at h1)
  have d2:(domsC (dsT x y))[n2]?=some [.str [65+UInt8.ofNat n2],.int .i64 ((szD x y n1:Nat):Int)]:=by rw[hsz];exact domsC_at (dsT_at h2)
  have c1:¬ (n1:Int) > 2:=by omega
  have c2:¬ (n2:Int) > 2:=by omega
  obtain⟨v1,v2,v3,v4,v5⟩:=L.wid h1
  obtain⟨v1',v2',v3',v4',v5'⟩:=L.wid h2
  clear hbad v1 v1'
  by_cases hne:n1=n2
  ·subst hne
   have we:=L.eqs h1 (by omega)
   have hzz:IntKind.i64.wrap ((szD x y n1:Int) - 1)=((szD x y n1 - 1:Nat):Int):=by rw[wrap_i64 (by omega) (by omega)];omega
   have wr:=fun(u:St) (K':OB) (ns:List Tr) (N:Nat) (h:Law u0 u K' q c ns x y o N) (hN:N+144≤16384)=>h.rng h1 (Nat.zero_le _) (show szD x y n1 - 1<szD x y n1 by omega) hN
   have LH:=Lib.hid L
   have WR:=Lib.hid wr
   unfold OpFC at we
   clear L wr d2 hsz h2 v2 v3 v4 v5 v2' v3' v4' v5'
   generalize domsC (dsT x y)=DC at *
   generalize hsz1:szD x y n1=z1 at *
   clear hsz1
   simp only[go_sem,seval]
   (repeat'(first|refine Ctl ?_|(with_reducible first|(refine Kof.use hK ?_;clear hK hE K E)|(refine Kof.use hKh ?_;clear hKh Kh)|refine G_plan 4 [] [0,1,2,3,4,5,6,7] hQe fun K E hK hE=>?_)|((with_reducible refine W_cond (fun h=>?_) (fun h=>?_))<;>(try(exfalso;assumption)))|(((with_reducible first|refine G_region fun K E hK hE=>?_|refine P_fin fun Kh hKh=>?_))<;>(try simp(disch:=omega) only[go_sem,seval,en1,en2, *]))))
   refine call_ex can15 we (fun a h=>?_)
   obtain⟨u2,K2,ns2⟩:=a
   have L2:=LH.out.step h
   have wr:=WR.out _ _ _ _ L2 (by omega)
   have hmem:=h.mem
   unfold OpFC at wr
   rw[show ((0:Nat):Int)=0 from rfl]at wr
   dsimp only at wr hmem ⊢
   have LH2:=Lib.hid L2
   have HM:=Lib.hid hmem
   clear h L2 we WR LH hmem
   simp only[go_sem,seval]
   (repeat'(first|refine Ctl ?_|(with_reducible first|(refine Kof.use hK ?_;clear hK hE K E)|(refine Kof.use hKh ?_;clear hKh Kh)|refine G_plan 6 [] [0,1,2,3,4,5,6,7,8,9,10,11,12,13,14,15,16,17,18] hQe fun K E hK hE=>?_)|((with_reducible refine W_cond (fun h=>?_) (fun h=>?_))<;>(try(exfalso;assumption)))|(((with_reducible first|refine G_region fun K E hK hE=>?_|refine P_fin fun Kh hKh=>?_))<;>(try simp(disch:=omega) only[go_sem,seval,c1,c2,d1,hzz, *]))))
   refine call_ex can11 wr (fun a h=>?_)
   obtain⟨u3,K3,ns3⟩:=a
   have L3:=LH2.out.step h
   have e3:=(sub_of h.pre HM.out).2
   dsimp only at L3 e3 ⊢
   change ixF 12 ns3 _=ixF 12 ns2 _ at e3
   have HFG:=Lib.hid (L3.from G0.out).fg
   have wa:=WA.out u3
   rw[e3]
   clear h L3 wr e3
   generalize ixF 12 ns2 (btwF (o.getD n1 []) 0 (z1 - 1))=kz at *
   simp only[go_sem,seval]
   (repeat'(first|refine Ctl ?_|((with_reducible refine Kof.use hK ?_);clear hK hE K E)|(((with_reducible first|refine G_region fun K E hK hE=>?_|refine call_ret can12 (wa) ?_))<;>(try simp(disch:=omega) only[go_sem,seval, *]))))
   all_goals(refine W_ret res4 hQ ?_)
   all_goals exact⟨_,_,Wk.refl _,HFG.out,rfl,rfl⟩
  ·have we:=L.eq h1 h2 hne hsz (by omega)
   have hks:∀k,k∈[n1,n2]→k<3:=fun k hk=>by simp at hk;rcases hk with rfl|rfl<;>assumption
   have hrow:sortR (tupR (treeT 12 (samF (o.getD n1 []) (o.getD n2 []) (szD x y n1))) o [n1,n2])=eqlL (szD x y n1):=eq_rows L.D (a:=n1) (a2:=n2) h1 h2 hne v5 (by rw[hsz];exact v5')
   have wt:=fun(u:St) (K':OB) (ns:List Tr) (N:Nat) (h:Law u0 u K' q c ns x y o N) (hm:treeT 12 (samF (o.getD n1 []) (o.getD n2 []) (szD x y n1))∈ns)=>h.tup hm [n1,n2] .full hks (by simp) (by simpa using hne) (by rw[varsOf_two];exact samF_dep _ _ _) (most:=16) (by omega) hrow (by rw[eqlL_len];exact v4)
   have hz16:szD x y n1≤16:=v4
   have hnne:((n1:Int)=(n2:Int))=False:=eq_false (by omega)
   have hrok:∀z:Nat,z≤16→RowsOk (eqlL z):=fun z hz=>⟨by rw[eqlL_len];omega,fun r hr=>by simp only[eqlL,List.mem_map]at hr;obtain⟨v,_,rfl⟩:=hr;simp⟩
   have hsame:=fun(u:St) (ow:Own)=>SameRowsF_S (eqlL (szD x y n1)) (eqlL (szD x y n1)) .no .full ow (hrok _ hz16) (hrok _ hz16) u
   rw[decide_eq_true rfl]at hsame
   have LH:=Lib.hid L
   have WT:=Lib.hid wt
   have HS:=Lib.hid hsame
   have HRL:=Lib.hid (eqlL_len (z:=szD x y n1))
   unfold OpFC at we
   clear L wt hrow hsz h1 h2 v2 v3 v4 v5 v2' v3' v4' v5' hks hsame hrok
   generalize domsC (dsT x y)=DC at *
   generalize hsz1:szD x y n1=z1 at *
   clear hsz1
   simp only[go_sem,seval]
   (repeat'(first|refine Ctl ?_|(with_reducible first|(refine Kof.use hK ?_;clear hK hE K E)|(refine Kof.use hKh ?_;clear hKh Kh)|refine G_plan 4 [] [0,1,2,3,4,5,6,7] hQe fun K E hK hE=>?_)|((with_reducible refine W_cond (fun h=>?_) (fun h=>?_))<;>(try(exfalso;assumption)))|(((with_reducible first|refine G_region fun K E hK hE=>?_|refine P_fin fun Kh hKh=>?_))<;>(try simp(disch:=omega) only[go_sem,seval,en1,en2, *]))))
   refine call_ex can15 we (fun a h=>?_)
   obtain⟨u2,K2,ns2⟩:=a
   have L2:=LH.out.step h
   have wt:=WT.out _ _ _ _ L2 h.mem
   simp only[natsL,List.map_cons,List.map_nil]at wt
   dsimp only at wt L2 ⊢
   have HFG:=Lib.hid (L2.from G0.out).fg
   clear h L2 we WT LH
   generalize ixF 12 ns2 (samF (o.getD n1 []) (o.getD n2 []) z1)=kz at *
   have hWL:∃WL,WL=rwsC (eqlL z1):=⟨_,rfl⟩
   obtain⟨WL,hWL⟩:=hWL
   rw[← hWL]at wt
   have HWL:=Lib.hid hWL
   clear hWL
   simp only[go_sem,seval]
   (repeat'(first|refine Ctl ?_|(with_reducible first|(refine Kof.use hK ?_;clear hK hE K E)|(refine Kof.use hKh ?_;clear hKh Kh)|refine G_plan 6 [] [0,1,2,3,4,5,6,7,8,9,10,11,12,13,14,15,16,17,18] hQe fun K E hK hE=>?_)|((with_reducible refine W_cond (fun h=>?_) (fun h=>?_))<;>(try(exfalso;assumption)))|(((with_reducible first|refine G_region fun K E hK hE=>?_|refine P_fin fun Kh hKh=>?_))<;>(try simp(disch:=omega) only[go_sem,seval,c1,c2,d1,d2,hnne, *]))))
   refine G_loop (fun f env s'=>∃(i:Nat) (ow:Own),i≤z1∧f+i=z1∧OwnOk u2 ow i∧s'=u2.own ow 34 1 i∧env 7=.ptr c 0∧env 8=.lst DC .no∧env 10=.int .i64 n1∧env 11=.int .i64 n2∧env 12=.int .i64 kz∧env 13=.int .i64 0∧env 16=.lst (rwsF ((eqlL z1).take i) .full) ow∧env 17=.int .i64 (i:Int)) z1 ?_ ?_
   ·exact⟨_,Fg.refl _,0,.full,by omega,by omega,rfl,rfl,z_sl,z_sl,z_sl,z_sl,z_sl,z_sl,by(rw[show rwsF ((eqlL z1).take 0) .full=[] from rfl];((try simp(disch:=assumption) only[go_sem,seval, *])<;>rfl)),z_sl⟩
   rintro f env s' ⟨i,ow,hi,hfi,hO,rfl,e7,e8,e10,e11,e12,e13,e16,e17⟩
   by_cases h7:i<z1
   ·have hx:(eqlL z1)[i]?=some [(i:Int),(i:Int)]:=by simp[eqlL,h7]
    have htk:rwsF ((eqlL z1).take (i+1)) .full=rwsF ((eqlL z1).take i) .full++[[.lst [[.int .i64 (i:Int)],[.int .i64 (i:Int)]] .full]]:=by
     rw[List.take_add_one,hx]
     simp[rwsF,intsL]
    have hln:(rwsF ((eqlL z1).take i) .full).length=i:=by
     rw[rwsF,List.length_map,List.length_take,HRL.out];omega
    have HTK:=Lib.hid htk
    clear hx htk
    generalize rwsF ((eqlL z1).take i) .full=RW at *
    (repeat'(first|refine Ctl ?_|((with_reducible refine Kof.use hK ?_);clear hK hE K E)|((with_reducible refine W_cond (fun h=>?_) (fun h=>?_))<;>(try(exfalso;assumption)))|((first|(with_reducible refine G_region fun K E hK hE=>?_)|((with_reducible refine W_app (fun o2 ho=>?_));(try simp(disch:=assumption) only[disown_set,disown_own,ownok_o,ownok_m,List.length_map,List.length_cons,List.length_nil,Nat.zero_add,hln,d1]at ho)))<;>(try simp(disch:=first|assumption|omega) only[go_sem,seval,hln,d1, *]))))
    all_goals exact⟨_,Fg.refl _,f - 1,by omega,i+1,o2,by omega,by omega,ho,rfl,z_sl,z_sl,z_sl,z_sl,z_sl,z_sl,by(rw[HTK.out];((try simp(disch:=assumption) only[go_sem,seval, *])<;>rfl)),z_sl⟩
   ·have hin:i=z1:=by omega
    have hall:(eqlL z1).take i=eqlL z1:=List.take_of_length_le (by rw[HRL.out];omega)
    rw[hall]at e16
    have hs:=HS.out u2 ow
    have wa:=WA.out u2
    rw[← HWL.out]at hs
    generalize rwsF (eqlL z1) .full=RW at *
    (repeat'(first|(with_reducible refine Kp_atQ 16 ?_)|refine Ctl ?_|((with_reducible refine Kof.use hK ?_);clear hK hE K E)|((with_reducible refine W_cond (fun h=>?_) (fun h=>?_))<;>(try(exfalso;omega)))|(((with_reducible refine G_region fun K E hK hE=>?_))<;>(try simp(disch:=omega) only[go_sem,seval,d1, *]))))
    unfold StopQ
    refine Kp_forget (s':=u2) (Fg.own hO) ?_
    (repeat'(first|refine Ctl ?_|((with_reducible refine Kof.use hK ?_);clear hK hE K E)|(((with_reducible first|refine G_region fun K E hK hE=>?_|refine call_ret can13 (wt) ?_|refine call_ret can14 (hs) ?_|refine call_ret can12 (wa) ?_))<;>(try simp(disch:=omega) only[go_sem,seval, *]))))
    all_goals(refine W_ret res4 hQ ?_)
    exact⟨_,_,Wk.refl _,HFG.out,rfl,rfl⟩
end Go.Proofs.YtndlnadbnganeaaGreatDoor
