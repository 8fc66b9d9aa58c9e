/- Walks of functions that the claim reaches, and plain facts of them. Conditions: those in the statements. -/
import Derived.Test.YtadbggfpnhkmbaaGreatQqCaj
import Derived.Test.YtadbggfpnhkmbaaGreatQqKv
import Derived.Test.YtadbggfpnhkmbaaGreatQqCy
import Derived.Test.YtadbggfpnhkmbaaGreatQqGpj
import Derived.Test.YtadbggfpnhkmbaaGreatQqRfj
import Derived.KernelRfl
set_option linter.unusedSimpArgs false
set_option linter.unusedVariables false
set_option maxRecDepth 100000
namespace Go.Proofs.YtadbggfpnhkmbaaGreat
open Go.RowKit
theorem slX_src (l:List Sl):srcV (slX l)=.agg [.lst [[.str [77,97,105,110],.str [],.lst [[.bool true,.str [109,97,105,110],.lst [] .no,.lst (stsC (l.map Sl.stm)) .no]] .no]] .no]:=rfl
attribute [local go_sem] cvpK nilpK onenK disown_fl owned_fl own_fl
set_option maxHeartbeats 16000000 in
theorem Krun_S (l:List Sl)(most:Int)(o:Own)(hx:SrcOk (slX l))(hr:rightE (slX l)=0)(hmain:(namesN (slX l)).main=0)(hok:SlOk (namesN (slX l)).vars (namesN (slX l)).fields l)(hm0:0≤most)(hm1:most≤16384)(hvl:(namesN (slX l)).vars.length≤1000000)(hfl:(namesN (slX l)).fields.length≤1000000)(t:St) :
  SRet Tryz.prog 4 [srcV (slX l),.lst [] o,.int .i64 most] t
   (.tup [.agg [.lst (rowsV (sortR (runK (namesN (slX l)).vars (namesN (slX l)).fields l (min l.length most.toNat)).seen)) .no,.lst (rowsV (sortR (runK (namesN (slX l)).vars (namesN (slX l)).fields l (min l.length most.toNat)).heap)) .no,.lst [] .no,.lst (rowsV (sortR (runK (namesN (slX l)).vars (namesN (slX l)).fields l (min l.length most.toNat)).seen)) .no,.int .i64 ((min l.length most.toNat:Nat):Int),.bool !(decide (most<l.length))],.int .i64 0]) t:=by
 have w0:=fun s=>CNames_S (slX l) hx s
 have hnr:namesR (slX l)=namesN (slX l):=if_pos hr
 rw[hnr,hr]at w0
 have hll:=hok.len
 generalize namesN (slX l)=R at *
 simp only[fctN,hmain]at w0
 have w1:=fun s=>Kplaces_S R.vars .no hvl s
 have w2:=fun s=>Kplaces_S R.fields .no hfl s
 have HOK:=Lib.hid hok
 rw[slX_src]at w0 ⊢
 clear hx hr hnr hok hvl hfl hmain
 refine G_enter Tryz.func4 rfl Tryz.ntmps4 rfl fun Q hQ hQe=>?_
 (repeat'(first|(with_reducible refine Kp_atK 6 ?_)|refine Ctl ?_|((with_reducible refine Kof.use hK ?_);clear hK hE K E)|((with_reducible refine Eof.use hE ?_);(try clear hK hE K E))|((with_reducible refine Kof.use hKh ?_);clear hKh Kh)|((with_reducible refine Kof.use hKb (P_next ?_));clear hKb Kb)|(with_reducible first|refine G_planT 6 (.two [0,1,2,3,5,6,9,10] 4 [[0,1,5,6,9,10]] (.two [] 7 [[],[0,1,9,10]] (.one [] 8 [[],[],[0,1,9,10]] (.one [11] 12 [[],[],[],[]] (.fin [13]))) 8 [[],[0,1,5,6,9,10]] (.one [] 7 [[],[],[0,1,9,10]] (.one [11] 12 [[],[],[],[]] (.fin [13])))) 8 [[0,1,2,3,5,6,9,10]] (.one [] 4 [[],[0,1,5,6,9,10]] (.one [] 7 [[],[],[0,1,9,10]] (.one [11] 12 [[],[],[],[]] (.fin [13]))))) hQe fun K E hK hE=>?_|refine G_plan 7 [] [0,1,2,3,4,5,6,7,8,9,10,11,12,13,14] hQe fun K E hK hE=>?_|refine G_plan 19 [([0,1,2,3,4,5,6,7,8,9,10,11,12,13],14,[[0,1,2,3,4,5,6,7,8,9,10,11]]),([15,16],17,[[],[0]]),([18,19],20,[[],[],[]])] [] hQe fun K E hK hE=>?_|refine G_plan 22 [([0,1,2,6,7,8,9,10,11,12,13,14],3,[[0,1,2,6,7,8,9,10,11,12,13,14]]),([4],5,[[],[0,6,7,8,9,10,11,12,13,14]]),([],15,[[],[],[]])] [] hQe fun K E hK hE=>?_|refine G_plan 23 [([0,1,2,4,5,6,8,9,10,12,13,14,16,17,18,19,20,21,22,23,24],3,[[4,5,6,8,9,10,12,13,14,16,17,18,19,20,21,22,23,24]]),([],7,[[],[8,9,10,12,13,14,16,17,18,19,20,21,22,23,24]]),([],11,[[],[],[12,13,14,16,17,18,19,20,21,22,23,24]]),([],15,[[],[],[],[16,17,18,19,20,21,22,23,24]]),([25],26,[[],[],[],[],[]])] [27] hQe fun K E hK hE=>?_)|((with_reducible refine W_cond (fun h=>?_) (fun h=>?_))<;>(try(exfalso;first|assumption|omega)))|((first|(with_reducible first|refine G_region fun K E hK hE=>?_|refine call_ret can7 (w0 _) ?_|refine W_if ?_|refine W_ifS ?_|refine P_heads fun Kh hKh=>?_|refine P_fin fun Kh hKh=>?_|refine P_each fun Kb hKb=>?_|refine T_heads fun Kh hKh=>?_|refine T_fin fun Kh hKh=>?_|refine T_two fun Kh hKh=>?_|refine T_both (fun Kb hKb=>?_) (fun Kb hKb=>?_)|refine W_and ?_)|((with_reducible refine W_fresh (fun b hb=>?_));(repeat(obtain⟨_,hb⟩:=hb)))|((with_reducible refine W_app (fun o2 ho=>?_));(repeat(obtain⟨_,ho⟩:=ho)))|((with_reducible refine W_appM (fun bM hM=>?_)))|((with_reducible refine W_app0 (fun bM hM=>?_)))|((with_reducible refine W_gd (fun h=>?_) (fun h=>?_))<;>(try(exfalso;first|assumption|omega))))<;>(try simp(disch:=first|assumption|omega) only[go_sem,seval, *]))))
 unfold StopK
 rename_i x3 g3 x6 _ _ g6 _ _ _ _ _ _
 obtain⟨x8,hx8⟩:∃z,z=b:=⟨_,rfl⟩
 subst hx8
 refine Kp_nameK fun S hS=>?_
 have z3:S x3=.obj 31 [.lst [[.str [77,97,105,110],.str [],.lst [[.bool true,.str [109,97,105,110],.lst [] .no,.lst (stsC (l.map Sl.stm)) .no]] .no]] .no]:=by rw[hS];simp only[St.set,if_true,if_false, *]
 have z6:S x6=.obj 37 [.lst [] .full,.lst [] .full,.lst [] .full,.lst [] .full,.int .i64 0,.bool false]:=by rw[hS];simp only[St.set,if_true,if_false, *]
 obtain⟨A0,A2,A3,A5,A6,A7,hA,z8⟩:∃A0 A2 A3 A5 A6 A7:VV,(A0.one=true∧A2.one=true∧A3.one=true∧A5.one=true∧A6.one=true∧A7.one=true)∧S x8=.obj 47 [A0,.lst (strs R.vars) .no,A2,A3,.lst (strs R.fields) .no,A5,A6,A7,.int .i64 0,.lst [] .full,.lst [] .full,.lst [] .full,.lst [] .full,.lst [] .full,.lst [] .full,.lst [] .full,.lst [] .full,.lst [] .full,.lst [] .full,.lst [] .full,.lst [] .full]:=
  ⟨_,_,_,_,_,_,⟨rfl,rfl,rfl,rfl,rfl,rfl⟩,by rw[hS];exact St.set_same _ _ _⟩
 obtain⟨a0,a2,a3,a5,a6,a7⟩:=hA
 have hk3:∀z,t z≠.free→S z=t z∧z≠x6:=fun z hz=>⟨by rw[hS];exact keep3 g3 g6 hb z hz,liveK hz g6⟩
 have HS:=Lib.hid hk3
 have f3:S x3≠.free:=by rw[z3];simp
 have f6:S x6≠.free:=by rw[z6];simp
 have f8:S x8≠.free:=by rw[z8];simp
 have n36:¬ x3=x6:=neC z3 z6 (by simp)
 have n38:¬ x3=x8:=neC z3 z8 (by simp)
 have n68:¬ x6=x8:=neC z6 z8 (by simp)
 clear w0 hS hk3 g3 g6 hb
 (repeat'(first|(with_reducible refine Kp_atK 7 ?_)|refine Ctl ?_|((with_reducible refine Kof.use hK ?_);clear hK hE K E)|((with_reducible refine Eof.use hE ?_);(try clear hK hE K E))|((with_reducible refine Kof.use hKh ?_);clear hKh Kh)|((with_reducible refine Kof.use hKb (P_next ?_));clear hKb Kb)|(with_reducible first|refine G_planT 6 (.two [0,1,2,3,5,6,9,10] 4 [[0,1,5,6,9,10]] (.two [] 7 [[],[0,1,9,10]] (.one [] 8 [[],[],[0,1,9,10]] (.one [11] 12 [[],[],[],[]] (.fin [13]))) 8 [[],[0,1,5,6,9,10]] (.one [] 7 [[],[],[0,1,9,10]] (.one [11] 12 [[],[],[],[]] (.fin [13])))) 8 [[0,1,2,3,5,6,9,10]] (.one [] 4 [[],[0,1,5,6,9,10]] (.one [] 7 [[],[],[0,1,9,10]] (.one [11] 12 [[],[],[],[]] (.fin [13]))))) hQe fun K E hK hE=>?_|refine G_plan 7 [] [0,1,2,3,4,5,6,7,8,9,10,11,12,13,14] hQe fun K E hK hE=>?_|refine G_plan 19 [([0,1,2,3,4,5,6,7,8,9,10,11,12,13],14,[[0,1,2,3,4,5,6,7,8,9,10,11]]),([15,16],17,[[],[0]]),([18,19],20,[[],[],[]])] [] hQe fun K E hK hE=>?_|refine G_plan 22 [([0,1,2,6,7,8,9,10,11,12,13,14],3,[[0,1,2,6,7,8,9,10,11,12,13,14]]),([4],5,[[],[0,6,7,8,9,10,11,12,13,14]]),([],15,[[],[],[]])] [] hQe fun K E hK hE=>?_|refine G_plan 23 [([0,1,2,4,5,6,8,9,10,12,13,14,16,17,18,19,20,21,22,23,24],3,[[4,5,6,8,9,10,12,13,14,16,17,18,19,20,21,22,23,24]]),([],7,[[],[8,9,10,12,13,14,16,17,18,19,20,21,22,23,24]]),([],11,[[],[],[12,13,14,16,17,18,19,20,21,22,23,24]]),([],15,[[],[],[],[16,17,18,19,20,21,22,23,24]]),([25],26,[[],[],[],[],[]])] [27] hQe fun K E hK hE=>?_)|((with_reducible refine W_cond (fun h=>?_) (fun h=>?_))<;>(try(exfalso;first|assumption|omega)))|((first|(with_reducible first|refine G_region fun K E hK hE=>?_|refine W_if ?_|refine W_ifS ?_|refine P_heads fun Kh hKh=>?_|refine P_fin fun Kh hKh=>?_|refine P_each fun Kb hKb=>?_|refine T_heads fun Kh hKh=>?_|refine T_fin fun Kh hKh=>?_|refine T_two fun Kh hKh=>?_|refine T_both (fun Kb hKb=>?_) (fun Kb hKb=>?_)|refine W_and ?_)|((with_reducible refine call_ex can8 (w1 _) (fun a h=>?_));((try simp only[set_free_m,set_free_o]at h);(repeat(obtain⟨_,h⟩:=h));(obtain⟨_,_⟩:=nef h f3);(obtain⟨_,_⟩:=nef h f6);(obtain⟨_,_⟩:=nef h f8)))|((with_reducible refine call_ex can8 (w2 _) (fun a h=>?_));((try simp only[set_free_m,set_free_o]at h);(repeat(obtain⟨_,h⟩:=h));(obtain⟨_,_⟩:=nef h f3);(obtain⟨_,_⟩:=nef h f6);(obtain⟨_,_⟩:=nef h f8)))|((with_reducible refine W_fresh (fun b hb=>?_));(repeat(obtain⟨_,hb⟩:=hb));(try((obtain⟨_,_⟩:=nef hb f3);(obtain⟨_,_⟩:=nef hb f6);(obtain⟨_,_⟩:=nef hb f8))))|((with_reducible refine W_app (fun o2 ho=>?_));(repeat(obtain⟨_,ho⟩:=ho)))|((with_reducible refine W_appM (fun bM hM=>?_)))|((with_reducible refine W_app0 (fun bM hM=>?_)))|((with_reducible refine W_gd (fun h=>?_) (fun h=>?_))<;>(try(exfalso;first|assumption|omega))))<;>(try simp(disch:=first|assumption|omega) only[go_sem,seval, *]))))
 all_goals
  unfold StopK
  obtain⟨p,hp⟩:∃z,z=b:=⟨_,rfl⟩
  subst hp
  refine Kp_nameK fun S7 hS7=>?_
  have hF:Fg S7 S:=by rw[hS7];(exact z_fg)
  have hk7:∀z,S z≠.free→S7 z=S z:=fun z hz=>((hF z).resolve_left hz).symm
  have y3:S7 x3=_:=(hk7 _ f3).trans z3
  have y6:S7 x6=_:=(hk7 _ f6).trans z6
  have y8:S7 x8=_:=(hk7 _ f8).trans z8
  obtain⟨q1,q2,q3,z7,zq1,zq2,zq3,nq⟩:∃q1 q2 q3:Nat,S7 p=.obj 59 [.lst [[.str [77,97,105,110],.str [],.lst [[.bool true,.str [109,97,105,110],.lst [] .no,.lst (stsC (l.map Sl.stm)) .no]] .no]] .no,A0,.lst (strs R.vars) .no,A2,A3,.lst (strs R.fields) .no,A5,A6,A7,.int .i64 0,.lst [] .full,.lst [] .full,.lst [] .full,.lst [] .full,.lst [] .full,.lst [] .full,.lst [] .full,.lst [] .full,.lst [] .full,.lst [] .full,.lst [] .full,.lst [] .full,.lst [] .full,.mp q1,.mp q2,.mp q3,.lst [] o,.int .i64 most,.int .i64 0,.bool false,.lst [] .full,.raw (.map none),.lst [] .full,.raw (.map none),.lst [] .full,.raw (.map none),.lst [] .full,.raw (.map none)]∧S7 q1=.map (mpV encI (plcP R.vars))∧S7 q2=.map (mpV encI (plcP R.fields))∧S7 q3=.map []∧¬ q1=q2∧¬ q1=q3∧¬ q2=q3:=
   ⟨_,_,_,(congrFun hS7 p).trans (St.set_same _ _ _),by rw[hS7];simp only[St.set,if_true,if_false, *],by rw[hS7];simp only[St.set,if_true,if_false, *],by rw[hS7];simp only[St.set,if_true,if_false, *],by assumption,by assumption,by assumption⟩
  dsimp only at z7
  have HS7:Hid (∀z,t z≠.free→S7 z=t z∧z≠x6∧z≠p):=Lib.hid fun z hz=>⟨by rw[hk7 z (by rw[(HS.out z hz).1];exact hz)];exact(HS.out z hz).1,(HS.out z hz).2,liveK (by rw[(HS.out z hz).1];exact hz) hb⟩
  clear hS7 hF hk7 z3 z6 z8 f3 f6 f8 HS
  have HY:=Lib.hid (And.intro y3 (And.intro y6 (And.intro y8 (And.intro zq1 (And.intro zq2 zq3)))))
  have f3:S7 x3≠.free:=by rw[y3];simp
  have f6:S7 x6≠.free:=by rw[y6];simp
  have f8:S7 x8≠.free:=by rw[y8];simp
  have fp:S7 p≠.free:=by rw[z7];simp
  have fq1:S7 q1≠.free:=by rw[zq1];simp
  have fq2:S7 q2≠.free:=by rw[zq2];simp
  have fq3:S7 q3≠.free:=by rw[zq3];simp
  (repeat'(first|refine Ctl ?_|((with_reducible refine Kof.use hK ?_);clear hK hE K E)|((with_reducible refine Eof.use hE ?_);(try clear hK hE K E))|((with_reducible refine Kof.use hKh ?_);clear hKh Kh)|((with_reducible refine Kof.use hKb (P_next ?_));clear hKb Kb)|(with_reducible first|refine G_planT 6 (.two [0,1,2,3,5,6,9,10] 4 [[0,1,5,6,9,10]] (.two [] 7 [[],[0,1,9,10]] (.one [] 8 [[],[],[0,1,9,10]] (.one [11] 12 [[],[],[],[]] (.fin [13]))) 8 [[],[0,1,5,6,9,10]] (.one [] 7 [[],[],[0,1,9,10]] (.one [11] 12 [[],[],[],[]] (.fin [13])))) 8 [[0,1,2,3,5,6,9,10]] (.one [] 4 [[],[0,1,5,6,9,10]] (.one [] 7 [[],[],[0,1,9,10]] (.one [11] 12 [[],[],[],[]] (.fin [13]))))) hQe fun K E hK hE=>?_|refine G_plan 7 [] [0,1,2,3,4,5,6,7,8,9,10,11,12,13,14] hQe fun K E hK hE=>?_|refine G_plan 19 [([0,1,2,3,4,5,6,7,8,9,10,11,12,13],14,[[0,1,2,3,4,5,6,7,8,9,10,11]]),([15,16],17,[[],[0]]),([18,19],20,[[],[],[]])] [] hQe fun K E hK hE=>?_|refine G_plan 22 [([0,1,2,6,7,8,9,10,11,12,13,14],3,[[0,1,2,6,7,8,9,10,11,12,13,14]]),([4],5,[[],[0,6,7,8,9,10,11,12,13,14]]),([],15,[[],[],[]])] [] hQe fun K E hK hE=>?_|refine G_plan 23 [([0,1,2,4,5,6,8,9,10,12,13,14,16,17,18,19,20,21,22,23,24],3,[[4,5,6,8,9,10,12,13,14,16,17,18,19,20,21,22,23,24]]),([],7,[[],[8,9,10,12,13,14,16,17,18,19,20,21,22,23,24]]),([],11,[[],[],[12,13,14,16,17,18,19,20,21,22,23,24]]),([],15,[[],[],[],[16,17,18,19,20,21,22,23,24]]),([25],26,[[],[],[],[],[]])] [27] hQe fun K E hK hE=>?_)|((with_reducible refine W_cond (fun h=>?_) (fun h=>?_))<;>(try(exfalso;first|assumption|omega)))|((first|(with_reducible first|refine G_region fun K E hK hE=>?_|refine W_if ?_|refine W_ifS ?_|refine P_heads fun Kh hKh=>?_|refine P_fin fun Kh hKh=>?_|refine P_each fun Kb hKb=>?_|refine T_heads fun Kh hKh=>?_|refine T_fin fun Kh hKh=>?_|refine T_two fun Kh hKh=>?_|refine T_both (fun Kb hKb=>?_) (fun Kb hKb=>?_)|refine W_and ?_)|((with_reducible refine W_fresh (fun b hb=>?_));(repeat(obtain⟨_,hb⟩:=hb)))|((with_reducible refine W_app (fun o2 ho=>?_));(repeat(obtain⟨_,ho⟩:=ho)))|((with_reducible refine W_appM (fun bM hM=>?_)))|((with_reducible refine W_app0 (fun bM hM=>?_)))|((with_reducible refine W_gd (fun h=>?_) (fun h=>?_))<;>(try(exfalso;first|assumption|omega))))<;>(try simp(disch:=first|assumption|omega) only[go_sem,seval, *]))))
  refine L_rounds 5 (KR_succ 4 ?_)
  (repeat'(first|refine Ctl ?_|((with_reducible refine Kof.use hK ?_);clear hK hE K E)|((with_reducible refine Eof.use hE ?_);(try clear hK hE K E))|((with_reducible refine Kof.use hKh ?_);clear hKh Kh)|((with_reducible refine Kof.use hKb (P_next ?_));clear hKb Kb)|(with_reducible first|refine G_planT 6 (.two [0,1,2,3,5,6,9,10] 4 [[0,1,5,6,9,10]] (.two [] 7 [[],[0,1,9,10]] (.one [] 8 [[],[],[0,1,9,10]] (.one [11] 12 [[],[],[],[]] (.fin [13]))) 8 [[],[0,1,5,6,9,10]] (.one [] 7 [[],[],[0,1,9,10]] (.one [11] 12 [[],[],[],[]] (.fin [13])))) 8 [[0,1,2,3,5,6,9,10]] (.one [] 4 [[],[0,1,5,6,9,10]] (.one [] 7 [[],[],[0,1,9,10]] (.one [11] 12 [[],[],[],[]] (.fin [13]))))) hQe fun K E hK hE=>?_|refine G_plan 7 [] [0,1,2,3,4,5,6,7,8,9,10,11,12,13,14] hQe fun K E hK hE=>?_|refine G_plan 19 [([0,1,2,3,4,5,6,7,8,9,10,11,12,13],14,[[0,1,2,3,4,5,6,7,8,9,10,11]]),([15,16],17,[[],[0]]),([18,19],20,[[],[],[]])] [] hQe fun K E hK hE=>?_|refine G_plan 22 [([0,1,2,6,7,8,9,10,11,12,13,14],3,[[0,1,2,6,7,8,9,10,11,12,13,14]]),([4],5,[[],[0,6,7,8,9,10,11,12,13,14]]),([],15,[[],[],[]])] [] hQe fun K E hK hE=>?_|refine G_plan 23 [([0,1,2,4,5,6,8,9,10,12,13,14,16,17,18,19,20,21,22,23,24],3,[[4,5,6,8,9,10,12,13,14,16,17,18,19,20,21,22,23,24]]),([],7,[[],[8,9,10,12,13,14,16,17,18,19,20,21,22,23,24]]),([],11,[[],[],[12,13,14,16,17,18,19,20,21,22,23,24]]),([],15,[[],[],[],[16,17,18,19,20,21,22,23,24]]),([25],26,[[],[],[],[],[]])] [27] hQe fun K E hK hE=>?_)|((with_reducible refine W_cond (fun h=>?_) (fun h=>?_))<;>(try(exfalso;first|assumption|omega)))|((first|(with_reducible first|refine G_region fun K E hK hE=>?_|refine W_if ?_|refine W_ifS ?_|refine P_heads fun Kh hKh=>?_|refine P_fin fun Kh hKh=>?_|refine P_each fun Kb hKb=>?_|refine T_heads fun Kh hKh=>?_|refine T_fin fun Kh hKh=>?_|refine T_two fun Kh hKh=>?_|refine T_both (fun Kb hKb=>?_) (fun Kb hKb=>?_)|refine W_and ?_)|((with_reducible refine W_fresh (fun b hb=>?_));(repeat(obtain⟨_,hb⟩:=hb));(try((obtain⟨_,_⟩:=nef hb fp);(obtain⟨_,_⟩:=nef hb f3);(obtain⟨_,_⟩:=nef hb f6);(obtain⟨_,_⟩:=nef hb f8);(obtain⟨_,_⟩:=nef hb fq1);(obtain⟨_,_⟩:=nef hb fq2);(obtain⟨_,_⟩:=nef hb fq3))))|((with_reducible refine W_app (fun o2 ho=>?_));(repeat(obtain⟨_,ho⟩:=ho)))|((with_reducible refine W_appM (fun bM hM=>?_)))|((with_reducible refine W_app0 (fun bM hM=>?_)))|((with_reducible refine W_gd (fun h=>?_) (fun h=>?_))<;>(try(exfalso;first|assumption|omega))))<;>(try simp(disch:=first|assumption|omega) only[go_sem,seval, *]))))
  refine KR_succ 3 ?_
  (repeat'(first|refine Ctl ?_|((with_reducible refine Kof.use hK ?_);clear hK hE K E)|((with_reducible refine Eof.use hE ?_);(try clear hK hE K E))|((with_reducible refine Kof.use hKh ?_);clear hKh Kh)|((with_reducible refine Kof.use hKb (P_next ?_));clear hKb Kb)|(with_reducible first|refine G_planT 6 (.two [0,1,2,3,5,6,9,10] 4 [[0,1,5,6,9,10]] (.two [] 7 [[],[0,1,9,10]] (.one [] 8 [[],[],[0,1,9,10]] (.one [11] 12 [[],[],[],[]] (.fin [13]))) 8 [[],[0,1,5,6,9,10]] (.one [] 7 [[],[],[0,1,9,10]] (.one [11] 12 [[],[],[],[]] (.fin [13])))) 8 [[0,1,2,3,5,6,9,10]] (.one [] 4 [[],[0,1,5,6,9,10]] (.one [] 7 [[],[],[0,1,9,10]] (.one [11] 12 [[],[],[],[]] (.fin [13]))))) hQe fun K E hK hE=>?_|refine G_plan 7 [] [0,1,2,3,4,5,6,7,8,9,10,11,12,13,14] hQe fun K E hK hE=>?_|refine G_plan 19 [([0,1,2,3,4,5,6,7,8,9,10,11,12,13],14,[[0,1,2,3,4,5,6,7,8,9,10,11]]),([15,16],17,[[],[0]]),([18,19],20,[[],[],[]])] [] hQe fun K E hK hE=>?_|refine G_plan 22 [([0,1,2,6,7,8,9,10,11,12,13,14],3,[[0,1,2,6,7,8,9,10,11,12,13,14]]),([4],5,[[],[0,6,7,8,9,10,11,12,13,14]]),([],15,[[],[],[]])] [] hQe fun K E hK hE=>?_|refine G_plan 23 [([0,1,2,4,5,6,8,9,10,12,13,14,16,17,18,19,20,21,22,23,24],3,[[4,5,6,8,9,10,12,13,14,16,17,18,19,20,21,22,23,24]]),([],7,[[],[8,9,10,12,13,14,16,17,18,19,20,21,22,23,24]]),([],11,[[],[],[12,13,14,16,17,18,19,20,21,22,23,24]]),([],15,[[],[],[],[16,17,18,19,20,21,22,23,24]]),([25],26,[[],[],[],[],[]])] [27] hQe fun K E hK hE=>?_)|((with_reducible refine W_cond (fun h=>?_) (fun h=>?_))<;>(try(exfalso;first|assumption|omega)))|((first|(with_reducible first|refine G_region fun K E hK hE=>?_|refine W_if ?_|refine W_ifS ?_|refine P_heads fun Kh hKh=>?_|refine P_fin fun Kh hKh=>?_|refine P_each fun Kb hKb=>?_|refine T_heads fun Kh hKh=>?_|refine T_fin fun Kh hKh=>?_|refine T_two fun Kh hKh=>?_|refine T_both (fun Kb hKb=>?_) (fun Kb hKb=>?_)|refine W_and ?_)|((with_reducible refine W_fresh (fun b hb=>?_));(repeat(obtain⟨_,hb⟩:=hb));(try((obtain⟨_,_⟩:=nef hb fp);(obtain⟨_,_⟩:=nef hb f3);(obtain⟨_,_⟩:=nef hb f6);(obtain⟨_,_⟩:=nef hb f8);(obtain⟨_,_⟩:=nef hb fq1);(obtain⟨_,_⟩:=nef hb fq2);(obtain⟨_,_⟩:=nef hb fq3))))|((with_reducible refine W_app (fun o2 ho=>?_));(repeat(obtain⟨_,ho⟩:=ho)))|((with_reducible refine W_appM (fun bM hM=>?_)))|((with_reducible refine W_app0 (fun bM hM=>?_)))|((with_reducible refine W_gd (fun h=>?_) (fun h=>?_))<;>(try(exfalso;first|assumption|omega))))<;>(try simp(disch:=first|assumption|omega) only[go_sem,seval, *]))))
  refine KR_succ 2 ?_
  (repeat'(first|refine Ctl ?_|((with_reducible refine Kof.use hK ?_);clear hK hE K E)|((with_reducible refine Eof.use hE ?_);(try clear hK hE K E))|((with_reducible refine Kof.use hKh ?_);clear hKh Kh)|((with_reducible refine Kof.use hKb (P_next ?_));clear hKb Kb)|(with_reducible first|refine G_planT 6 (.two [0,1,2,3,5,6,9,10] 4 [[0,1,5,6,9,10]] (.two [] 7 [[],[0,1,9,10]] (.one [] 8 [[],[],[0,1,9,10]] (.one [11] 12 [[],[],[],[]] (.fin [13]))) 8 [[],[0,1,5,6,9,10]] (.one [] 7 [[],[],[0,1,9,10]] (.one [11] 12 [[],[],[],[]] (.fin [13])))) 8 [[0,1,2,3,5,6,9,10]] (.one [] 4 [[],[0,1,5,6,9,10]] (.one [] 7 [[],[],[0,1,9,10]] (.one [11] 12 [[],[],[],[]] (.fin [13]))))) hQe fun K E hK hE=>?_|refine G_plan 7 [] [0,1,2,3,4,5,6,7,8,9,10,11,12,13,14] hQe fun K E hK hE=>?_|refine G_plan 19 [([0,1,2,3,4,5,6,7,8,9,10,11,12,13],14,[[0,1,2,3,4,5,6,7,8,9,10,11]]),([15,16],17,[[],[0]]),([18,19],20,[[],[],[]])] [] hQe fun K E hK hE=>?_|refine G_plan 22 [([0,1,2,6,7,8,9,10,11,12,13,14],3,[[0,1,2,6,7,8,9,10,11,12,13,14]]),([4],5,[[],[0,6,7,8,9,10,11,12,13,14]]),([],15,[[],[],[]])] [] hQe fun K E hK hE=>?_|refine G_plan 23 [([0,1,2,4,5,6,8,9,10,12,13,14,16,17,18,19,20,21,22,23,24],3,[[4,5,6,8,9,10,12,13,14,16,17,18,19,20,21,22,23,24]]),([],7,[[],[8,9,10,12,13,14,16,17,18,19,20,21,22,23,24]]),([],11,[[],[],[12,13,14,16,17,18,19,20,21,22,23,24]]),([],15,[[],[],[],[16,17,18,19,20,21,22,23,24]]),([25],26,[[],[],[],[],[]])] [27] hQe fun K E hK hE=>?_)|((with_reducible refine W_cond (fun h=>?_) (fun h=>?_))<;>(try(exfalso;first|assumption|omega)))|((first|(with_reducible first|refine G_region fun K E hK hE=>?_|refine W_if ?_|refine W_ifS ?_|refine P_heads fun Kh hKh=>?_|refine P_fin fun Kh hKh=>?_|refine P_each fun Kb hKb=>?_|refine T_heads fun Kh hKh=>?_|refine T_fin fun Kh hKh=>?_|refine T_two fun Kh hKh=>?_|refine T_both (fun Kb hKb=>?_) (fun Kb hKb=>?_)|refine W_and ?_)|((with_reducible refine W_fresh (fun b hb=>?_));(repeat(obtain⟨_,hb⟩:=hb));(try((obtain⟨_,_⟩:=nef hb fp);(obtain⟨_,_⟩:=nef hb f3);(obtain⟨_,_⟩:=nef hb f6);(obtain⟨_,_⟩:=nef hb f8);(obtain⟨_,_⟩:=nef hb fq1);(obtain⟨_,_⟩:=nef hb fq2);(obtain⟨_,_⟩:=nef hb fq3))))|((with_reducible refine W_app (fun o2 ho=>?_));(repeat(obtain⟨_,ho⟩:=ho)))|((with_reducible refine W_appM (fun bM hM=>?_)))|((with_reducible refine W_app0 (fun bM hM=>?_)))|((with_reducible refine W_gd (fun h=>?_) (fun h=>?_))<;>(try(exfalso;first|assumption|omega))))<;>(try simp(disch:=first|assumption|omega) only[go_sem,seval, *]))))
  refine KR_succ 1 ?_
  (repeat'(first|refine Ctl ?_|((with_reducible refine Kof.use hK ?_);clear hK hE K E)|((with_reducible refine Eof.use hE ?_);(try clear hK hE K E))|((with_reducible refine Kof.use hKh ?_);clear hKh Kh)|((with_reducible refine Kof.use hKb (P_next ?_));clear hKb Kb)|(with_reducible first|refine G_planT 6 (.two [0,1,2,3,5,6,9,10] 4 [[0,1,5,6,9,10]] (.two [] 7 [[],[0,1,9,10]] (.one [] 8 [[],[],[0,1,9,10]] (.one [11] 12 [[],[],[],[]] (.fin [13]))) 8 [[],[0,1,5,6,9,10]] (.one [] 7 [[],[],[0,1,9,10]] (.one [11] 12 [[],[],[],[]] (.fin [13])))) 8 [[0,1,2,3,5,6,9,10]] (.one [] 4 [[],[0,1,5,6,9,10]] (.one [] 7 [[],[],[0,1,9,10]] (.one [11] 12 [[],[],[],[]] (.fin [13]))))) hQe fun K E hK hE=>?_|refine G_plan 7 [] [0,1,2,3,4,5,6,7,8,9,10,11,12,13,14] hQe fun K E hK hE=>?_|refine G_plan 19 [([0,1,2,3,4,5,6,7,8,9,10,11,12,13],14,[[0,1,2,3,4,5,6,7,8,9,10,11]]),([15,16],17,[[],[0]]),([18,19],20,[[],[],[]])] [] hQe fun K E hK hE=>?_|refine G_plan 22 [([0,1,2,6,7,8,9,10,11,12,13,14],3,[[0,1,2,6,7,8,9,10,11,12,13,14]]),([4],5,[[],[0,6,7,8,9,10,11,12,13,14]]),([],15,[[],[],[]])] [] hQe fun K E hK hE=>?_|refine G_plan 23 [([0,1,2,4,5,6,8,9,10,12,13,14,16,17,18,19,20,21,22,23,24],3,[[4,5,6,8,9,10,12,13,14,16,17,18,19,20,21,22,23,24]]),([],7,[[],[8,9,10,12,13,14,16,17,18,19,20,21,22,23,24]]),([],11,[[],[],[12,13,14,16,17,18,19,20,21,22,23,24]]),([],15,[[],[],[],[16,17,18,19,20,21,22,23,24]]),([25],26,[[],[],[],[],[]])] [27] hQe fun K E hK hE=>?_)|((with_reducible refine W_cond (fun h=>?_) (fun h=>?_))<;>(try(exfalso;first|assumption|omega)))|((first|(with_reducible first|refine G_region fun K E hK hE=>?_|refine W_if ?_|refine W_ifS ?_|refine P_heads fun Kh hKh=>?_|refine P_fin fun Kh hKh=>?_|refine P_each fun Kb hKb=>?_|refine T_heads fun Kh hKh=>?_|refine T_fin fun Kh hKh=>?_|refine T_two fun Kh hKh=>?_|refine T_both (fun Kb hKb=>?_) (fun Kb hKb=>?_)|refine W_and ?_)|((with_reducible refine W_fresh (fun b hb=>?_));(repeat(obtain⟨_,hb⟩:=hb));(try((obtain⟨_,_⟩:=nef hb fp);(obtain⟨_,_⟩:=nef hb f3);(obtain⟨_,_⟩:=nef hb f6);(obtain⟨_,_⟩:=nef hb f8);(obtain⟨_,_⟩:=nef hb fq1);(obtain⟨_,_⟩:=nef hb fq2);(obtain⟨_,_⟩:=nef hb fq3))))|((with_reducible refine W_app (fun o2 ho=>?_));(repeat(obtain⟨_,ho⟩:=ho)))|((with_reducible refine W_appM (fun bM hM=>?_)))|((with_reducible refine W_app0 (fun bM hM=>?_)))|((with_reducible refine W_gd (fun h=>?_) (fun h=>?_))<;>(try(exfalso;first|assumption|omega))))<;>(try simp(disch:=first|assumption|omega) only[go_sem,seval, *]))))
  refine KR_succ 0 ?_
  (repeat'(first|(with_reducible refine Kp_atK 12 ?_)|refine Ctl ?_|((with_reducible refine Kof.use hK ?_);clear hK hE K E)|((with_reducible refine Eof.use hE ?_);(try clear hK hE K E))|((with_reducible refine Kof.use hKh ?_);clear hKh Kh)|((with_reducible refine Kof.use hKb (P_next ?_));clear hKb Kb)|(with_reducible first|refine G_planT 6 (.two [0,1,2,3,5,6,9,10] 4 [[0,1,5,6,9,10]] (.two [] 7 [[],[0,1,9,10]] (.one [] 8 [[],[],[0,1,9,10]] (.one [11] 12 [[],[],[],[]] (.fin [13]))) 8 [[],[0,1,5,6,9,10]] (.one [] 7 [[],[],[0,1,9,10]] (.one [11] 12 [[],[],[],[]] (.fin [13])))) 8 [[0,1,2,3,5,6,9,10]] (.one [] 4 [[],[0,1,5,6,9,10]] (.one [] 7 [[],[],[0,1,9,10]] (.one [11] 12 [[],[],[],[]] (.fin [13]))))) hQe fun K E hK hE=>?_|refine G_plan 7 [] [0,1,2,3,4,5,6,7,8,9,10,11,12,13,14] hQe fun K E hK hE=>?_|refine G_plan 19 [([0,1,2,3,4,5,6,7,8,9,10,11,12,13],14,[[0,1,2,3,4,5,6,7,8,9,10,11]]),([15,16],17,[[],[0]]),([18,19],20,[[],[],[]])] [] hQe fun K E hK hE=>?_|refine G_plan 22 [([0,1,2,6,7,8,9,10,11,12,13,14],3,[[0,1,2,6,7,8,9,10,11,12,13,14]]),([4],5,[[],[0,6,7,8,9,10,11,12,13,14]]),([],15,[[],[],[]])] [] hQe fun K E hK hE=>?_|refine G_plan 23 [([0,1,2,4,5,6,8,9,10,12,13,14,16,17,18,19,20,21,22,23,24],3,[[4,5,6,8,9,10,12,13,14,16,17,18,19,20,21,22,23,24]]),([],7,[[],[8,9,10,12,13,14,16,17,18,19,20,21,22,23,24]]),([],11,[[],[],[12,13,14,16,17,18,19,20,21,22,23,24]]),([],15,[[],[],[],[16,17,18,19,20,21,22,23,24]]),([25],26,[[],[],[],[],[]])] [27] hQe fun K E hK hE=>?_)|((with_reducible refine W_cond (fun h=>?_) (fun h=>?_))<;>(try(exfalso;first|assumption|omega)))|((first|(with_reducible first|refine G_region fun K E hK hE=>?_|refine W_if ?_|refine W_ifS ?_|refine P_heads fun Kh hKh=>?_|refine P_fin fun Kh hKh=>?_|refine P_each fun Kb hKb=>?_|refine T_heads fun Kh hKh=>?_|refine T_fin fun Kh hKh=>?_|refine T_two fun Kh hKh=>?_|refine T_both (fun Kb hKb=>?_) (fun Kb hKb=>?_)|refine W_and ?_)|((with_reducible refine W_fresh (fun b hb=>?_));(repeat(obtain⟨_,hb⟩:=hb));(try((obtain⟨_,_⟩:=nef hb fp);(obtain⟨_,_⟩:=nef hb f3);(obtain⟨_,_⟩:=nef hb f6);(obtain⟨_,_⟩:=nef hb f8);(obtain⟨_,_⟩:=nef hb fq1);(obtain⟨_,_⟩:=nef hb fq2);(obtain⟨_,_⟩:=nef hb fq3))))|((with_reducible refine W_app (fun o2 ho=>?_));(repeat(obtain⟨_,ho⟩:=ho)))|((with_reducible refine W_appM (fun bM hM=>?_)))|((with_reducible refine W_app0 (fun bM hM=>?_)))|((with_reducible refine W_gd (fun h=>?_) (fun h=>?_))<;>(try(exfalso;first|assumption|omega))))<;>(try simp(disch:=first|assumption|omega) only[go_sem,seval, *]))))
  unfold StopK
  refine Kp_nameK fun S12 hS12=>?_
  have hk12:∀z,S7 z≠.free→z≠p→S12 z=S7 z:=fun z hz hzp=>by
   rw[hS12]
   refine(St.set_other _ _ (liveK hz ?_)).trans ?_
   ·assumption
   refine(St.set_other _ _ (liveK hz ?_)).trans ?_
   ·assumption
   refine(St.set_other _ _ (liveK hz ?_)).trans ?_
   ·assumption
   refine(St.set_other _ _ (hzp)).trans ?_
   refine St.set_other _ _ (liveK hz ?_)
   assumption
  obtain⟨m0,m1,m3,m2,z12,zm0,zm1,zm2,zm3,nm0,nm1,nm2,nm3,nm4,nm5,nm6,nm7,nm8,nm9,nm10,nm11,nm12,nm13,nm14,nm15,nm16,nm17,nm18,nm19,nm20,nm21,nm22,nm23,nm24,nm25⟩:∃m0 m1 m3 m2:Nat,S12=((((S7.set m0 (.map [])).set p (.obj 59 [.lst [[.str [77,97,105,110],.str [],.lst [[.bool true,.str [109,97,105,110],.lst [] .no,.lst (stsC (l.map Sl.stm)) .no]] .no]] .no,A0,.lst (strs R.vars) .no,A2,A3,.lst (strs R.fields) .no,A5,A6,A7,.int .i64 0,.lst [] .full,.lst [] .full,.lst [] .full,.lst [] .full,.lst [] .full,.lst [] .full,.lst [] .full,.lst [] .full,.lst [] .full,.lst [] .full,.lst [] .full,.lst [] .full,.lst [] .full,.mp q1,.mp q2,.mp q3,.lst [] o,.int .i64 most,.int .i64 0,.bool false,.lst [] .full,.mp m0,.lst [] .full,.mp m1,.lst [] .full,.mp m3,.lst [] .full,.mp m2])).set m1 (.map [])).set m3 (.map [])).set m2 (.map [])∧S12 m0=.map []∧S12 m1=.map []∧S12 m2=.map []∧S12 m3=.map []∧¬ m0=m1∧¬ m0=m2∧¬ m0=m3∧¬ m1=m2∧¬ m1=m3∧¬ m2=m3∧¬ m0=q1∧¬ m0=q2∧¬ m0=q3∧¬ m1=q1∧¬ m1=q2∧¬ m1=q3∧¬ m2=q1∧¬ m2=q2∧¬ m2=q3∧¬ m3=q1∧¬ m3=q2∧¬ m3=q3∧¬ p=m0∧¬ p=m1∧¬ p=m2∧¬ p=m3∧S7 m0=.free∧S7 m1=.free∧S7 m2=.free∧S7 m3=.free:=
   ⟨_,_,_,_,hS12,by rw[hS12];simp only[St.set,if_true,if_false, *],by rw[hS12];simp only[St.set,if_true,if_false, *],by rw[hS12];simp only[St.set,if_true,if_false, *],by rw[hS12];simp only[St.set,if_true,if_false, *],by assumption,by assumption,by assumption,by assumption,by assumption,by assumption,by assumption,by assumption,by assumption,by assumption,by assumption,by assumption,by assumption,by assumption,by assumption,by assumption,by assumption,by assumption,by assumption,by assumption,by assumption,by assumption,by assumption,by assumption,by assumption,by assumption⟩
  have z13:S12 p=.obj 59 [.lst [[.str [77,97,105,110],.str [],.lst [[.bool true,.str [109,97,105,110],.lst [] .no,.lst (stsC (l.map Sl.stm)) .no]] .no]] .no,A0,.lst (strs R.vars) .no,A2,A3,.lst (strs R.fields) .no,A5,A6,A7,.int .i64 0,.lst [] .full,.lst [] .full,.lst [] .full,.lst [] .full,.lst [] .full,.lst [] .full,.lst [] .full,.lst [] .full,.lst [] .full,.lst [] .full,.lst [] .full,.lst [] .full,.lst [] .full,.mp q1,.mp q2,.mp q3,.lst [] o,.int .i64 most,.int .i64 0,.bool false,.lst [] .full,.mp m0,.lst [] .full,.mp m1,.lst [] .full,.mp m3,.lst [] .full,.mp m2]:=by rw[z12];simp only[St.set,if_true,if_false, *]
  clear z12 hS12
  dsimp only at z13
  have p6:¬ x6=p:=neC y6 z7 (by simp)
  have p8:¬ x8=p:=neC y8 z7 (by simp)
  have p3:¬ x3=p:=neC y3 z7 (by simp)
  have pq1:¬ q1=p:=neC zq1 z7 (by simp)
  have pq2:¬ q2=p:=neC zq2 z7 (by simp)
  have w3:S12 x3=_:=(hk12 _ f3 p3).trans y3
  have w6:S12 x6=_:=(hk12 _ f6 p6).trans y6
  have w8:S12 x8=_:=(hk12 _ f8 p8).trans y8
  have wq1:S12 q1=_:=(hk12 _ fq1 pq1).trans zq1
  have wq2:S12 q2=_:=(hk12 _ fq2 pq2).trans zq2
  have HS12:Hid (∀z,t z≠.free→S12 z=t z∧z≠x6∧z≠p∧z≠m0∧z≠m1∧z≠m2∧z≠m3):=Lib.hid fun z hz=>by
   obtain⟨a1,a2,a3⟩:=HS7.out z hz
   have hz7:S7 z≠.free:=by rw[a1];exact hz
   exact⟨(hk12 z hz7 a3).trans a1,a2,a3,liveK hz7 (by assumption),liveK hz7 (by assumption),liveK hz7 (by assumption),liveK hz7 (by assumption)⟩
  refine Kp_gs (GS.rawnil (i:=30) z13 rfl) ?_
  refine Kp_gs (GS.rawnil (i:=32) (St.set_same _ _ _) rfl) ?_
  refine Kp_gs (GS.rawnil (i:=34) (St.set_same _ _ _) rfl) ?_
  refine Kp_gs (GS.rawnil (i:=36) (St.set_same _ _ _) rfl) ?_
  simp only[St.set_set]
  refine Kp_nameK fun S13 hS13=>?_
  have v0:S13 p=.obj 59 [.lst [[.str [77,97,105,110],.str [],.lst [[.bool true,.str [109,97,105,110],.lst [] .no,.lst (stsC (l.map Sl.stm)) .no]] .no]] .no,A0,.lst (strs R.vars) .no,A2,A3,.lst (strs R.fields) .no,A5,A6,A7,.int .i64 0,.lst [] .full,.lst [] .full,.lst [] .full,.lst [] .full,.lst [] .full,.lst [] .full,.lst [] .full,.lst [] .full,.lst [] .full,.lst [] .full,.lst [] .full,.lst [] .full,.lst [] .full,.mp q1,.mp q2,.mp q3,.lst [] o,.int .i64 most,.int .i64 0,.bool false,.raw (.slice none 0 0),.mp m0,.raw (.slice none 0 0),.mp m1,.raw (.slice none 0 0),.mp m3,.raw (.slice none 0 0),.mp m2]:=by rw[hS13];exact St.set_same _ _ _
  have hk13:∀z,z≠p→S13 z=S12 z:=fun z hz=>by rw[hS13];exact St.set_other _ _ hz
  dsimp only at v0
  have v3:S13 x3=_:=(hk13 _ p3).trans w3
  have v6:S13 x6=_:=(hk13 _ p6).trans w6
  have v8:S13 x8=_:=(hk13 _ p8).trans w8
  have vq1:S13 q1=_:=(hk13 _ pq1).trans wq1
  have vq2:S13 q2=_:=(hk13 _ pq2).trans wq2
  have vm0:S13 m0=_:=(hk13 _ (Ne.symm nm18)).trans zm0
  have vm1:S13 m1=_:=(hk13 _ (Ne.symm nm19)).trans zm1
  have vm2:S13 m2=_:=(hk13 _ (Ne.symm nm20)).trans zm2
  have vm3:S13 m3=_:=(hk13 _ (Ne.symm nm21)).trans zm3
  have HS13:Hid (∀z,t z≠.free→S13 z=t z∧z≠x6∧z≠p∧z≠m0∧z≠m1∧z≠m2∧z≠m3):=Lib.hid fun z hz=>by
   obtain⟨a1,a2,a3,a4⟩:=HS12.out z hz
   exact⟨(hk13 z a3).trans a1,a2,a3,a4⟩
  have HND:Hid ((¬ m0=m1∧¬ m0=m2∧¬ m0=m3∧¬ m1=m2∧¬ m1=m3∧¬ m2=m3)∧(¬ m0=q1∧¬ m0=q2∧¬ m1=q1∧¬ m1=q2∧¬ m2=q1∧¬ m2=q2∧¬ m3=q1∧¬ m3=q2)∧¬ q1=q2):=Lib.hid ⟨⟨nm0,nm1,nm2,nm3,nm4,nm5⟩,⟨nm6,nm7,nm9,nm10,nm12,nm13,nm15,nm16⟩,nq.1⟩
  clear hS13 hk13 hk12 HS12 z13 w3 w6 w8 wq1 wq2 zm0 zm1 zm2 zm3 HS7 z7 zq1 zq2 zq3 y3 y6 y8 f3 f6 f8 fp fq1 fq2 fq3 HY nm0 nm1 nm2 nm3 nm4 nm5 nm6 nm7 nm8 nm9 nm10 nm11 nm12 nm13 nm14 nm15 nm16 nm17 nm18 nm19 nm20 nm21 nm22 nm23 nm24 nm25 nq
  have e3:S13 x3≠.free:=by rw[v3];simp
  have e6:S13 x6≠.free:=by rw[v6];simp
  have e8:S13 x8≠.free:=by rw[v8];simp
  have ep:S13 p≠.free:=by rw[v0];simp
  have eq1:S13 q1≠.free:=by rw[vq1];simp
  have eq2:S13 q2≠.free:=by rw[vq2];simp
  have em0:S13 m0≠.free:=by rw[vm0];simp
  have em1:S13 m1≠.free:=by rw[vm1];simp
  have em2:S13 m2≠.free:=by rw[vm2];simp
  have em3:S13 m3≠.free:=by rw[vm3];simp
  have pm0':¬ m0=p:=neC vm0 v0 (by simp)
  have pm1':¬ m1=p:=neC vm1 v0 (by simp)
  have pm2':¬ m2=p:=neC vm2 v0 (by simp)
  have pm3':¬ m3=p:=neC vm3 v0 (by simp)
  have wn:=fun(p1 p2:Nat) s h1=>Knum_S l .no p1 p2 s h1 (by omega)
  (repeat'(first|refine Ctl ?_|((with_reducible refine Kof.use hK ?_);clear hK hE K E)|((with_reducible refine Eof.use hE ?_);(try clear hK hE K E))|((with_reducible refine Kof.use hKh ?_);clear hKh Kh)|((with_reducible refine Kof.use hKb (P_next ?_));clear hKb Kb)|(with_reducible first|refine G_planT 6 (.two [0,1,2,3,5,6,9,10] 4 [[0,1,5,6,9,10]] (.two [] 7 [[],[0,1,9,10]] (.one [] 8 [[],[],[0,1,9,10]] (.one [11] 12 [[],[],[],[]] (.fin [13]))) 8 [[],[0,1,5,6,9,10]] (.one [] 7 [[],[],[0,1,9,10]] (.one [11] 12 [[],[],[],[]] (.fin [13])))) 8 [[0,1,2,3,5,6,9,10]] (.one [] 4 [[],[0,1,5,6,9,10]] (.one [] 7 [[],[],[0,1,9,10]] (.one [11] 12 [[],[],[],[]] (.fin [13]))))) hQe fun K E hK hE=>?_|refine G_plan 7 [] [0,1,2,3,4,5,6,7,8,9,10,11,12,13,14] hQe fun K E hK hE=>?_|refine G_plan 19 [([0,1,2,3,4,5,6,7,8,9,10,11,12,13],14,[[0,1,2,3,4,5,6,7,8,9,10,11]]),([15,16],17,[[],[0]]),([18,19],20,[[],[],[]])] [] hQe fun K E hK hE=>?_|refine G_plan 22 [([0,1,2,6,7,8,9,10,11,12,13,14],3,[[0,1,2,6,7,8,9,10,11,12,13,14]]),([4],5,[[],[0,6,7,8,9,10,11,12,13,14]]),([],15,[[],[],[]])] [] hQe fun K E hK hE=>?_|refine G_plan 23 [([0,1,2,4,5,6,8,9,10,12,13,14,16,17,18,19,20,21,22,23,24],3,[[4,5,6,8,9,10,12,13,14,16,17,18,19,20,21,22,23,24]]),([],7,[[],[8,9,10,12,13,14,16,17,18,19,20,21,22,23,24]]),([],11,[[],[],[12,13,14,16,17,18,19,20,21,22,23,24]]),([],15,[[],[],[],[16,17,18,19,20,21,22,23,24]]),([25],26,[[],[],[],[],[]])] [27] hQe fun K E hK hE=>?_)|((with_reducible refine W_cond (fun h=>?_) (fun h=>?_))<;>(try(exfalso;first|assumption|omega)))|((first|(with_reducible first|refine G_region fun K E hK hE=>?_|refine W_if ?_|refine W_ifS ?_|refine P_heads fun Kh hKh=>?_|refine P_fin fun Kh hKh=>?_|refine P_each fun Kb hKb=>?_|refine T_heads fun Kh hKh=>?_|refine T_fin fun Kh hKh=>?_|refine T_two fun Kh hKh=>?_|refine T_both (fun Kb hKb=>?_) (fun Kb hKb=>?_)|refine W_and ?_)|((with_reducible refine W_fresh (fun b hb=>?_));(repeat(obtain⟨_,hb⟩:=hb));(try((obtain⟨_,_⟩:=nef hb e3);(obtain⟨_,_⟩:=nef hb e6);(obtain⟨_,_⟩:=nef hb e8);(obtain⟨_,_⟩:=nef hb ep);(obtain⟨_,_⟩:=nef hb eq1);(obtain⟨_,_⟩:=nef hb eq2);(obtain⟨_,_⟩:=nef hb em0);(obtain⟨_,_⟩:=nef hb em1);(obtain⟨_,_⟩:=nef hb em2);(obtain⟨_,_⟩:=nef hb em3))))|((with_reducible refine W_app (fun o2 ho=>?_));(repeat(obtain⟨_,ho⟩:=ho)))|((with_reducible refine W_appM (fun bM hM=>?_)))|((with_reducible refine W_app0 (fun bM hM=>?_)))|((with_reducible refine W_gd (fun h=>?_) (fun h=>?_))<;>(try(exfalso;first|assumption|omega))))<;>(try simp(disch:=first|assumption|omega) only[go_sem,seval, *]))))
  refine L_rounds 2 (KR_succ 1 ?_)
  (repeat'(first|refine Ctl ?_|((with_reducible refine Kof.use hK ?_);clear hK hE K E)|((with_reducible refine Eof.use hE ?_);(try clear hK hE K E))|((with_reducible refine Kof.use hKh ?_);clear hKh Kh)|((with_reducible refine Kof.use hKb (P_next ?_));clear hKb Kb)|(with_reducible first|refine G_planT 6 (.two [0,1,2,3,5,6,9,10] 4 [[0,1,5,6,9,10]] (.two [] 7 [[],[0,1,9,10]] (.one [] 8 [[],[],[0,1,9,10]] (.one [11] 12 [[],[],[],[]] (.fin [13]))) 8 [[],[0,1,5,6,9,10]] (.one [] 7 [[],[],[0,1,9,10]] (.one [11] 12 [[],[],[],[]] (.fin [13])))) 8 [[0,1,2,3,5,6,9,10]] (.one [] 4 [[],[0,1,5,6,9,10]] (.one [] 7 [[],[],[0,1,9,10]] (.one [11] 12 [[],[],[],[]] (.fin [13]))))) hQe fun K E hK hE=>?_|refine G_plan 7 [] [0,1,2,3,4,5,6,7,8,9,10,11,12,13,14] hQe fun K E hK hE=>?_|refine G_plan 19 [([0,1,2,3,4,5,6,7,8,9,10,11,12,13],14,[[0,1,2,3,4,5,6,7,8,9,10,11]]),([15,16],17,[[],[0]]),([18,19],20,[[],[],[]])] [] hQe fun K E hK hE=>?_|refine G_plan 22 [([0,1,2,6,7,8,9,10,11,12,13,14],3,[[0,1,2,6,7,8,9,10,11,12,13,14]]),([4],5,[[],[0,6,7,8,9,10,11,12,13,14]]),([],15,[[],[],[]])] [] hQe fun K E hK hE=>?_|refine G_plan 23 [([0,1,2,4,5,6,8,9,10,12,13,14,16,17,18,19,20,21,22,23,24],3,[[4,5,6,8,9,10,12,13,14,16,17,18,19,20,21,22,23,24]]),([],7,[[],[8,9,10,12,13,14,16,17,18,19,20,21,22,23,24]]),([],11,[[],[],[12,13,14,16,17,18,19,20,21,22,23,24]]),([],15,[[],[],[],[16,17,18,19,20,21,22,23,24]]),([25],26,[[],[],[],[],[]])] [27] hQe fun K E hK hE=>?_)|((with_reducible refine W_cond (fun h=>?_) (fun h=>?_))<;>(try(exfalso;first|assumption|omega)))|((first|(with_reducible first|refine G_region fun K E hK hE=>?_|refine W_if ?_|refine W_ifS ?_|refine P_heads fun Kh hKh=>?_|refine P_fin fun Kh hKh=>?_|refine P_each fun Kb hKb=>?_|refine T_heads fun Kh hKh=>?_|refine T_fin fun Kh hKh=>?_|refine T_two fun Kh hKh=>?_|refine T_both (fun Kb hKb=>?_) (fun Kb hKb=>?_)|refine W_and ?_)|((with_reducible refine W_fresh (fun b hb=>?_));(repeat(obtain⟨_,hb⟩:=hb));(try((obtain⟨_,_⟩:=nef hb e3);(obtain⟨_,_⟩:=nef hb e6);(obtain⟨_,_⟩:=nef hb e8);(obtain⟨_,_⟩:=nef hb ep);(obtain⟨_,_⟩:=nef hb eq1);(obtain⟨_,_⟩:=nef hb eq2);(obtain⟨_,_⟩:=nef hb em0);(obtain⟨_,_⟩:=nef hb em1);(obtain⟨_,_⟩:=nef hb em2);(obtain⟨_,_⟩:=nef hb em3))))|((with_reducible refine W_app (fun o2 ho=>?_));(repeat(obtain⟨_,ho⟩:=ho)))|((with_reducible refine W_appM (fun bM hM=>?_)))|((with_reducible refine W_app0 (fun bM hM=>?_)))|((with_reducible refine W_gd (fun h=>?_) (fun h=>?_))<;>(try(exfalso;first|assumption|omega))))<;>(try simp(disch:=first|assumption|omega) only[go_sem,seval, *]))))
  refine L_rounds 2 (KR_succ 1 ?_)
  (repeat'(first|refine Ctl ?_|((with_reducible refine Kof.use hK ?_);clear hK hE K E)|((with_reducible refine Eof.use hE ?_);(try clear hK hE K E))|((with_reducible refine Kof.use hKh ?_);clear hKh Kh)|((with_reducible refine Kof.use hKb (P_next ?_));clear hKb Kb)|(with_reducible first|refine G_planT 6 (.two [0,1,2,3,5,6,9,10] 4 [[0,1,5,6,9,10]] (.two [] 7 [[],[0,1,9,10]] (.one [] 8 [[],[],[0,1,9,10]] (.one [11] 12 [[],[],[],[]] (.fin [13]))) 8 [[],[0,1,5,6,9,10]] (.one [] 7 [[],[],[0,1,9,10]] (.one [11] 12 [[],[],[],[]] (.fin [13])))) 8 [[0,1,2,3,5,6,9,10]] (.one [] 4 [[],[0,1,5,6,9,10]] (.one [] 7 [[],[],[0,1,9,10]] (.one [11] 12 [[],[],[],[]] (.fin [13]))))) hQe fun K E hK hE=>?_|refine G_plan 7 [] [0,1,2,3,4,5,6,7,8,9,10,11,12,13,14] hQe fun K E hK hE=>?_|refine G_plan 19 [([0,1,2,3,4,5,6,7,8,9,10,11,12,13],14,[[0,1,2,3,4,5,6,7,8,9,10,11]]),([15,16],17,[[],[0]]),([18,19],20,[[],[],[]])] [] hQe fun K E hK hE=>?_|refine G_plan 22 [([0,1,2,6,7,8,9,10,11,12,13,14],3,[[0,1,2,6,7,8,9,10,11,12,13,14]]),([4],5,[[],[0,6,7,8,9,10,11,12,13,14]]),([],15,[[],[],[]])] [] hQe fun K E hK hE=>?_|refine G_plan 23 [([0,1,2,4,5,6,8,9,10,12,13,14,16,17,18,19,20,21,22,23,24],3,[[4,5,6,8,9,10,12,13,14,16,17,18,19,20,21,22,23,24]]),([],7,[[],[8,9,10,12,13,14,16,17,18,19,20,21,22,23,24]]),([],11,[[],[],[12,13,14,16,17,18,19,20,21,22,23,24]]),([],15,[[],[],[],[16,17,18,19,20,21,22,23,24]]),([25],26,[[],[],[],[],[]])] [27] hQe fun K E hK hE=>?_)|((with_reducible refine W_cond (fun h=>?_) (fun h=>?_))<;>(try(exfalso;first|assumption|omega)))|((first|(with_reducible first|refine G_region fun K E hK hE=>?_|refine call_ret can9 ((wn _ _ _ z_sl)) ?_|refine W_if ?_|refine W_ifS ?_|refine P_heads fun Kh hKh=>?_|refine P_fin fun Kh hKh=>?_|refine P_each fun Kb hKb=>?_|refine T_heads fun Kh hKh=>?_|refine T_fin fun Kh hKh=>?_|refine T_two fun Kh hKh=>?_|refine T_both (fun Kb hKb=>?_) (fun Kb hKb=>?_)|refine W_and ?_)|((with_reducible refine W_fresh (fun b hb=>?_));(repeat(obtain⟨_,hb⟩:=hb));(try((obtain⟨_,_⟩:=nef hb e3);(obtain⟨_,_⟩:=nef hb e6);(obtain⟨_,_⟩:=nef hb e8);(obtain⟨_,_⟩:=nef hb ep);(obtain⟨_,_⟩:=nef hb eq1);(obtain⟨_,_⟩:=nef hb eq2);(obtain⟨_,_⟩:=nef hb em0);(obtain⟨_,_⟩:=nef hb em1);(obtain⟨_,_⟩:=nef hb em2);(obtain⟨_,_⟩:=nef hb em3))))|((with_reducible refine W_app (fun o2 ho=>?_));(repeat(obtain⟨_,ho⟩:=ho));(try(((simp only[disown_fl]at ho);(have hnp:=OwnOk.not ho (b:=p) (by simp only[St.set,if_false, *];simp))))))|((with_reducible refine W_appM (fun bM hM=>?_));(try(((simp only[disown_fl]at ho);(have hnp:=OwnOk.not ho (b:=p) (by simp only[St.set,if_false, *];simp))))))|((with_reducible refine W_app0 (fun bM hM=>?_));(try(((simp only[disown_fl]at ho);(have hnp:=OwnOk.not ho (b:=p) (by simp only[St.set,if_false, *];simp))))))|((with_reducible refine W_gd (fun h=>?_) (fun h=>?_))<;>(try(exfalso;first|assumption|omega))))<;>(try simp(disch:=first|assumption|omega) only[go_sem,seval, *]))))
  refine KR_succ 0 ?_
  (repeat'(first|refine Ctl ?_|((with_reducible refine Kof.use hK ?_);clear hK hE K E)|((with_reducible refine Eof.use hE ?_);(try clear hK hE K E))|((with_reducible refine Kof.use hKh ?_);clear hKh Kh)|((with_reducible refine Kof.use hKb (P_next ?_));clear hKb Kb)|(with_reducible first|refine G_planT 6 (.two [0,1,2,3,5,6,9,10] 4 [[0,1,5,6,9,10]] (.two [] 7 [[],[0,1,9,10]] (.one [] 8 [[],[],[0,1,9,10]] (.one [11] 12 [[],[],[],[]] (.fin [13]))) 8 [[],[0,1,5,6,9,10]] (.one [] 7 [[],[],[0,1,9,10]] (.one [11] 12 [[],[],[],[]] (.fin [13])))) 8 [[0,1,2,3,5,6,9,10]] (.one [] 4 [[],[0,1,5,6,9,10]] (.one [] 7 [[],[],[0,1,9,10]] (.one [11] 12 [[],[],[],[]] (.fin [13]))))) hQe fun K E hK hE=>?_|refine G_plan 7 [] [0,1,2,3,4,5,6,7,8,9,10,11,12,13,14] hQe fun K E hK hE=>?_|refine G_plan 19 [([0,1,2,3,4,5,6,7,8,9,10,11,12,13],14,[[0,1,2,3,4,5,6,7,8,9,10,11]]),([15,16],17,[[],[0]]),([18,19],20,[[],[],[]])] [] hQe fun K E hK hE=>?_|refine G_plan 22 [([0,1,2,6,7,8,9,10,11,12,13,14],3,[[0,1,2,6,7,8,9,10,11,12,13,14]]),([4],5,[[],[0,6,7,8,9,10,11,12,13,14]]),([],15,[[],[],[]])] [] hQe fun K E hK hE=>?_|refine G_plan 23 [([0,1,2,4,5,6,8,9,10,12,13,14,16,17,18,19,20,21,22,23,24],3,[[4,5,6,8,9,10,12,13,14,16,17,18,19,20,21,22,23,24]]),([],7,[[],[8,9,10,12,13,14,16,17,18,19,20,21,22,23,24]]),([],11,[[],[],[12,13,14,16,17,18,19,20,21,22,23,24]]),([],15,[[],[],[],[16,17,18,19,20,21,22,23,24]]),([25],26,[[],[],[],[],[]])] [27] hQe fun K E hK hE=>?_)|((with_reducible refine W_cond (fun h=>?_) (fun h=>?_))<;>(try(exfalso;first|assumption|omega)))|((first|(with_reducible first|refine G_region fun K E hK hE=>?_|refine W_if ?_|refine W_ifS ?_|refine P_heads fun Kh hKh=>?_|refine P_fin fun Kh hKh=>?_|refine P_each fun Kb hKb=>?_|refine T_heads fun Kh hKh=>?_|refine T_fin fun Kh hKh=>?_|refine T_two fun Kh hKh=>?_|refine T_both (fun Kb hKb=>?_) (fun Kb hKb=>?_)|refine W_and ?_)|((with_reducible refine W_fresh (fun b hb=>?_));(repeat(obtain⟨_,hb⟩:=hb)))|((with_reducible refine W_app (fun o2 ho=>?_));(repeat(obtain⟨_,ho⟩:=ho)))|((with_reducible refine W_appM (fun bM hM=>?_)))|((with_reducible refine W_app0 (fun bM hM=>?_)))|((with_reducible refine W_gd (fun h=>?_) (fun h=>?_))<;>(try(exfalso;first|assumption|omega))))<;>(try simp(disch:=first|assumption|omega) only[go_sem,seval, *]))))
  refine KR_succ 0 ?_
  (repeat'(first|(with_reducible refine Kp_atK 22 ?_)|refine Ctl ?_|((with_reducible refine Kof.use hK ?_);clear hK hE K E)|((with_reducible refine Eof.use hE ?_);(try clear hK hE K E))|((with_reducible refine Kof.use hKh ?_);clear hKh Kh)|((with_reducible refine Kof.use hKb (P_next ?_));clear hKb Kb)|(with_reducible first|refine G_planT 6 (.two [0,1,2,3,5,6,9,10] 4 [[0,1,5,6,9,10]] (.two [] 7 [[],[0,1,9,10]] (.one [] 8 [[],[],[0,1,9,10]] (.one [11] 12 [[],[],[],[]] (.fin [13]))) 8 [[],[0,1,5,6,9,10]] (.one [] 7 [[],[],[0,1,9,10]] (.one [11] 12 [[],[],[],[]] (.fin [13])))) 8 [[0,1,2,3,5,6,9,10]] (.one [] 4 [[],[0,1,5,6,9,10]] (.one [] 7 [[],[],[0,1,9,10]] (.one [11] 12 [[],[],[],[]] (.fin [13]))))) hQe fun K E hK hE=>?_|refine G_plan 7 [] [0,1,2,3,4,5,6,7,8,9,10,11,12,13,14] hQe fun K E hK hE=>?_|refine G_plan 19 [([0,1,2,3,4,5,6,7,8,9,10,11,12,13],14,[[0,1,2,3,4,5,6,7,8,9,10,11]]),([15,16],17,[[],[0]]),([18,19],20,[[],[],[]])] [] hQe fun K E hK hE=>?_|refine G_plan 22 [([0,1,2,6,7,8,9,10,11,12,13,14],3,[[0,1,2,6,7,8,9,10,11,12,13,14]]),([4],5,[[],[0,6,7,8,9,10,11,12,13,14]]),([],15,[[],[],[]])] [] hQe fun K E hK hE=>?_|refine G_plan 23 [([0,1,2,4,5,6,8,9,10,12,13,14,16,17,18,19,20,21,22,23,24],3,[[4,5,6,8,9,10,12,13,14,16,17,18,19,20,21,22,23,24]]),([],7,[[],[8,9,10,12,13,14,16,17,18,19,20,21,22,23,24]]),([],11,[[],[],[12,13,14,16,17,18,19,20,21,22,23,24]]),([],15,[[],[],[],[16,17,18,19,20,21,22,23,24]]),([25],26,[[],[],[],[],[]])] [27] hQe fun K E hK hE=>?_)|((with_reducible refine W_cond (fun h=>?_) (fun h=>?_))<;>(try(exfalso;first|assumption|omega)))|((first|(with_reducible first|refine G_region fun K E hK hE=>?_|refine W_if ?_|refine W_ifS ?_|refine P_heads fun Kh hKh=>?_|refine P_fin fun Kh hKh=>?_|refine P_each fun Kb hKb=>?_|refine T_heads fun Kh hKh=>?_|refine T_fin fun Kh hKh=>?_|refine T_two fun Kh hKh=>?_|refine T_both (fun Kb hKb=>?_) (fun Kb hKb=>?_)|refine W_and ?_)|((with_reducible refine W_fresh (fun b hb=>?_));(repeat(obtain⟨_,hb⟩:=hb)))|((with_reducible refine W_app (fun o2 ho=>?_));(repeat(obtain⟨_,ho⟩:=ho)))|((with_reducible refine W_appM (fun bM hM=>?_)))|((with_reducible refine W_app0 (fun bM hM=>?_)))|((with_reducible refine W_gd (fun h=>?_) (fun h=>?_))<;>(try(exfalso;first|assumption|omega))))<;>(try simp(disch:=first|assumption|omega) only[go_sem,seval, *]))))
  unfold StopK
  refine Kp_forget (s':=S13.set p (.obj 59 [.lst [[.str [77,97,105,110],.str [],.lst [[.bool true,.str [109,97,105,110],.lst [] .no,.lst (stsC (l.map Sl.stm)) .no]] .no]] .no,A0,.lst (strs R.vars) .no,A2,A3,.lst (strs R.fields) .no,A5,A6,A7,.int .i64 0,.lst [] .full,.lst [] .full,.lst [] .full,.lst [] .full,.lst [] .full,.lst [] .full,.lst [] .full,.lst [] .full,.lst [] .full,.lst [] .full,.lst [] .full,.lst [] .full,.lst [[.bool true,.str [109,97,105,110],.lst [] .no,.lst (stsC (l.map Sl.stm)) .no,.str [77,97,105,110,58,58,109,97,105,110],.lst (codesN l l.length) .no]] o2,.mp q1,.mp q2,.mp q3,.lst [] o,.int .i64 most,.int .i64 0,.bool false,.raw (.slice none 0 0),.mp m0,.raw (.slice none 0 0),.mp m1,.raw (.slice none 0 0),.mp m3,.raw (.slice none 0 0),.mp m2])) (fg_ownset (fun z hz=>?_) ho) ?_
  ·show _=_
   refine(St.set_other _ _ (liveK hz ?_)).trans ?_
   ·assumption
   refine(St.set_other _ _ (liveK hz ?_)).trans ?_
   ·assumption
   refine(St.set_other _ _ (liveK hz ?_)).trans ?_
   ·assumption
   refine St.set_other _ _ (liveK hz ?_)
   assumption
  refine Kp_gs (GS.wkobj (ys:=[.lst [[.str [77,97,105,110],.str [],.lst [[.bool true,.str [109,97,105,110],.lst [] .no,.lst (stsC (l.map Sl.stm)) .no]] .no]] .no,A0,.lst (strs R.vars) .no,A2,A3,.lst (strs R.fields) .no,A5,A6,A7,.int .i64 0,.lst [] .full,.lst [] .full,.lst [] .full,.lst [] .full,.lst [] .full,.lst [] .full,.lst [] .full,.lst [] .full,.lst [] .full,.lst [] .full,.lst [] .full,.lst [] .full,.lst [[.bool true,.str [109,97,105,110],.lst [] .no,.lst (stsC (l.map Sl.stm)) .no,.str [77,97,105,110,58,58,109,97,105,110],.lst (codesN l l.length) .no]] .no,.mp q1,.mp q2,.mp q3,.lst [] o,.int .i64 most,.int .i64 0,.bool false,.raw (.slice none 0 0),.mp m0,.raw (.slice none 0 0),.mp m1,.raw (.slice none 0 0),.mp m3,.raw (.slice none 0 0),.mp m2]) (St.set_same _ _ _) rfl (WkL.get (by(repeat(first|exact WkL.nil|apply WkL.nostrs|apply WkL.nosts|apply WkL.same|apply WkL.lst))))) ?_
  simp only[St.set_set]
  refine Kp_nameK fun S23 hS23=>?_
  have u0:S23 p=.obj 59 [.lst [[.str [77,97,105,110],.str [],.lst [[.bool true,.str [109,97,105,110],.lst [] .no,.lst (stsC (l.map Sl.stm)) .no]] .no]] .no,A0,.lst (strs R.vars) .no,A2,A3,.lst (strs R.fields) .no,A5,A6,A7,.int .i64 0,.lst [] .full,.lst [] .full,.lst [] .full,.lst [] .full,.lst [] .full,.lst [] .full,.lst [] .full,.lst [] .full,.lst [] .full,.lst [] .full,.lst [] .full,.lst [] .full,.lst [[.bool true,.str [109,97,105,110],.lst [] .no,.lst (stsC (l.map Sl.stm)) .no,.str [77,97,105,110,58,58,109,97,105,110],.lst (codesN l l.length) .no]] .no,.mp q1,.mp q2,.mp q3,.lst [] o,.int .i64 most,.int .i64 0,.bool false,.raw (.slice none 0 0),.mp m0,.raw (.slice none 0 0),.mp m1,.raw (.slice none 0 0),.mp m3,.raw (.slice none 0 0),.mp m2]:=by rw[hS23];exact St.set_same _ _ _
  have hk23:∀z,z≠p→S23 z=S13 z:=fun z hz=>by rw[hS23];exact St.set_other _ _ hz
  dsimp only at u0
  have u6:S23 x6=_:=(hk23 _ p6).trans v6
  have u8:S23 x8=_:=(hk23 _ p8).trans v8
  have uq1:S23 q1=_:=(hk23 _ pq1).trans vq1
  have uq2:S23 q2=_:=(hk23 _ pq2).trans vq2
  have um0:S23 m0=_:=(hk23 _ pm0').trans vm0
  have um1:S23 m1=_:=(hk23 _ pm1').trans vm1
  have um2:S23 m2=_:=(hk23 _ pm2').trans vm2
  have um3:S23 m3=_:=(hk23 _ pm3').trans vm3
  have HS23:Hid (∀z,t z≠.free→S23 z=t z∧z≠x6∧z≠p∧z≠m0∧z≠m1∧z≠m2∧z≠m3):=Lib.hid fun z hz=>by
   obtain⟨a1,a2,a3,a4⟩:=HS13.out z hz
   exact⟨(hk23 z a3).trans a1,a2,a3,a4⟩
  clear hS23 hk23 HS13 v0 v3 v6 v8 vq1 vq2 vm0 vm1 vm2 vm3 e3 e6 e8 ep eq1 eq2 em0 em1 em2 em3 hnp ho
  have e6:S23 x6≠.free:=by rw[u6];simp
  have e8:S23 x8≠.free:=by rw[u8];simp
  have ep:S23 p≠.free:=by rw[u0];simp
  have eq1:S23 q1≠.free:=by rw[uq1];simp
  have eq2:S23 q2≠.free:=by rw[uq2];simp
  have em0:S23 m0≠.free:=by rw[um0];simp
  have em1:S23 m1≠.free:=by rw[um1];simp
  have em2:S23 m2≠.free:=by rw[um2];simp
  have em3:S23 m3≠.free:=by rw[um3];simp
  (repeat'(first|refine Ctl ?_|((with_reducible refine Kof.use hK ?_);clear hK hE K E)|((with_reducible refine Eof.use hE ?_);(try clear hK hE K E))|((with_reducible refine Kof.use hKh ?_);clear hKh Kh)|((with_reducible refine Kof.use hKb (P_next ?_));clear hKb Kb)|(with_reducible first|refine G_planT 6 (.two [0,1,2,3,5,6,9,10] 4 [[0,1,5,6,9,10]] (.two [] 7 [[],[0,1,9,10]] (.one [] 8 [[],[],[0,1,9,10]] (.one [11] 12 [[],[],[],[]] (.fin [13]))) 8 [[],[0,1,5,6,9,10]] (.one [] 7 [[],[],[0,1,9,10]] (.one [11] 12 [[],[],[],[]] (.fin [13])))) 8 [[0,1,2,3,5,6,9,10]] (.one [] 4 [[],[0,1,5,6,9,10]] (.one [] 7 [[],[],[0,1,9,10]] (.one [11] 12 [[],[],[],[]] (.fin [13]))))) hQe fun K E hK hE=>?_|refine G_plan 7 [] [0,1,2,3,4,5,6,7,8,9,10,11,12,13,14] hQe fun K E hK hE=>?_|refine G_plan 19 [([0,1,2,3,4,5,6,7,8,9,10,11,12,13],14,[[0,1,2,3,4,5,6,7,8,9,10,11]]),([15,16],17,[[],[0]]),([18,19],20,[[],[],[]])] [] hQe fun K E hK hE=>?_|refine G_plan 22 [([0,1,2,6,7,8,9,10,11,12,13,14],3,[[0,1,2,6,7,8,9,10,11,12,13,14]]),([4],5,[[],[0,6,7,8,9,10,11,12,13,14]]),([],15,[[],[],[]])] [] hQe fun K E hK hE=>?_|refine G_plan 23 [([0,1,2,4,5,6,8,9,10,12,13,14,16,17,18,19,20,21,22,23,24],3,[[4,5,6,8,9,10,12,13,14,16,17,18,19,20,21,22,23,24]]),([],7,[[],[8,9,10,12,13,14,16,17,18,19,20,21,22,23,24]]),([],11,[[],[],[12,13,14,16,17,18,19,20,21,22,23,24]]),([],15,[[],[],[],[16,17,18,19,20,21,22,23,24]]),([25],26,[[],[],[],[],[]])] [27] hQe fun K E hK hE=>?_)|((with_reducible refine W_cond (fun h=>?_) (fun h=>?_))<;>(try(exfalso;first|assumption|omega)))|((first|(with_reducible first|refine G_region fun K E hK hE=>?_|refine W_if ?_|refine W_ifS ?_|refine P_heads fun Kh hKh=>?_|refine P_fin fun Kh hKh=>?_|refine P_each fun Kb hKb=>?_|refine T_heads fun Kh hKh=>?_|refine T_fin fun Kh hKh=>?_|refine T_two fun Kh hKh=>?_|refine T_both (fun Kb hKb=>?_) (fun Kb hKb=>?_)|refine W_and ?_)|((with_reducible refine W_fresh (fun b hb=>?_));(repeat(obtain⟨_,hb⟩:=hb));(try((obtain⟨_,_⟩:=nef hb e8);(obtain⟨_,_⟩:=nef hb ep))))|((with_reducible refine W_app (fun o2 ho=>?_));(repeat(obtain⟨_,ho⟩:=ho)))|((with_reducible refine W_appM (fun bM hM=>?_)))|((with_reducible refine W_app0 (fun bM hM=>?_)))|((with_reducible refine W_gd (fun h=>?_) (fun h=>?_))<;>(try(exfalso;first|assumption|omega))))<;>(try simp(disch:=first|assumption|omega) only[go_sem,seval, *]))))
  refine vcall_nameK fun T hT=>?_
  obtain⟨a,ha⟩:∃z,z=b:=⟨_,rfl⟩
  subst ha
  obtain⟨av,hT2,hav,nav⟩:∃av,T=(S23.set av (.map [])).set a (.obj 71 [.int .i64 0,.mp av,.lst [] .full,.bool false])∧S23 av=.free∧¬ av=a:=⟨_,hT,by assumption,by assumption⟩
  have hTk:∀z,S23 z≠.free→T z=S23 z:=fun z hz=>by rw[hT2,St.set_other _ _ (liveK hz hb),St.set_other _ _ (liveK hz hav)]
  have t6:T x6=_:=(hTk _ e6).trans u6
  have hrun:=RunAt.start (S:=T) (V:=R.vars) (F:=R.fields) (l:=l) (ml:=(mlK [77,97,105,110,58,58,109,97,105,110] (.lst (stsC (l.map Sl.stm)) .no) (.lst (codesN l l.length) .no))) (most:=most) (a:=a) (av:=av) (fun _=>0) (fun _=>0) ((hTk _ ep).trans u0) rfl rfl rfl rfl rfl rfl rfl rfl rfl rfl rfl rfl rfl rfl rfl (by rw[hT2];exact St.set_same _ _ _) (by rw[hT2,St.set_other _ _ nav];exact St.set_same _ _ _) ((hTk _ eq1).trans uq1) ((hTk _ eq2).trans uq2)
   ((hTk _ em0).trans um0) ((hTk _ em1).trans um1) ((hTk _ em2).trans um2) ((hTk _ em3).trans um3) (by
    obtain⟨⟨d1,d2,d3,d4,d5,d6⟩,⟨d7,d8,d9,d10,d11,d12,d13,d14⟩,d15⟩:=HND.out
    have k1:=liveK eq1 hav
    have k2:=liveK eq2 hav
    have k3:=liveK em0 hav
    have k4:=liveK em1 hav
    have k5:=liveK em2 hav
    have k6:=liveK em3 hav
    simp only[List.nodup_cons,List.mem_cons,List.not_mem_nil,or_false,not_or,not_false_eq_true,List.nodup_nil,and_true]
    exact⟨⟨fun e=>k1 e.symm,fun e=>k2 e.symm,fun e=>k3 e.symm,fun e=>k4 e.symm,fun e=>k5 e.symm,fun e=>k6 e.symm⟩,⟨d15,fun e=>d7 e.symm,fun e=>d9 e.symm,fun e=>d11 e.symm,fun e=>d13 e.symm⟩,⟨fun e=>d8 e.symm,fun e=>d10 e.symm,fun e=>d12 e.symm,fun e=>d14 e.symm⟩,⟨d1,d2,d3⟩,⟨d4,d5⟩,d6⟩)
  have t6f:T x6≠.free:=by rw[t6];simp
  have HT:Hid (∀z,T z≠.free→z≠p→z≠av→z≠m0→z≠m1→z≠m2→z≠m3→True):=Lib.hid fun _ _ _ _ _ _ _ _=>trivial
  have n6:x6≠p∧x6≠av∧∀i,i<4→x6≠msK m0 m1 m2 m3 i:=⟨p6,liveK e6 hav,fun i hi=>by
   match i,hi with
   |0,_=>exact neC u6 um0 (by simp)
   |1,_=>exact neC u6 um1 (by simp)
   |2,_=>exact neC u6 um2 (by simp)
   |3,_=>exact neC u6 um3 (by simp)⟩
  have HTL:Hid (∀z,t z≠.free→T z=t z∧T z≠.free∧z≠x6∧z≠p∧z≠av∧∀i,i<4→z≠msK m0 m1 m2 m3 i):=Lib.hid fun z hz=>by
   obtain⟨a1,a2,a3,a4,a5,a6',a7'⟩:=HS23.out z hz
   have hz2:S23 z≠.free:=by rw[a1];exact hz
   refine⟨(hTk z hz2).trans a1,by rw[hTk z hz2];exact hz2,a2,a3,liveK hz2 hav,fun i hi=>?_⟩
   match i,hi with
   |0,_=>exact a4
   |1,_=>exact a5
   |2,_=>exact a6'
   |3,_=>exact a7'
  clear hT hT2 hTk u0 u6 u8 uq1 uq2 um0 um1 um2 um3 e6 e8 ep eq1 eq2 em0 em1 em2 em3 HS23 HND pm0' pm1' pm2' pm3' pq1 pq2 p3 p8 hav hb
  refine call_ex can10 (Kblock_S T _ _ _ l .no most (fun _=>0) (fun _=>0) HOK.out hm0 hrun) (fun q h=>?_)
  obtain⟨cs',gs,ob,fo,hA,hO,hM⟩:=h
  have hW:=hA.wat (fun i _=>lsR_nd (runK_nd R.vars R.fields l (min l.length most.toNat)).1 (runK_nd R.vars R.fields l (min l.length most.toNat)).2 i)
  have c1:q p=.obj 59 cs':=hA.m
  have b2:=hM.len
  have b3:=hM.steps
  have b4:=hM.stop
  obtain⟨b6,g6⟩:=hO.keeps t6f n6.1 n6.2.1 n6.2.2
  have b6:=b6.trans t6
  have hz:∀z,t z≠.free→q z=t z∧z≠p∧z≠x6∧∀i,i<4→lsR (runK R.vars R.fields l (min l.length most.toNat)) i≠[]→z≠gs i:=fun z hz=>by
   obtain⟨a1,a2,a3,a4,a5,a6'⟩:=HTL.out z hz
   obtain⟨k1,k2⟩:=hO.keeps a2 a4 a5 a6'
   exact⟨k1.trans a1,a4,a3,k2⟩
  have hz:=Lib.hid hz
  have wA:=fun(j:Nat) (hj:j<4) u cs I h hI hM=>KallA u p (msK m0 m1 m2 m3) cs (lsR (runK R.vars R.fields l (min l.length most.toNat))) gs I h j hj hI (most:=most) (st:=((min l.length most.toNat):Nat)) (sp:=decide (most<(l.length:Int))) hM
  have wa0:=wA 0 (by omega)
  have wa1:=wA 1 (by omega)
  have wa2:=wA 2 (by omega)
  have wa3:=wA 3 (by omega)
  have o0:offK 0=30:=rfl
  have o1:offK 1=32:=rfl
  have o2':offK 2=36:=rfl
  have o3:offK 3=34:=rfl
  obtain⟨l0,l1,l2,l3⟩:=lsR_at (runK R.vars R.fields l (min l.length most.toNat))
  have lr:rowsV (sortR [])=[]:=rfl
  simp only[o0,o1,o2',o3,l0,l1,l2,l3,lr]at wa0 wa1 wa2 wa3
  have hW':WAt q p (msK m0 m1 m2 m3) cs' (lsR (runK R.vars R.fields l (min l.length most.toNat))) gs (fun _=>true):=hW
  clear hA hO hrun wA o0 o1 o2' o3 hW HTL HT l0 l1 l2 l3 lr t6 t6f
  have GG:=Lib.hid g6
  clear g6
  generalize (min l.length most.toNat)=M at *
  generalize runK R.vars R.fields l M=RR at *
  generalize lsR RR=LS at *
  simp only[go_sem,seval]
  (repeat'(first|refine Ctl ?_|((with_reducible refine Kof.use hK ?_);clear hK hE K E)|((with_reducible refine Eof.use hE ?_);(try clear hK hE K E))|((with_reducible refine Kof.use hKh ?_);clear hKh Kh)|((with_reducible refine Kof.use hKb (P_next ?_));clear hKb Kb)|(with_reducible first|refine G_planT 6 (.two [0,1,2,3,5,6,9,10] 4 [[0,1,5,6,9,10]] (.two [] 7 [[],[0,1,9,10]] (.one [] 8 [[],[],[0,1,9,10]] (.one [11] 12 [[],[],[],[]] (.fin [13]))) 8 [[],[0,1,5,6,9,10]] (.one [] 7 [[],[],[0,1,9,10]] (.one [11] 12 [[],[],[],[]] (.fin [13])))) 8 [[0,1,2,3,5,6,9,10]] (.one [] 4 [[],[0,1,5,6,9,10]] (.one [] 7 [[],[],[0,1,9,10]] (.one [11] 12 [[],[],[],[]] (.fin [13]))))) hQe fun K E hK hE=>?_|refine G_plan 7 [] [0,1,2,3,4,5,6,7,8,9,10,11,12,13,14] hQe fun K E hK hE=>?_|refine G_plan 19 [([0,1,2,3,4,5,6,7,8,9,10,11,12,13],14,[[0,1,2,3,4,5,6,7,8,9,10,11]]),([15,16],17,[[],[0]]),([18,19],20,[[],[],[]])] [] hQe fun K E hK hE=>?_|refine G_plan 22 [([0,1,2,6,7,8,9,10,11,12,13,14],3,[[0,1,2,6,7,8,9,10,11,12,13,14]]),([4],5,[[],[0,6,7,8,9,10,11,12,13,14]]),([],15,[[],[],[]])] [] hQe fun K E hK hE=>?_|refine G_plan 23 [([0,1,2,4,5,6,8,9,10,12,13,14,16,17,18,19,20,21,22,23,24],3,[[4,5,6,8,9,10,12,13,14,16,17,18,19,20,21,22,23,24]]),([],7,[[],[8,9,10,12,13,14,16,17,18,19,20,21,22,23,24]]),([],11,[[],[],[12,13,14,16,17,18,19,20,21,22,23,24]]),([],15,[[],[],[],[16,17,18,19,20,21,22,23,24]]),([25],26,[[],[],[],[],[]])] [27] hQe fun K E hK hE=>?_)|((with_reducible refine W_cond (fun h=>?_) (fun h=>?_))<;>(try(exfalso;first|assumption|omega)))|((first|(with_reducible first|refine G_region fun K E hK hE=>?_|refine W_if ?_|refine W_ifS ?_|refine P_heads fun Kh hKh=>?_|refine P_fin fun Kh hKh=>?_|refine P_each fun Kb hKb=>?_|refine T_heads fun Kh hKh=>?_|refine T_fin fun Kh hKh=>?_|refine T_two fun Kh hKh=>?_|refine T_both (fun Kb hKb=>?_) (fun Kb hKb=>?_)|refine W_and ?_)|((with_reducible refine call_ex can11 ((wa0 _ _ _ (by assumption) rfl (by assumption))) (fun a h=>?_));(obtain⟨k1,k2,k3⟩:=h;have c1:=k1.m;have b2:=k3.len;have b3:=k3.steps;have b4:=k3.stop;have b6:=(k2 x6 (by rw[b6];simp) n6.1 GG.out).trans b6;have hz:=Lib.hid (keepsK hz.out k2)))|((with_reducible refine call_ex can11 ((wa1 _ _ _ (by assumption) rfl (by assumption))) (fun a h=>?_));(obtain⟨k1,k2,k3⟩:=h;have c1:=k1.m;have b2:=k3.len;have b3:=k3.steps;have b4:=k3.stop;have b6:=(k2 x6 (by rw[b6];simp) n6.1 GG.out).trans b6;have hz:=Lib.hid (keepsK hz.out k2)))|((with_reducible refine call_ex can11 ((wa2 _ _ _ (by assumption) rfl (by assumption))) (fun a h=>?_));(obtain⟨k1,k2,k3⟩:=h;have c1:=k1.m;have b2:=k3.len;have b3:=k3.steps;have b4:=k3.stop;have b6:=(k2 x6 (by rw[b6];simp) n6.1 GG.out).trans b6;have hz:=Lib.hid (keepsK hz.out k2)))|((with_reducible refine call_ex can11 ((wa3 _ _ _ (by assumption) rfl (by assumption))) (fun a h=>?_));(obtain⟨k1,k2,k3⟩:=h;have c1:=k1.m;have b2:=k3.len;have b3:=k3.steps;have b4:=k3.stop;have b6:=(k2 x6 (by rw[b6];simp) n6.1 GG.out).trans b6;have hz:=Lib.hid (keepsK hz.out k2)))|((with_reducible refine W_fresh (fun b hb=>?_));(repeat(obtain⟨_,hb⟩:=hb)))|((with_reducible refine W_app (fun o2 ho=>?_));(repeat(obtain⟨_,ho⟩:=ho)))|((with_reducible refine W_appM (fun bM hM=>?_)))|((with_reducible refine W_app0 (fun bM hM=>?_)))|((with_reducible refine W_gd (fun h=>?_) (fun h=>?_))<;>(try(exfalso;first|assumption|omega))))<;>(try simp(disch:=first|assumption|omega) only[go_sem,seval, *]))))
  (first|refine W_ret res4 hQ ?_|refine W_norm res4 hQ ?_|refine G_pan hQ ?_)
  (refine⟨_,_,Wk.of_eq ?_,?_,rfl,rfl⟩)
  ·rfl
  ·exact fgK fun z hzz=>by rw[St.set_other _ _ (hz.out z hzz).2.2.1];exact(hz.out z hzz).1
end Go.Proofs.YtadbggfpnhkmbaaGreat
set_option maxRecDepth 1000000
namespace Go.Proofs.YtadbggfpnhkmbaaGreat
open Go.RowKit
theorem SCalls.wkK {P:Program}{f:FuncId}{xs ys:List VV}{s:St}{Q:SEnd→St→Prop}(h:SCalls P f ys s Q)(hl:xs.length=ys.length)(hw:∀(j:Nat) (x y:VV),xs[j]?=some x→ys[j]?=some y→Wk x y):SCalls P f xs s Q:=
 fun w0 G w vs hS hr=>h w0 G w vs hS ⟨hr.1.trans hl,fun j v y hv hy=>by
  have hj:j<xs.length:=by rw[hl];exact(List.getElem?_eq_some_iff.1 hy).1
  exact hw j xs[j] y (List.getElem?_eq_getElem hj) hy G v (hr.2 j v xs[j] hv (List.getElem?_eq_getElem hj))⟩
def rowsVf (l:List (List Int)):List (List VV):=l.map fun r=>[.lst (intsL r) .full]
theorem rowsVf_len {l:List (List Int)}:(rowsVf l).length=l.length:=by simp[rowsVf]
theorem rowsVf_snoc {l:List (List Int)}{r:List Int}:rowsVf (l++[r])=rowsVf l++[[.lst (intsL r) .full]]:=by simp[rowsVf]
theorem rowsVf_wk {l:List (List Int)}{o:Own}:Wk (.lst (rowsVf l) o) (.lst (rowsV l) .no):=fun G v h=>by
 have h2:R G v (.lst (rowsV l) o):=Wk.rows (by rw[rowsV_len,rowsVf_len]) (fun i x' hx=>by
  unfold rowsV at hx
  rw[List.getElem?_map]at hx
  obtain⟨r,hr,rfl⟩:=Option.map_eq_some_iff.1 hx
  exact⟨[.lst (intsL r) .full],by unfold rowsVf;rw[List.getElem?_map,hr];rfl,.lst _ _ .nil⟩) G v h
 exact R.unown h2
theorem SameRowsF_S (a b:List (List Int))(o1 o2:Own)(ha:RowsOk a)(hb:RowsOk b)(t:St):SRet Tryz.prog 5 [.lst (rowsV a) o1,.lst (rowsVf b) o2] t (.bool (decide (a=b))) t:=
 SCalls.wkK (SameRows_S a b o1 .no ha hb t) rfl fun j x y hx hy=>by
  match j with
  |0=>simp at hx hy;subst hx;subst hy;exact Wk.refl _
  |1=>simp at hx hy;subst hx;subst hy;exact rowsVf_wk
  |j+2=>simp at hx
def aw17:List Sl:=[.nw [120],.st [120] [120] [102]]
theorem aw17P:parseS [99,108,97,115,115,32,77,97,105,110,32,123,32,115,116,97,116,105,99,32,109,97,105,110,40,41,32,123,32,120,32,61,32,110,101,119,32,77,97,105,110,59,32,120,46,102,32,61,32,120,59,32,125,32,125]=.ok (slX aw17):=by kernel_rfl
theorem aw17R:rightE (slX aw17)=0:=by kernel_rfl
theorem aw17V:(namesN (slX aw17)).vars=[[77,97,105,110,58,58,109,97,105,110,46,114,101,116,117,114,110],[77,97,105,110,58,58,109,97,105,110,46,120]]:=by kernel_rfl
theorem aw17F:(namesN (slX aw17)).fields=[[102]]:=by kernel_rfl
theorem aw17M:(namesN (slX aw17)).main=0:=by kernel_rfl
theorem aw17Ok:SrcOk (slX aw17):=sl_srcok (by decide) fun x hx=>by
 simp only[aw17,List.mem_cons,List.not_mem_nil,or_false]at hx
 rcases hx with rfl|rfl<;>simp[Sl.stm,StmOk,StmsOk,TxOk]
theorem aw17S:SlOk (namesN (slX aw17)).vars (namesN (slX aw17)).fields aw17:=by
 rw[aw17V,aw17F]
 refine⟨by decide,by decide,by decide,fun m v h=>?_,fun m d s f h=>?_⟩
 ·match m,h with
  |0,h=>simp[aw17]at h;subst h;decide
  |1,h=>simp[aw17]at h
  |m+2,h=>simp[aw17]at h
 ·match m,h with
  |0,h=>simp[aw17]at h
  |1,h=>
   simp[aw17]at h
   obtain⟨rfl,rfl,rfl⟩:=h
   exact⟨⟨0,by decide⟩,⟨0,by decide⟩,by decide⟩
  |m+2,h=>simp[aw17]at h
theorem aw17K:(runK (namesN (slX aw17)).vars (namesN (slX aw17)).fields aw17 2).seen=[[1,0]]∧(runK (namesN (slX aw17)).vars (namesN (slX aw17)).fields aw17 2).heap=[[0,0,0]]:=by
 rw[aw17V,aw17F]
 decide
theorem ok1 (r:List Int)(h:r.length≤1000):RowsOk [r]:=⟨by simp,fun x hx=>by rw[List.mem_singleton]at hx;subst hx;omega⟩
set_option maxHeartbeats 8000000 in
theorem awake17_S (t:St):SRet Tryz.prog 6 [] t (.bool true) t:=by
 have w1:=fun s=>Rparse_S [99,108,97,115,115,32,77,97,105,110,32,123,32,115,116,97,116,105,99,32,109,97,105,110,40,41,32,123,32,120,32,61,32,110,101,119,32,77,97,105,110,59,32,120,46,102,32,61,32,120,59,32,125,32,125] (by decide) s
 rw[aw17P]at w1
 have w2:=fun s=>Krun_S aw17 9 .full aw17Ok aw17R aw17M aw17S (by decide) (by decide) (by rw[aw17V];decide) (by rw[aw17F];decide) s
 have hmin:min aw17.length (9:Int).toNat=2:=by decide
 have hd:decide ((9:Int)<((aw17.length:Nat):Int))=false:=by decide
 rw[hmin,hd,aw17K.1,aw17K.2]at w2
 have s1:sortR [[1,0]]=[[1,0]]:=by decide
 have s2:sortR [[0,0,0]]=[[0,0,0]]:=by decide
 rw[s1,s2]at w2
 have w3:=fun s=>SameRowsF_S [[1,0]] [[1,0]] .no .full (ok1 _ (by decide)) (ok1 _ (by decide)) s
 have w4:=fun s=>SameRowsF_S [[0,0,0]] [[0,0,0]] .no .full (ok1 _ (by decide)) (ok1 _ (by decide)) s
 have d1:decide (([[1,0]]:List (List Int))=[[1,0]])=true:=by decide
 have d2:decide (([[0,0,0]]:List (List Int))=[[0,0,0]])=true:=by decide
 rw[d1]at w3
 rw[d2]at w4
 simp only[parseV,srcV]at w1 w2
 generalize (slX aw17).map clsC=X at w1 w2
 simp only[rowsVf,rowsV,rowV,intsL,List.map_cons,List.map_nil]at w2 w3 w4
 clear hmin hd s1 s2 d1 d2
 refine G_enter Tryz.func6 rfl Tryz.ntmps6 rfl fun Q hQ hQe=>?_
 (repeat'(first|refine Ctl ?_|((with_reducible refine Kof.use hK ?_);clear hK hE K E)|((with_reducible refine Eof.use hE ?_);(try clear hK hE K E))|((with_reducible refine W_cond (fun h=>?_) (fun h=>?_))<;>(try(exfalso;first|assumption|omega)))|((first|(with_reducible first|refine G_region fun K E hK hE=>?_|refine call_ret can13 (w1 _) ?_|refine call_ret can4 (w2 _) ?_|refine call_ret can5 (w3 _) ?_|refine call_ret can5 (w4 _) ?_|refine call_ret can13 (Rparse_S _ (by first|assumption|omega) _) ?_|refine call_ret can5 (SameRows_S _ _ _ _ (by assumption) (by assumption) _) ?_|refine W_if ?_|refine W_ifS ?_|refine W_and ?_)|((with_reducible refine W_fresh (fun b hb=>?_));(repeat(obtain⟨_,hb⟩:=hb)))|((with_reducible refine W_gd (fun h=>?_) (fun h=>?_))<;>(try(exfalso;first|assumption|omega))))<;>(try simp(disch:=first|assumption|omega) only[go_sem,seval,List.append_eq, *]))))
 all_goals(first|refine W_ret res6 hQ ?_|refine W_norm res6 hQ ?_|refine G_pan hQ ?_)
 all_goals(refine⟨_,_,Wk.of_eq ?_,?_,rfl,rfl⟩)
 all_goals first|rfl|(exact z_fg)
end Go.Proofs.YtadbggfpnhkmbaaGreat
