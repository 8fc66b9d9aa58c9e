/- Walks of functions that the claim reaches, and plain facts of them. Conditions: those in the statements. -/
import Derived.Test.YtgdbgfjhenobdaaGreatDoorJmDej
import Derived.Test.YtgdbgfjhenobdaaGreatDoorJmCyj
set_option linter.unusedSimpArgs false
set_option linter.unusedVariables false
set_option maxRecDepth 100000
namespace Go.Proofs.YtgdbgfjhenobdaaGreatDoor
open Go.RowKit
attribute [local go_sem] disown_fl owned_fl own_fl
theorem Mv_S (S:St)(q bm:Nat)(cs:List VV)(tx n:List UInt8)(M:List (List UInt8×Int))(hp:S q=.obj 90 cs)(hm:S bm=.map (mpV encI M))(hl:cs.length=26:=by rfl)(c22:cs[22]?=some (.mp bm):=by rfl)(c23:cs[23]?=some (.str tx):=by rfl)
  (r:Int) (hr:(lkA (tx++[46]++n) M).getD 0=r:=by kernel_rfl) (hlen:tx.length+n.length≤1000:=by decide):SRet Tryz.prog 29 [.ptr q 0,.str n] S (.int .i64 r) S:=by
 refine G_enter Tryz.func29 rfl Tryz.ntmps29 rfl fun Q hQ hQe=>?_
 (repeat'(first|refine Ctl ?_|(with_reducible first|(refine Kof.use hK ?_;clear hK hE K E)|(refine Kof.use hKh ?_;clear hKh Kh)|refine G_plan 1 [] [0,1,2,3,4,5,6,7,8,9,10,11,12] hQe fun K E hK hE=>?_)|(((with_reducible first|refine G_region fun K E hK hE=>?_|refine P_fin fun Kh hKh=>?_|refine W_and ?_))<;>(try simp(disch:=omega) only[go_sem,seval,hl,c22,c23,List.length_append, *]))))
 all_goals(refine W_ret res29 hQ ?_)
 all_goals(refine⟨_,_,Wk.of_eq ?_,?_,rfl,rfl⟩)
 all_goals first|rfl|(exact z_fg)
theorem Mst0_S (S:St)(q:Nat)(o:Own):SRet Tryz.prog 30 [.ptr q 0,.lst [] o] S (.tup []) S:=by
 refine G_enter Tryz.func30 rfl Tryz.ntmps30 rfl fun Q hQ hQe=>?_
 (repeat'(first|refine Ctl ?_|((with_reducible refine Kof.use hK ?_);clear hK hE K E)|(((with_reducible refine G_region fun K E hK hE=>?_))<;>(try simp(disch:=omega) only[go_sem,seval, *]))))
 refine L_loop (fun m env s'=>s'=S∧env 13=.int .i64 0∧env 14=.int .i64 0) 0 ⟨rfl,z_sl,z_sl⟩ ?_
 rintro m env s' ⟨rfl,e13,e14⟩
 (repeat'(first|refine Ctl ?_|((with_reducible refine Kof.use hK ?_);clear hK hE K E)|((with_reducible refine W_cond (fun h=>?_) (fun h=>?_))<;>(try(exfalso;assumption)))|(((with_reducible refine G_region fun K E hK hE=>?_))<;>(try simp(disch:=omega) only[go_sem,seval, *]))))
 all_goals(refine W_norm res30 hQ ?_)
 all_goals(refine⟨_,_,Wk.of_eq ?_,?_,rfl,rfl⟩)
 all_goals first|rfl|(exact z_fg)
theorem Mpl_S (S:St):SRet Tryz.prog 64 [.lst [[.str [102]]] .no,.str [102]] S (.int .i64 0) S:=by
 have w1:=fun s=>ixS_S [[102]] .no [102] (by decide) s
 rw[show ixZ [102] [[102]]=0 from by kernel_rfl]at w1
 simp only[List.map_cons,List.map_nil,strC]at w1
 refine G_enter Tryz.func64 rfl Tryz.ntmps64 rfl fun Q hQ hQe=>?_
 (repeat'(first|refine Ctl ?_|((with_reducible refine Kof.use hK ?_);clear hK hE K E)|(((with_reducible first|refine G_region fun K E hK hE=>?_|refine call_ret can107 (w1 _) ?_))<;>(try simp(disch:=omega) only[go_sem,seval, *]))))
 all_goals(refine W_ret res64 hQ ?_)
 all_goals(refine⟨_,_,Wk.of_eq ?_,?_,rfl,rfl⟩)
 all_goals first|rfl|(exact z_fg)
def aM:List (List UInt8×Int):=[([77,97,105,110,58,58,109,97,105,110,46,114,101,116,117,114,110],0),([77,97,105,110,58,58,109,97,105,110,46,120],1)]
set_option maxHeartbeats 16000000 in
theorem Mst_S (S:St)(q bm:Nat)(X R:VV)(hp:S q=.obj 90 [X,.lst [[.str [77,97,105,110,58,58,109,97,105,110]]] .no,.lst [[.str [77,97,105,110,58,58,109,97,105,110,46,114,101,116,117,114,110]],[.str [77,97,105,110,58,58,109,97,105,110,46,120]]] .no,.lst [[.str [77,97,105,110]]] .no,.lst [] .no,.lst [[.str [102]]] .no,.lst [] .no,.lst [[.int .i64 0],[.int .i64 0]] .no,.lst [] .no,.int .i64 0,.lst [] .full,.lst [] .full,.lst [] .full,.lst [] .full,.lst [] .full,.lst [] .full,.lst [] .full,.lst [] .full,.lst [] .full,.lst [] .full,R,.lst [] .full,.mp bm,.str [77,97,105,110,58,58,109,97,105,110],.int .i64 0,.int .i64 0])(hm:S bm=.map (mpV encI aM)) :
  SCalls Tryz.prog 30 [.ptr q 0,.lst [[.int .i64 1,.str [120],.str [],.str [],.str [77,97,105,110],.lst [] .no,.lst [] .no,.lst [] .no],[.int .i64 4,.str [120],.str [120],.str [],.str [102],.lst [] .no,.lst [] .no,.lst [] .no]] .no] S fun w u=>
   ∃a:Own×Own,w=.ret (.tup [])∧u=S.set q (.obj 90 [X,.lst [[.str [77,97,105,110,58,58,109,97,105,110]]] .no,.lst [[.str [77,97,105,110,58,58,109,97,105,110,46,114,101,116,117,114,110]],[.str [77,97,105,110,58,58,109,97,105,110,46,120]]] .no,.lst [[.str [77,97,105,110]]] .no,.lst [] .no,.lst [[.str [102]]] .no,.lst [] .no,.lst [[.int .i64 0],[.int .i64 0]] .no,.lst [] .no,.int .i64 0,.lst [[.lst [[.int .i64 1],[.int .i64 0]] .full]] a.1,.lst [] .full,.lst [[.lst [[.int .i64 1],[.int .i64 0],[.int .i64 1]] .full]] a.2,.lst [] .full,.lst [] .full,.lst [] .full,.lst [] .full,.lst [] .full,.lst [] .full,.lst [] .full,R,.lst [] .full,.mp bm,.str [77,97,105,110,58,58,109,97,105,110],.int .i64 1,.int .i64 0])∧True:=by
 have hfq:S q≠.free:=by rw[hp];simp
 have hfm:S bm≠.free:=by rw[hm];simp
 have hqm:¬ q=bm:=by rintro rfl;rw[hp]at hm;cases hm
 have hmq:¬ bm=q:=fun e=>hqm e.symm
 have w0:=fun(s:St) o=>Mst0_S s q o
 have wp:=fun(s:St)=>Mpl_S s
 have wv:=fun(s:St) (r0:VV) (si:Int) (h1:s q=.obj 90 [X,.lst [[.str [77,97,105,110,58,58,109,97,105,110]]] .no,.lst [[.str [77,97,105,110,58,58,109,97,105,110,46,114,101,116,117,114,110]],[.str [77,97,105,110,58,58,109,97,105,110,46,120]]] .no,.lst [[.str [77,97,105,110]]] .no,.lst [] .no,.lst [[.str [102]]] .no,.lst [] .no,.lst [[.int .i64 0],[.int .i64 0]] .no,.lst [] .no,.int .i64 0,r0,.lst [] .full,.lst [] .full,.lst [] .full,.lst [] .full,.lst [] .full,.lst [] .full,.lst [] .full,.lst [] .full,.lst [] .full,R,.lst [] .full,.mp bm,.str [77,97,105,110,58,58,109,97,105,110],.int .i64 si,.int .i64 0]) (h2:s bm=.map (mpV encI aM))=>Mv_S s q bm _ [77,97,105,110,58,58,109,97,105,110] [120] aM h1 h2 (r:=1)
 refine G_enter Tryz.func30 rfl Tryz.ntmps30 rfl fun Q hQ hQe=>?_
 (repeat'(first|refine Ctl ?_|((with_reducible refine Kof.use hK ?_);clear hK hE K E)|(((with_reducible refine G_region fun K E hK hE=>?_))<;>(try simp(disch:=omega) only[go_sem,seval, *]))))
 refine L_rounds 3 (KR_succ 2 ?_)
 (repeat'(first|refine Ctl ?_|(with_reducible first|(refine Kof.use hK ?_;clear hK hE K E)|(refine Kof.use hKh ?_;clear hKh Kh)|(refine Kof.use hKb (P_next ?_);clear hKb Kb)|refine G_plan 6 [([0,1,2,3,4,5,6,7,9,10,11,12],8,[[0,1,2,3,4,9,10,11,12]]),([13,14],15,[[],[0]]),([16,17],18,[[],[],[]])] [] hQe fun K E hK hE=>?_)|((with_reducible refine W_cond (fun h=>?_) (fun h=>?_))<;>(try(exfalso;assumption)))|((first|(with_reducible first|refine G_region fun K E hK hE=>?_|refine call_ret can30 (w0 _ _) ?_|refine call_ret can29 (wv _ (.lst [] .full) 0 z_sl z_sl) ?_|refine P_heads fun Kh hKh=>?_|refine P_fin fun Kh hKh=>?_|refine P_each fun Kb hKb=>?_)|((with_reducible refine W_fresh (fun b hb=>?_));(try(obtain⟨_,_⟩:=nef hb hfq;obtain⟨_,_⟩:=nef hb hfm)))|((with_reducible refine W_app (fun o2 ho=>?_));(try simp(disch:=assumption) only[disown_set,disown_own,ownok_o,ownok_m,List.length_map,List.length_cons,List.length_nil,Nat.zero_add,disown_fl]at ho);(repeat(obtain⟨_,ho⟩:=ho));(try(have nq:=ho.not hfq;have nm:=ho.not hfm))))<;>(try simp(disch:=first|assumption|omega) only[go_sem,seval,disown_fl, *]))))
 refine KR_succ 1 ?_
 have hT1:(S.set q (.obj 90 [X,.lst [[.str [77,97,105,110,58,58,109,97,105,110]]] .no,.lst [[.str [77,97,105,110,58,58,109,97,105,110,46,114,101,116,117,114,110]],[.str [77,97,105,110,58,58,109,97,105,110,46,120]]] .no,.lst [[.str [77,97,105,110]]] .no,.lst [] .no,.lst [[.str [102]]] .no,.lst [] .no,.lst [[.int .i64 0],[.int .i64 0]] .no,.lst [] .no,.int .i64 0,.lst [[.lst [[.int .i64 1],[.int .i64 0]] .full]] o2,.lst [] .full,.lst [] .full,.lst [] .full,.lst [] .full,.lst [] .full,.lst [] .full,.lst [] .full,.lst [] .full,.lst [] .full,R,.lst [] .full,.mp bm,.str [77,97,105,110,58,58,109,97,105,110],.int .i64 1,.int .i64 0])) q=.obj 90 [X,.lst [[.str [77,97,105,110,58,58,109,97,105,110]]] .no,.lst [[.str [77,97,105,110,58,58,109,97,105,110,46,114,101,116,117,114,110]],[.str [77,97,105,110,58,58,109,97,105,110,46,120]]] .no,.lst [[.str [77,97,105,110]]] .no,.lst [] .no,.lst [[.str [102]]] .no,.lst [] .no,.lst [[.int .i64 0],[.int .i64 0]] .no,.lst [] .no,.int .i64 0,.lst [[.lst [[.int .i64 1],[.int .i64 0]] .full]] o2,.lst [] .full,.lst [] .full,.lst [] .full,.lst [] .full,.lst [] .full,.lst [] .full,.lst [] .full,.lst [] .full,.lst [] .full,R,.lst [] .full,.mp bm,.str [77,97,105,110,58,58,109,97,105,110],.int .i64 1,.int .i64 0]:=St.set_same _ _ _
 have hT2:(S.set q (.obj 90 [X,.lst [[.str [77,97,105,110,58,58,109,97,105,110]]] .no,.lst [[.str [77,97,105,110,58,58,109,97,105,110,46,114,101,116,117,114,110]],[.str [77,97,105,110,58,58,109,97,105,110,46,120]]] .no,.lst [[.str [77,97,105,110]]] .no,.lst [] .no,.lst [[.str [102]]] .no,.lst [] .no,.lst [[.int .i64 0],[.int .i64 0]] .no,.lst [] .no,.int .i64 0,.lst [[.lst [[.int .i64 1],[.int .i64 0]] .full]] o2,.lst [] .full,.lst [] .full,.lst [] .full,.lst [] .full,.lst [] .full,.lst [] .full,.lst [] .full,.lst [] .full,.lst [] .full,R,.lst [] .full,.mp bm,.str [77,97,105,110,58,58,109,97,105,110],.int .i64 1,.int .i64 0])) bm=.map (mpV encI aM):=(St.set_other _ _ hmq).trans hm
 refine Kp_forget (s':=S.set q (.obj 90 [X,.lst [[.str [77,97,105,110,58,58,109,97,105,110]]] .no,.lst [[.str [77,97,105,110,58,58,109,97,105,110,46,114,101,116,117,114,110]],[.str [77,97,105,110,58,58,109,97,105,110,46,120]]] .no,.lst [[.str [77,97,105,110]]] .no,.lst [] .no,.lst [[.str [102]]] .no,.lst [] .no,.lst [[.int .i64 0],[.int .i64 0]] .no,.lst [] .no,.int .i64 0,.lst [[.lst [[.int .i64 1],[.int .i64 0]] .full]] o2,.lst [] .full,.lst [] .full,.lst [] .full,.lst [] .full,.lst [] .full,.lst [] .full,.lst [] .full,.lst [] .full,.lst [] .full,R,.lst [] .full,.mp bm,.str [77,97,105,110,58,58,109,97,105,110],.int .i64 1,.int .i64 0])) ?_ ?_
 ·exact Fg.set (Fg.setA (Fg.own ho) hb) _ _
 obtain⟨o1,ho1⟩:∃z,z=o2:=⟨_,rfl⟩
 subst ho1
 obtain⟨T,hT⟩:∃T,T=S.set q (.obj 90 [X,.lst [[.str [77,97,105,110,58,58,109,97,105,110]]] .no,.lst [[.str [77,97,105,110,58,58,109,97,105,110,46,114,101,116,117,114,110]],[.str [77,97,105,110,58,58,109,97,105,110,46,120]]] .no,.lst [[.str [77,97,105,110]]] .no,.lst [] .no,.lst [[.str [102]]] .no,.lst [] .no,.lst [[.int .i64 0],[.int .i64 0]] .no,.lst [] .no,.int .i64 0,.lst [[.lst [[.int .i64 1],[.int .i64 0]] .full]] o1,.lst [] .full,.lst [] .full,.lst [] .full,.lst [] .full,.lst [] .full,.lst [] .full,.lst [] .full,.lst [] .full,.lst [] .full,R,.lst [] .full,.mp bm,.str [77,97,105,110,58,58,109,97,105,110],.int .i64 1,.int .i64 0]):=⟨_,rfl⟩
 rw[← hT]at hT1 hT2 ⊢
 have HT:=Lib.hid hT
 clear hT hp hm ho nq nm hb hfq hfm
 have hfq:T q≠.free:=by rw[hT1];simp
 have hfm:T bm≠.free:=by rw[hT2];simp
 (repeat'(first|refine Ctl ?_|(with_reducible first|(refine Kof.use hK ?_;clear hK hE K E)|(refine Kof.use hKh ?_;clear hKh Kh)|(refine Kof.use hKb (P_next ?_);clear hKb Kb)|refine G_plan 15 [([0,1,2,3,4,5,6,7,9,10,11,12,13,14,16,17,18],8,[[0,1,2,3,4,9,10,11,12,13,14,16,17,18]]),([],15,[[],[0,1,2,3,4,16,17,18]]),([],19,[[],[],[0,1,2,3,4]]),([20,21],22,[[],[],[],[0]]),([23,24],25,[[],[],[],[],[]])] [] hQe fun K E hK hE=>?_)|((with_reducible refine W_cond (fun h=>?_) (fun h=>?_))<;>(try(exfalso;assumption)))|((first|(with_reducible first|refine G_region fun K E hK hE=>?_|refine call_ret can30 (w0 _ _) ?_|refine call_ret can64 (wp _) ?_|refine call_ret can29 (wv _ (.lst [[.lst [[.int .i64 1],[.int .i64 0]] .full]] o1) 1 z_sl z_sl) ?_|refine P_heads fun Kh hKh=>?_|refine P_fin fun Kh hKh=>?_|refine P_each fun Kb hKb=>?_)|((with_reducible refine W_fresh (fun b hb=>?_));(try(obtain⟨_,_⟩:=nef hb hfq;obtain⟨_,_⟩:=nef hb hfm)))|((with_reducible refine W_app (fun o2 ho=>?_));(try simp(disch:=assumption) only[disown_set,disown_own,ownok_o,ownok_m,List.length_map,List.length_cons,List.length_nil,Nat.zero_add,disown_fl]at ho);(repeat(obtain⟨_,ho⟩:=ho));(try(have nq:=ho.not hfq;have nm:=ho.not hfm))))<;>(try simp(disch:=first|assumption|omega) only[go_sem,seval,disown_fl, *]))))
 refine KR_succ 0 ?_
 (repeat'(first|refine Ctl ?_|((with_reducible refine Kof.use hK ?_);clear hK hE K E)|((with_reducible refine W_cond (fun h=>?_) (fun h=>?_))<;>(try(exfalso;assumption)))|(((with_reducible refine G_region fun K E hK hE=>?_))<;>(try simp(disch:=omega) only[go_sem,seval,disown_fl, *]))))
 all_goals(refine W_norm res30 hQ ?_)
 exact⟨_,_,Wk.refl _,Fg.set (Fg.setA (Fg.own ho) hb) _ _,(o1,o2),rfl,(by rw[HT.out,St.set_set]),trivial⟩
end Go.Proofs.YtgdbgfjhenobdaaGreatDoor
