/- Walks of functions that the claim reaches, and plain facts of them. Conditions: those in the statements. -/
import Derived.Test.YtgdbgfjhenobdaaGreatDoorJmDv
import Derived.Test.YtgdbgfjhenobdaaGreatDoorJmDej
set_option linter.unusedSimpArgs false
set_option linter.unusedVariables false
set_option maxRecDepth 100000
namespace Go.Proofs.YtgdbgfjhenobdaaGreatDoor
open Go.RowKit
attribute [local go_sem] disown_fl owned_fl own_fl
section
variable {s : St} {b : Nat}
theorem p_up00 {a e sz bt sz2 bt2:Nat}{zo:Bool}{zz z2:List VV}{zo2:Bool}{t:List UInt8}{n:Int} :
  vupC ⟨.map a e,sz,bt,zo,zz⟩ ⟨.str,sz2,bt2,zo2,z2⟩ b (.str t) (.int .i64 n) s (.map [])=some (s.set b (.map (mpV encI [(t,n)]))):=p_upI (l:=[])
end
attribute [local go_sem] p_up00
def aw18:List Cls:=[⟨[77,97,105,110],[],[⟨true,[109,97,105,110],[],[.mk 1 [120] [] [] [77,97,105,110] [] [] [],.mk 4 [120] [120] [] [102] [] [] []]⟩]⟩]
theorem aw18P:parseS [99,108,97,115,115,32,77,97,105,110,32,123,32,115,116,97,116,105,99,32,109,97,105,110,40,41,32,123,32,120,32,61,32,110,101,119,32,77,97,105,110,59,32,120,46,102,32,61,32,120,59,32,125,32,125]=.ok aw18:=by kernel_rfl
theorem aw18R:rightE aw18=0:=by kernel_rfl
theorem aw18N:fctN (namesR aw18)=[.lst [[.str [77,97,105,110,58,58,109,97,105,110]]] .no,.lst [[.str [77,97,105,110,58,58,109,97,105,110,46,114,101,116,117,114,110]],[.str [77,97,105,110,58,58,109,97,105,110,46,120]]] .no,.lst [[.str [77,97,105,110]]] .no,.lst [] .no,.lst [[.str [102]]] .no,.lst [] .no,.lst [[.int .i64 0],[.int .i64 0]] .no,.lst [] .no,.int .i64 0,.lst [] .full,.lst [] .full,.lst [] .full,.lst [] .full,.lst [] .full,.lst [] .full,.lst [] .full,.lst [] .full,.lst [] .full,.lst [] .full,.lst [] .full,.lst [] .full]:=by kernel_rfl
theorem aw18Ok:SrcOk aw18:=by simp[SrcOk,aw18,ClsOk,MthOk,TxOk,StmOk,StmsOk]
theorem aw18V:srcV aw18=.agg [.lst [[.str [77,97,105,110],.str [],.lst [[.bool true,.str [109,97,105,110],.lst [] .no,.lst [[.int .i64 1,.str [120],.str [],.str [],.str [77,97,105,110],.lst [] .no,.lst [] .no,.lst [] .no],[.int .i64 4,.str [120],.str [120],.str [],.str [102],.lst [] .no,.lst [] .no,.lst [] .no]] .no]] .no]] .no]:=rfl
theorem Kp_nameE {P:Program}{N:Nat}{D:List Deferred}{k:List Itm}{Q:Pst}{f:Fin'}{env:Env}{s:St}(h:∀(e:Env) (s':St),e=env→s'=s→Kp P N D k Q f e s'):Kp P N D k Q f env s:=h _ _ rfl rfl
set_option maxHeartbeats 16000000 in
theorem POf_S (t:St):SCalls Tryz.prog 13 [srcV aw18] t fun w u=>
  ∃a:Own×Own×Own,w=.ret (.tup [.agg [.lst [[.str [77,97,105,110,58,58,109,97,105,110]]] .no,.lst [[.str [77,97,105,110,58,58,109,97,105,110,46,114,101,116,117,114,110]],[.str [77,97,105,110,58,58,109,97,105,110,46,120]]] .no,.lst [[.str [77,97,105,110]]] .no,.lst [] .no,.lst [[.str [102]]] .no,.lst [] .no,.lst [[.int .i64 0],[.int .i64 0]] .no,.lst [] .no,.int .i64 0,.lst [[.lst [[.int .i64 1],[.int .i64 0]] .full]] a.1,.lst [] .full,.lst [[.lst [[.int .i64 1],[.int .i64 0],[.int .i64 1]] .full]] a.2.1,.lst [] .full,.lst [] .full,.lst [] .full,.lst [] .full,.lst [] .full,.lst [] .full,.lst [] .full,.lst [[.lst [[.int .i64 0],[.int .i64 0]] .full]] a.2.2,.lst [] .full],.int .i64 0])∧u=t∧True:=by
 have w1:=fun s=>CNames_S aw18 aw18Ok s
 rw[aw18N,aw18R,aw18V]at w1
 rw[aw18V]
 refine G_enter Tryz.func13 rfl Tryz.ntmps13 rfl fun Q hQ hQe=>?_
 (repeat'(first|refine Ctl ?_|((with_reducible refine Kof.use hK ?_);clear hK hE K E)|((with_reducible refine W_cond (fun h=>?_) (fun h=>?_))<;>(try(exfalso;assumption)))|((first|(with_reducible first|refine G_region fun K E hK hE=>?_|refine call_ret can28 (w1 _) ?_)|((with_reducible refine W_fresh (fun b hb=>?_));(repeat(obtain⟨_,hb⟩:=hb))))<;>(try simp(disch:=omega) only[go_sem,seval,disown_fl, *]))))
 refine L_rounds 3 (KR_succ 2 ?_)
 (repeat'(first|refine Ctl ?_|((with_reducible refine Kof.use hK ?_);clear hK hE K E)|((with_reducible refine W_cond (fun h=>?_) (fun h=>?_))<;>(try(exfalso;assumption)))|(((with_reducible refine G_region fun K E hK hE=>?_))<;>(try simp(disch:=first|assumption|omega) only[go_sem,seval,disown_fl, *]))))
 refine KR_succ 1 ?_
 (repeat'(first|refine Ctl ?_|((with_reducible refine Kof.use hK ?_);clear hK hE K E)|((with_reducible refine W_cond (fun h=>?_) (fun h=>?_))<;>(try(exfalso;assumption)))|(((with_reducible refine G_region fun K E hK hE=>?_))<;>(try simp(disch:=first|assumption|omega) only[go_sem,seval,disown_fl, *]))))
 refine KR_succ 0 ?_
 (repeat'(first|refine Ctl ?_|((with_reducible refine Kof.use hK ?_);clear hK hE K E)|((with_reducible refine W_cond (fun h=>?_) (fun h=>?_))<;>(try(exfalso;assumption)))|(((with_reducible refine G_region fun K E hK hE=>?_))<;>(try simp(disch:=omega) only[go_sem,seval,disown_fl, *]))))
 rename_i b1 hb1 b2 _ _ hb2 b4 _ _ _ _ hb4 _ bm _ _ _ _ _ _ hbm _ _ _ _ _ _ _ _ _ _
 obtain⟨bk,hbk⟩:∃z,z=b:=⟨_,rfl⟩
 subst hbk
 have tbk:=hb
 refine Kp_nameE (fun env S hE hS=>?_)
 have f1:env 1=.ptr b1 0:=by rw[hE];((try simp(disch:=assumption) only[go_sem,seval, *])<;>rfl)
 have f4:env 4=.ptr b4 0:=by rw[hE];((try simp(disch:=assumption) only[go_sem,seval, *])<;>rfl)
 have f2:env 2=.ptr b2 0:=by rw[hE];((try simp(disch:=assumption) only[go_sem,seval, *])<;>rfl)
 have f6:env 6=.ptr bk 0:=by rw[hE];((try simp(disch:=assumption) only[go_sem,seval, *])<;>rfl)
 have f9:env 9=.int .i64 0:=by rw[hE];((try simp(disch:=assumption) only[go_sem,seval, *])<;>rfl)
 have f58:env 58=.lst [[.str [77,97,105,110],.str [],.lst [[.bool true,.str [109,97,105,110],.lst [] .no,.lst [[.int .i64 1,.str [120],.str [],.str [],.str [77,97,105,110],.lst [] .no,.lst [] .no,.lst [] .no],[.int .i64 4,.str [120],.str [120],.str [],.str [102],.lst [] .no,.lst [] .no,.lst [] .no]] .no]] .no]] .no:=by rw[hE];((try simp(disch:=assumption) only[go_sem,seval, *])<;>rfl)
 have f59:env 59=.int .i64 1:=by rw[hE];((try simp(disch:=assumption) only[go_sem,seval, *])<;>rfl)
 have f60:env 60=.int .i64 0:=by rw[hE];((try simp(disch:=assumption) only[go_sem,seval, *])<;>rfl)
 have s1:S b1=.obj 45 [.lst [[.str [77,97,105,110],.str [],.lst [[.bool true,.str [109,97,105,110],.lst [] .no,.lst [[.int .i64 1,.str [120],.str [],.str [],.str [77,97,105,110],.lst [] .no,.lst [] .no,.lst [] .no],[.int .i64 4,.str [120],.str [120],.str [],.str [102],.lst [] .no,.lst [] .no,.lst [] .no]] .no]] .no]] .no]:=by rw[hS];simp(disch:=assumption) only[St.set_same,St.set_other]
 have s2:S b2=.obj 26 [.lst [] .full,.lst [] .full,.lst [] .full,.lst [] .full,.lst [] .full,.lst [] .full,.lst [] .full,.lst [] .full,.int .i64 0,.lst [] .full,.lst [] .full,.lst [] .full,.lst [] .full,.lst [] .full,.lst [] .full,.lst [] .full,.lst [] .full,.lst [] .full,.lst [] .full,.lst [] .full,.lst [] .full]:=by rw[hS];simp(disch:=assumption) only[St.set_same,St.set_other]
 have s4:S b4=.obj 26 [.lst [[.str [77,97,105,110,58,58,109,97,105,110]]] .no,.lst [[.str [77,97,105,110,58,58,109,97,105,110,46,114,101,116,117,114,110]],[.str [77,97,105,110,58,58,109,97,105,110,46,120]]] .no,.lst [[.str [77,97,105,110]]] .no,.lst [] .no,.lst [[.str [102]]] .no,.lst [] .no,.lst [[.int .i64 0],[.int .i64 0]] .no,.lst [] .no,.int .i64 0,.lst [] .full,.lst [] .full,.lst [] .full,.lst [] .full,.lst [] .full,.lst [] .full,.lst [] .full,.lst [] .full,.lst [] .full,.lst [] .full,.lst [] .full,.lst [] .full]:=by rw[hS];simp(disch:=assumption) only[St.set_same,St.set_other]
 have sk:S bk=.obj 90 [.lst [[.str [77,97,105,110],.str [],.lst [[.bool true,.str [109,97,105,110],.lst [] .no,.lst [[.int .i64 1,.str [120],.str [],.str [],.str [77,97,105,110],.lst [] .no,.lst [] .no,.lst [] .no],[.int .i64 4,.str [120],.str [120],.str [],.str [102],.lst [] .no,.lst [] .no,.lst [] .no]] .no]] .no]] .no,.lst [[.str [77,97,105,110,58,58,109,97,105,110]]] .no,.lst [[.str [77,97,105,110,58,58,109,97,105,110,46,114,101,116,117,114,110]],[.str [77,97,105,110,58,58,109,97,105,110,46,120]]] .no,.lst [[.str [77,97,105,110]]] .no,.lst [] .no,.lst [[.str [102]]] .no,.lst [] .no,.lst [[.int .i64 0],[.int .i64 0]] .no,.lst [] .no,.int .i64 0,.lst [] .full,.lst [] .full,.lst [] .full,.lst [] .full,.lst [] .full,.lst [] .full,.lst [] .full,.lst [] .full,.lst [] .full,.lst [] .full,.lst [] .full,.lst [] .full,.mp bm,.str [],.int .i64 0,.int .i64 0]:=by rw[hS];simp(disch:=assumption) only[St.set_same,St.set_other]
 have sm:S bm=.map (mpV encI aM):=by rw[hS];simp(disch:=assumption) only[St.set_same,St.set_other];rfl
 have hF:Fg S t:=by rw[hS];(exact z_fg)
 have HF:=Lib.hid hF
 clear hE hS hF
 have q1:S b1≠.free:=by rw[s1];simp
 have q2:S b2≠.free:=by rw[s2];simp
 have q4:S b4≠.free:=by rw[s4];simp
 have qk:S bk≠.free:=by rw[sk];simp
 have qm:S bm≠.free:=by rw[sm];simp
 have wv:=fun(s:St) (h1:s bk=.obj 90 [.lst [[.str [77,97,105,110],.str [],.lst [[.bool true,.str [109,97,105,110],.lst [] .no,.lst [[.int .i64 1,.str [120],.str [],.str [],.str [77,97,105,110],.lst [] .no,.lst [] .no,.lst [] .no],[.int .i64 4,.str [120],.str [120],.str [],.str [102],.lst [] .no,.lst [] .no,.lst [] .no]] .no]] .no]] .no,.lst [[.str [77,97,105,110,58,58,109,97,105,110]]] .no,.lst [[.str [77,97,105,110,58,58,109,97,105,110,46,114,101,116,117,114,110]],[.str [77,97,105,110,58,58,109,97,105,110,46,120]]] .no,.lst [[.str [77,97,105,110]]] .no,.lst [] .no,.lst [[.str [102]]] .no,.lst [] .no,.lst [[.int .i64 0],[.int .i64 0]] .no,.lst [] .no,.int .i64 0,.lst [] .full,.lst [] .full,.lst [] .full,.lst [] .full,.lst [] .full,.lst [] .full,.lst [] .full,.lst [] .full,.lst [] .full,.lst [] .full,.lst [] .full,.lst [] .full,.mp bm,.str [77,97,105,110,58,58,109,97,105,110],.int .i64 0,.int .i64 0]) (h2:s bm=.map (mpV encI aM))=>Mv_S s bk bm _ [77,97,105,110,58,58,109,97,105,110] [114,101,116,117,114,110] aM h1 h2 (r:=0)
 refine L_rounds 2 (KR_succ 1 ?_)
 (repeat'(first|refine Ctl ?_|((with_reducible refine Kof.use hK ?_);clear hK hE K E)|((with_reducible refine W_cond (fun h=>?_) (fun h=>?_))<;>(try(exfalso;assumption)))|((first|(with_reducible refine G_region fun K E hK hE=>?_)|((with_reducible refine W_fresh (fun b hb=>?_));(try(obtain⟨_,_⟩:=nef hb q1;obtain⟨_,_⟩:=nef hb q2;obtain⟨_,_⟩:=nef hb q4;obtain⟨_,_⟩:=nef hb qk;obtain⟨_,_⟩:=nef hb qm))))<;>(try simp(disch:=omega) only[go_sem,seval,disown_fl, *]))))
 obtain⟨b11,hb11⟩:∃z,z=b:=⟨_,rfl⟩
 subst hb11
 rename_i e1 e2 e3 e4 e5 e6 e7 e8 e9 e10
 have h11:=hb
 refine L_rounds 2 (KR_succ 1 ?_)
 (repeat'(first|refine Ctl ?_|((with_reducible refine Kof.use hK ?_);clear hK hE K E)|((with_reducible refine W_cond (fun h=>?_) (fun h=>?_))<;>(try(exfalso;assumption)))|((first|(with_reducible refine G_region fun K E hK hE=>?_)|((with_reducible refine W_fresh (fun b hb=>?_));(repeat(obtain⟨_,hb⟩:=hb));(try(obtain⟨_,_⟩:=nef hb q1;obtain⟨_,_⟩:=nef hb q2;obtain⟨_,_⟩:=nef hb q4;obtain⟨_,_⟩:=nef hb qk;obtain⟨_,_⟩:=nef hb qm))))<;>(try simp(disch:=omega) only[go_sem,seval,disown_fl, *]))))
 refine L_rounds 1 (KR_succ 0 ?_)
 (repeat'(first|refine Ctl ?_|(with_reducible first|(refine Kof.use hK ?_;clear hK hE K E)|(refine Kof.use hKh ?_;clear hKh Kh)|(refine Kof.use hKb (P_next ?_);clear hKb Kb)|refine G_plan 25 [([0,1,2,3,4,5,6,7],8,[[0,1,2,3,4,5,6]]),([9,10],11,[[],[0]]),([12,13,14],15,[[],[],[]])] [] hQe fun K E hK hE=>?_)|((with_reducible refine W_cond (fun h=>?_) (fun h=>?_))<;>(try(exfalso;assumption)))|((first|(with_reducible first|refine G_region fun K E hK hE=>?_|refine call_ret can29 (wv _ z_sl z_sl) ?_|refine P_heads fun Kh hKh=>?_|refine P_fin fun Kh hKh=>?_|refine P_each fun Kb hKb=>?_)|((with_reducible refine W_app (fun o2 ho=>?_));(try simp(disch:=assumption) only[disown_set,disown_own,ownok_o,ownok_m,List.length_map,List.length_cons,List.length_nil,Nat.zero_add,disown_fl]at ho);(repeat(obtain⟨_,ho⟩:=ho));(try(have nq1:=ho.not q1;have nq2:=ho.not q2;have nq4:=ho.not q4;have nqk:=ho.not qk;have nqm:=ho.not qm))))<;>(try simp(disch:=first|assumption|omega) only[go_sem,seval,disown_fl, *]))))
 obtain⟨oR,hoR⟩:∃z,z=o2:=⟨_,rfl⟩
 subst hoR
 obtain⟨b13,hb13⟩:∃z,z=b:=⟨_,rfl⟩
 subst hb13
 have h13:=hb
 refine call_ex can30 (Mst_S _ bk bm (.lst [[.str [77,97,105,110],.str [],.lst [[.bool true,.str [109,97,105,110],.lst [] .no,.lst [[.int .i64 1,.str [120],.str [],.str [],.str [77,97,105,110],.lst [] .no,.lst [] .no,.lst [] .no],[.int .i64 4,.str [120],.str [120],.str [],.str [102],.lst [] .no,.lst [] .no,.lst [] .no]] .no]] .no]] .no) (.lst [[.lst [[.int .i64 0],[.int .i64 0]] .full]] oR) (St.set_same _ _ _) (by simp(disch:=assumption) only[St.set_other,own_rd];exact sm)) (fun a h=>?_)
 obtain⟨oA,oS⟩:=a
 dsimp only
 clear h
 simp only[go_sem,seval]
 (repeat'(first|refine Ctl ?_|((with_reducible refine Kof.use hK ?_);clear hK hE K E)|(((with_reducible refine G_region fun K E hK hE=>?_))<;>(try simp(disch:=omega) only[go_sem,seval,disown_fl, *]))))
 refine KR_succ 0 ?_
 (repeat'(first|refine Ctl ?_|((with_reducible refine Kof.use hK ?_);clear hK hE K E)|((with_reducible refine W_cond (fun h=>?_) (fun h=>?_))<;>(try(exfalso;assumption)))|(((with_reducible refine G_region fun K E hK hE=>?_))<;>(try simp(disch:=omega) only[go_sem,seval,disown_fl, *]))))
 refine KR_succ 0 ?_
 (repeat'(first|refine Ctl ?_|((with_reducible refine Kof.use hK ?_);clear hK hE K E)|((with_reducible refine W_cond (fun h=>?_) (fun h=>?_))<;>(try(exfalso;assumption)))|((first|(with_reducible refine G_region fun K E hK hE=>?_)|((with_reducible refine W_fresh (fun b hb=>?_));(repeat(obtain⟨_,hb⟩:=hb));(try((try(rw[own_fr]at hb;obtain⟨hob,hb⟩:=hb));obtain⟨_,_⟩:=nef hb q1;obtain⟨_,_⟩:=nef hb q2;obtain⟨_,_⟩:=nef hb q4;obtain⟨_,_⟩:=nef hb qk;obtain⟨_,_⟩:=nef hb qm))))<;>(try simp(disch:=first|assumption|omega) only[go_sem,seval,disown_fl, *]))))
 obtain⟨b16,hb16⟩:∃z,z=b:=⟨_,rfl⟩
 subst hb16
 refine Kp_nameE (fun env2 T hE hT=>?_)
 have g2:env2 2=.ptr b2 0:=by rw[hE];((try simp(disch:=assumption) only[go_sem,seval, *])<;>rfl)
 have g4:env2 4=.ptr b4 0:=by rw[hE];((try simp(disch:=assumption) only[go_sem,seval, *])<;>rfl)
 have g6:env2 6=.ptr bk 0:=by rw[hE];((try simp(disch:=assumption) only[go_sem,seval, *])<;>rfl)
 have g149:env2 149=.int .i64 1:=by rw[hE];((try simp(disch:=assumption) only[go_sem,seval, *])<;>rfl)
 have g148:env2 148=.lst [[.str [77,97,105,110]]] .no:=by rw[hE];((try simp(disch:=assumption) only[go_sem,seval, *])<;>rfl)
 have g150:env2 150=.int .i64 0:=by rw[hE];((try simp(disch:=assumption) only[go_sem,seval, *])<;>rfl)
 have t4:T b4=.obj 26 [.lst [[.str [77,97,105,110,58,58,109,97,105,110]]] .no,.lst [[.str [77,97,105,110,58,58,109,97,105,110,46,114,101,116,117,114,110]],[.str [77,97,105,110,58,58,109,97,105,110,46,120]]] .no,.lst [[.str [77,97,105,110]]] .no,.lst [] .no,.lst [[.str [102]]] .no,.lst [] .no,.lst [[.int .i64 0],[.int .i64 0]] .no,.lst [] .no,.int .i64 0,.lst [] .full,.lst [] .full,.lst [] .full,.lst [] .full,.lst [] .full,.lst [] .full,.lst [] .full,.lst [] .full,.lst [] .full,.lst [] .full,.lst [] .full,.lst [] .full]:=by rw[hT];simp(disch:=assumption) only[St.set_same,St.set_other,own_rd];exact s4
 have t2:T b2=.obj 26 [.lst [] .full,.lst [] .full,.lst [] .full,.lst [] .full,.lst [] .full,.lst [] .full,.lst [] .full,.lst [] .full,.int .i64 0,.lst [] .full,.lst [] .full,.lst [] .full,.lst [] .full,.lst [] .full,.lst [] .full,.lst [] .full,.lst [] .full,.lst [] .full,.lst [] .full,.lst [] .full,.lst [] .full]:=by rw[hT];simp(disch:=assumption) only[St.set_same,St.set_other,own_rd];exact s2
 have tk:T bk=.obj 90 [.lst [[.str [77,97,105,110],.str [],.lst [[.bool true,.str [109,97,105,110],.lst [] .no,.lst [[.int .i64 1,.str [120],.str [],.str [],.str [77,97,105,110],.lst [] .no,.lst [] .no,.lst [] .no],[.int .i64 4,.str [120],.str [120],.str [],.str [102],.lst [] .no,.lst [] .no,.lst [] .no]] .no]] .no]] .no,.lst [[.str [77,97,105,110,58,58,109,97,105,110]]] .no,.lst [[.str [77,97,105,110,58,58,109,97,105,110,46,114,101,116,117,114,110]],[.str [77,97,105,110,58,58,109,97,105,110,46,120]]] .no,.lst [[.str [77,97,105,110]]] .no,.lst [] .no,.lst [[.str [102]]] .no,.lst [] .no,.lst [[.int .i64 0],[.int .i64 0]] .no,.lst [] .no,.int .i64 0,.lst [[.lst [[.int .i64 1],[.int .i64 0]] .full]] oA,.lst [] .full,.lst [[.lst [[.int .i64 1],[.int .i64 0],[.int .i64 1]] .full]] oS,.lst [] .full,.lst [] .full,.lst [] .full,.lst [] .full,.lst [] .full,.lst [] .full,.lst [] .full,.lst [[.lst [[.int .i64 0],[.int .i64 0]] .full]] oR,.lst [] .full,.mp bm,.str [77,97,105,110,58,58,109,97,105,110],.int .i64 1,.int .i64 0]:=by rw[hT];simp(disch:=assumption) only[St.set_same,St.set_other]
 have fr:∀z,S z=.free→t z=.free:=fun z hz=>(HF.out z).elim id (fun e=>e.trans hz)
 have hFT:Fg T t:=by
  rw[hT]
  exact Fg.setA (Fg.setA (Fg.setA (Fg.setA (Fg.trans (Fg.own ho) HF.out) (fr _ h11)) (fr _ h13)) tbk) (fr _ hb)
 have HFT:=Lib.hid hFT
 have tb2:t b2=.free:=by assumption
 clear hE hT hFT
 refine L_rounds 2 (KR_succ 1 ?_)
 (repeat'(first|refine Ctl ?_|((with_reducible refine Kof.use hK ?_);clear hK hE K E)|((with_reducible refine W_cond (fun h=>?_) (fun h=>?_))<;>(try(exfalso;assumption)))|(((with_reducible refine G_region fun K E hK hE=>?_))<;>(try simp(disch:=omega) only[go_sem,seval,disown_fl, *]))))
 refine L_rounds 1 (KR_succ 0 ?_)
 (repeat'(first|refine Ctl ?_|((with_reducible refine Kof.use hK ?_);clear hK hE K E)|((with_reducible refine W_cond (fun h=>?_) (fun h=>?_))<;>(try(exfalso;assumption)))|(((with_reducible refine G_region fun K E hK hE=>?_))<;>(try simp(disch:=omega) only[go_sem,seval,disown_fl, *]))))
 refine KR_succ 0 ?_
 have wall:=fun s=>Pall_S bk 1 s
 have HPL:=ptrL_len (b:=bk) (i:=1)
 (repeat'(first|refine Ctl ?_|((with_reducible refine Kof.use hK ?_);clear hK hE K E)|((with_reducible refine W_cond (fun h=>?_) (fun h=>?_))<;>(try(exfalso;assumption)))|(((with_reducible first|refine G_region fun K E hK hE=>?_|refine call_ret can21 (wall _) ?_))<;>(try simp(disch:=omega) only[go_sem,seval,disown_fl,HPL, *]))))
 obtain⟨CK,hCKd⟩:∃CK:List VV,CK=[.lst [[.str [77,97,105,110],.str [],.lst [[.bool true,.str [109,97,105,110],.lst [] .no,.lst [[.int .i64 1,.str [120],.str [],.str [],.str [77,97,105,110],.lst [] .no,.lst [] .no,.lst [] .no],[.int .i64 4,.str [120],.str [120],.str [],.str [102],.lst [] .no,.lst [] .no,.lst [] .no]] .no]] .no]] .no,.lst [[.str [77,97,105,110,58,58,109,97,105,110]]] .no,.lst [[.str [77,97,105,110,58,58,109,97,105,110,46,114,101,116,117,114,110]],[.str [77,97,105,110,58,58,109,97,105,110,46,120]]] .no,.lst [[.str [77,97,105,110]]] .no,.lst [] .no,.lst [[.str [102]]] .no,.lst [] .no,.lst [[.int .i64 0],[.int .i64 0]] .no,.lst [] .no,.int .i64 0,.lst [[.lst [[.int .i64 1],[.int .i64 0]] .full]] oA,.lst [] .full,.lst [[.lst [[.int .i64 1],[.int .i64 0],[.int .i64 1]] .full]] oS,.lst [] .full,.lst [] .full,.lst [] .full,.lst [] .full,.lst [] .full,.lst [] .full,.lst [] .full,.lst [[.lst [[.int .i64 0],[.int .i64 0]] .full]] oR,.lst [] .full,.mp bm,.str [77,97,105,110,58,58,109,97,105,110],.int .i64 1,.int .i64 0]:=⟨_,rfl⟩
 rw[← hCKd]at tk
 have hCKl:CK.length=26:=by rw[hCKd];rfl
 have hCKf:(CK.drop 1).take 21=[.lst [[.str [77,97,105,110,58,58,109,97,105,110]]] .no,.lst [[.str [77,97,105,110,58,58,109,97,105,110,46,114,101,116,117,114,110]],[.str [77,97,105,110,58,58,109,97,105,110,46,120]]] .no,.lst [[.str [77,97,105,110]]] .no,.lst [] .no,.lst [[.str [102]]] .no,.lst [] .no,.lst [[.int .i64 0],[.int .i64 0]] .no,.lst [] .no,.int .i64 0,.lst [[.lst [[.int .i64 1],[.int .i64 0]] .full]] oA,.lst [] .full,.lst [[.lst [[.int .i64 1],[.int .i64 0],[.int .i64 1]] .full]] oS,.lst [] .full,.lst [] .full,.lst [] .full,.lst [] .full,.lst [] .full,.lst [] .full,.lst [] .full,.lst [[.lst [[.int .i64 0],[.int .i64 0]] .full]] oR,.lst [] .full]:=by rw[hCKd];rfl
 have hCK:Hid (∀i,i<12→∃xs ow,CK[10+i]?=some (.lst xs ow)∧xs.length≤1∧CK.take (10+i)++[VV.lst xs ow]++CK.drop (10+i+1)=CK):=Lib.hid (fun i hi=>by
  rw[hCKd]
  match i,hi with
  |0,_=>exact⟨_,_,rfl,by simp,rfl⟩
  |1,_=>exact⟨_,_,rfl,by simp,rfl⟩
  |2,_=>exact⟨_,_,rfl,by simp,rfl⟩
  |3,_=>exact⟨_,_,rfl,by simp,rfl⟩
  |4,_=>exact⟨_,_,rfl,by simp,rfl⟩
  |5,_=>exact⟨_,_,rfl,by simp,rfl⟩
  |6,_=>exact⟨_,_,rfl,by simp,rfl⟩
  |7,_=>exact⟨_,_,rfl,by simp,rfl⟩
  |8,_=>exact⟨_,_,rfl,by simp,rfl⟩
  |9,_=>exact⟨_,_,rfl,by simp,rfl⟩
  |10,_=>exact⟨_,_,rfl,by simp,rfl⟩
  |11,_=>exact⟨_,_,rfl,by simp,rfl⟩)
 clear hCKd
 refine L_loop (fun m env s'=>∃(i:Nat),i≤12∧m+i=12∧T=s'∧env 2=.ptr b2 0∧env 6=.ptr bk 0∧env 209=.lst (ptrL bk 1) .full∧env 210=.int .i64 12∧env 211=.int .i64 i) 12 ⟨0,by omega,by omega,rfl,z_sl,z_sl,z_sl,z_sl,z_sl⟩ ?_
 clear g2 g4 g6 g148 g149 g150 env2
 rintro m env2 s' ⟨i,hi,hm,hTs,g2,g6,g209,g210,g211⟩
 subst hTs
 by_cases hlt:i<12
 ·have hpt:=ptrL_at (b:=bk) (i:=1) hlt
  obtain⟨xs,ow,hx,hxl,hsp⟩:=hCK.out i hlt
  have hlo:((10+i)+1≤26)=True:=eq_true (by omega)
  rw[show 1+9+i=10+i from rfl]at hpt
  generalize 10+i=oo at *
  have wS:=fun s=>Sort1_S xs ow (.fn 33 []) hxl s
  have wC:=fun s=>Comp1_S xs ow (.fn 35 []) hxl s
  have hTS:T.set bk (.obj 90 CK)=T:=St.set_self T bk _ tk
  (repeat'(first|refine Ctl ?_|((with_reducible refine Kof.use hK ?_);clear hK hE K E)|((with_reducible refine W_cond (fun h=>?_) (fun h=>?_))<;>(try(exfalso;omega)))|(((with_reducible first|refine G_region fun K E hK hE=>?_|refine call_ret can32 (wS _) ?_|refine call_ret can34 (wC _) ?_))<;>(try simp(disch:=omega) only[go_sem,seval,HPL,hpt,hx,hlo,hCKl,hsp,hTS, *]))))
  all_goals exact⟨m - 1,by omega,i+1,by omega,by omega,(by rfl),z_sl,z_sl,z_sl,z_sl,z_sl⟩
 obtain rfl:i=12:=by omega
 (repeat'(first|refine Ctl ?_|((with_reducible refine Kof.use hK ?_);clear hK hE K E)|((with_reducible refine W_cond (fun h=>?_) (fun h=>?_))<;>(try(exfalso;assumption)))|(((with_reducible refine G_region fun K E hK hE=>?_))<;>(try simp(disch:=omega) only[go_sem,seval,hCKl,hCKf, *]))))
 all_goals(refine W_ret res13 hQ ?_)
 exact⟨_,_,Wk.refl _,Fg.setA HFT.out tb2,(oA,oS,oR),rfl,rfl,trivial⟩
end Go.Proofs.YtgdbgfjhenobdaaGreatDoor
