/- Walks of functions that the claim reaches, and plain facts of them. Conditions: those in the statements. -/
import Derived.Test.YtgdbgfjhenobdaaGreatDoorJmDw
import Derived.Test.YtgdbgfjhenobdaaGreatDoorJmDs
import Derived.Test.YtgdbgfjhenobdaaGreatDoorJmDp
import Derived.Test.YtgdbgfjhenobdaaGreatDoorJmDej
import Derived.Test.YtgdbgfjhenobdaaGreatDoorJmUlj
set_option linter.unusedSimpArgs false
set_option linter.unusedVariables false
set_option maxRecDepth 100000
namespace Go.Proofs.YtgdbgfjhenobdaaGreatDoor
open Go.RowKit
attribute [local go_sem] disown_fl owned_fl own_fl
theorem SCalls.wk {P:Program}{f:FuncId}{xs ys:List VV}{s:St}{Q:SEnd→St→Prop}(h:SCalls P f ys s Q)(hl:xs.length=ys.length)(hw:∀(j:Nat) (x y:VV),xs[j]?=some x→ys[j]?=some y→Wk x y):SCalls P f xs s Q:=
 fun w0 G w vs hS hr=>h w0 G w vs hS ⟨hr.1.trans hl,fun j v y hv hy=>by
  have hj:j<xs.length:=by rw[hl];exact(List.getElem?_eq_some_iff.1 hy).1
  exact hw j xs[j] y (List.getElem?_eq_getElem hj) hy G v (hr.2 j v xs[j] hv (List.getElem?_eq_getElem hj))⟩
theorem dm_ok {d:Dm}(h:dmB d=true):DmOk d:=by
 have:=dm_small h
 exact⟨by omega,by omega,by omega⟩
theorem dcl_ok {d:Dcl}(h:dclB d=true):DclOk d:=by
 have h1:=dcl_small h
 simp only[dclB,Bool.and_eq_true,decide_eq_true_eq,List.all_eq_true]at h
 exact⟨by omega,by omega,fun t ht=>by have:=nameB_len (h.2 t ht);omega⟩
theorem atm_ok {a:Atm}(h:atmB a=true):AtmOk a:=by
 simp only[atmB,Bool.and_eq_true,decide_eq_true_eq,List.all_eq_true]at h
 obtain⟨⟨⟨h1,h2⟩,h3⟩,h4⟩:=h
 have h5:=nameB_len h2
 refine⟨by omega,by omega,fun t ht=>?_⟩
 have h6:=h1 t ht
 unfold trmB at h6
 split at h6
 ·simp only[Bool.and_eq_true,decide_eq_true_eq]at h6
  have:=nameB_len h6.1
  exact⟨by omega,by omega,by omega⟩
 ·simp only[Bool.and_eq_true,decide_eq_true_eq]at h6
  rw[h6.1.1]
  exact⟨by simp,by omega,by omega⟩
theorem pgm_ok {x:Pgm}(h:pgmB x=true):PgmOk x:=by
 obtain⟨l1,l2,l3,h1,h2,h3⟩:=pgmB_to h
 refine⟨by omega,by omega,by omega,fun d hd=>dm_ok (h1 d hd),fun d hd=>dcl_ok (h2 d hd),fun y hy=>?_⟩
 have h4:=h3 y hy
 simp only[rulB,Bool.and_eq_true,decide_eq_true_eq,List.all_eq_true]at h4
 obtain⟨⟨⟨⟨⟨g1,g2⟩,g3⟩,g4⟩,g5⟩,g6⟩:=h4
 exact⟨atm_ok g1,by omega,fun a ha=>atm_ok (g6 a ha)⟩
theorem WkQ.agg {xs ys:List VV}(h:WkQ xs ys):Wk (.agg xs) (.agg ys):=by
 intro G v r
 generalize hq:VV.agg xs=q at r
 cases r with
 |agg vs xs' hs h1 hR=>
  injection hq with hq;subst hq
  refine .agg vs ys (by rw[h.len];exact hs) (fun y hy=>?_) (fun j v y hv hy=>?_)
  ·obtain⟨j,hj⟩:=List.getElem?_of_mem hy
   obtain⟨x,hx,_,h3⟩:=h.get j y hj
   exact h3 (h1 x (List.mem_of_getElem? hx))
  ·obtain⟨x,hx,h2,_⟩:=h.get j y hy
   exact h2 _ _ (hR j v x hv hx)
 |_=>cases hq
theorem SCalls.wk1 {P:Program}{f:FuncId}{x y:VV}{s:St}{Q:SEnd→St→Prop}(h:SCalls P f [y] s Q)(hw:Wk x y):SCalls P f [x] s Q:=
 h.wk rfl fun j a b ha hb=>by
  match j with
  |0=>simp at ha hb;subst ha;subst hb;exact hw
  |j+1=>simp at ha
theorem SCalls.wk2 {P:Program}{f:FuncId}{x y x' y':VV}{s:St}{Q:SEnd→St→Prop}(h:SCalls P f [y,y'] s Q)(hw:Wk x y)(hw':Wk x' y'):SCalls P f [x,x'] s Q:=
 h.wk rfl fun j a b ha hb=>by
  match j with
  |0=>simp at ha hb;subst ha;subst hb;exact hw
  |1=>simp at ha hb;subst ha;subst hb;exact hw'
  |j+2=>simp at ha
theorem tbC_at {l:List (List UInt8×List (List Int))}{i:Nat}{x:List UInt8×List (List Int)}(h:l[i]?=some x):(l.map tbC)[i]?=some (tbC x):=by rw[List.getElem?_map,h];rfl
set_option maxHeartbeats 4000000 in
theorem Same13_S (a:List (List UInt8×List (List Int)))(ha:a.length≤1000000∧∀y,y∈a→RowsOk y.2)(t:St):SRet Tryz.prog 11 [.lst (a.map tbC) .no,.lst (a.map tbC) .no] t (.bool true) t:=by
 have hal:(a.map tbC).length=a.length:=by simp
 have hal2:=ha.1
 have HA:=Lib.hid ha.2
 clear ha
 refine G_enter Tryz.func11 rfl Tryz.ntmps11 rfl fun Q hQ hQe=>?_
 (repeat'(first|refine Ctl ?_|((with_reducible refine Kof.use hK ?_);clear hK hE K E)|((with_reducible refine W_cond (fun h=>?_) (fun h=>?_))<;>(try(exfalso;assumption)))|(((with_reducible refine G_region fun K E hK hE=>?_))<;>(try simp(disch:=omega) only[go_sem,seval,hal, *]))))
 refine L_loop (fun m env s'=>∃(i:Nat),i≤a.length∧m+i=a.length∧t=s'∧env 0=.lst (a.map tbC) .no∧env 1=.lst (a.map tbC) .no∧env 5=.int .i64 i) a.length ?_ ?_
 ·exact⟨0,by omega,by omega,rfl,z_sl,z_sl,z_sl⟩
 rintro m env s' ⟨i,hi,hm,he0,e0,e1,e5⟩
 subst he0
 by_cases hlt:i<a.length
 ·obtain⟨y,hy⟩:=uget hlt
  have hsy:=tbC_at hy
  have hyo:=HA.out y (List.mem_of_getElem? hy)
  have w1:=fun s=>SameRows_S y.2 y.2 .no .no hyo hyo s
  obtain⟨yn,yr⟩:=y
  simp only[tbC]at hsy
  simp only[decide_true]at w1
  clear hy hyo
  (repeat'(first|refine Ctl ?_|(with_reducible first|(refine Kof.use hK ?_;clear hK hE K E)|(refine Kof.use hKh ?_;clear hKh Kh)|(refine Kof.use hKb (P_next ?_);clear hKb Kb)|refine G_plan 6 [([0,1,2,3,4,5,6,7,8,9,10,11,12,13,14,15,16,17,18,19,20,21],22,[[]])] [23,24] hQe fun K E hK hE=>?_)|((with_reducible refine W_cond (fun h=>?_) (fun h=>?_))<;>(try(exfalso;assumption)))|(((with_reducible first|refine G_region fun K E hK hE=>?_|refine call_ret can14 (w1 _) ?_|refine P_heads fun Kh hKh=>?_|refine P_fin fun Kh hKh=>?_|refine P_each fun Kb hKb=>?_))<;>(try simp(disch:=omega) only[go_sem,seval,hal,hsy, *]))))
  all_goals exact⟨m - 1,by omega,i+1,by omega,by omega,rfl,z_sl,z_sl,z_sl⟩
 ·obtain rfl:i=a.length:=by omega
  (repeat'(first|refine Ctl ?_|((with_reducible refine Kof.use hK ?_);clear hK hE K E)|((with_reducible refine W_cond (fun h=>?_) (fun h=>?_))<;>(try(exfalso;assumption)))|(((with_reducible refine G_region fun K E hK hE=>?_))<;>(try simp(disch:=omega) only[go_sem,seval,hal, *]))))
  all_goals(refine W_ret res11 hQ ?_)
  all_goals exact⟨_,_,Wk.refl _,Fg.refl _,rfl,rfl⟩
def fc18:Fcs:=⟨[[77,97,105,110,58,58,109,97,105,110]],[[77,97,105,110,58,58,109,97,105,110,46,114,101,116,117,114,110],[77,97,105,110,58,58,109,97,105,110,46,120]],[[77,97,105,110]],[],[[102]],[],[0,0],[],0,fun i=>([[[1,0]],[],[[1,0,1]],[],[],[],[],[],[],[],[[0,0]],[]]:List (List (List Int))).getD i []⟩
theorem fc18_sm:FSm fc18:=by
 refine⟨by decide,by decide,by decide,by decide,by decide,by decide,by decide,by decide,?_⟩
 decide
theorem fc18_may:mayF fc18=true:=by decide +kernel
theorem rwk1 (r:List Int)(o:Own):Wk (.lst [[.lst (intsL r) .full]] o) (.lst [[.lst (intsL r) .no]] .no):=(rwF_wk (l:=[r])).wk
theorem fc18_wk (a:Own×Own×Own):Wk (.agg [.lst [[.str [77,97,105,110,58,58,109,97,105,110]]] .no,.lst [[.str [77,97,105,110,58,58,109,97,105,110,46,114,101,116,117,114,110]],[.str [77,97,105,110,58,58,109,97,105,110,46,120]]] .no,.lst [[.str [77,97,105,110]]] .no,.lst [] .no,.lst [[.str [102]]] .no,.lst [] .no,.lst [[.int .i64 0],[.int .i64 0]] .no,.lst [] .no,.int .i64 0,.lst [[.lst [[.int .i64 1],[.int .i64 0]] .full]] a.1,.lst [] .full,.lst [[.lst [[.int .i64 1],[.int .i64 0],[.int .i64 1]] .full]] a.2.1,.lst [] .full,.lst [] .full,.lst [] .full,.lst [] .full,.lst [] .full,.lst [] .full,.lst [] .full,.lst [[.lst [[.int .i64 0],[.int .i64 0]] .full]] a.2.2,.lst [] .full]) (.agg (fcsC fc18)):=by
 refine WkQ.agg (show WkQ _ [.lst [[.str [77,97,105,110,58,58,109,97,105,110]]] .no,.lst [[.str [77,97,105,110,58,58,109,97,105,110,46,114,101,116,117,114,110]],[.str [77,97,105,110,58,58,109,97,105,110,46,120]]] .no,.lst [[.str [77,97,105,110]]] .no,.lst [] .no,.lst [[.str [102]]] .no,.lst [] .no,.lst [[.int .i64 0],[.int .i64 0]] .no,.lst [] .no,.int .i64 0,.lst [[.lst [[.int .i64 1],[.int .i64 0]] .no]] .no,.lst [] .no,.lst [[.lst [[.int .i64 1],[.int .i64 0],[.int .i64 1]] .no]] .no,.lst [] .no,.lst [] .no,.lst [] .no,.lst [] .no,.lst [] .no,.lst [] .no,.lst [] .no,.lst [[.lst [[.int .i64 0],[.int .i64 0]] .no]] .no,.lst [] .no] from ?_)
 exact .cons (Wk.refl _) id (.cons (Wk.refl _) id (.cons (Wk.refl _) id (.cons (Wk.refl _) id (.cons (Wk.refl _) id (.cons (Wk.refl _) id (.cons (Wk.refl _) id (.cons (Wk.refl _) id (.cons (Wk.refl _) id (.cons (rwk1 [1,0] _) (fun _=>rfl) (.cons (WkR.refl _).wk (fun _=>rfl) (.cons (rwk1 [1,0,1] _) (fun _=>rfl) (.cons (WkR.refl _).wk (fun _=>rfl) (.cons (WkR.refl _).wk (fun _=>rfl) (.cons (WkR.refl _).wk (fun _=>rfl) (.cons (WkR.refl _).wk (fun _=>rfl) (.cons (WkR.refl _).wk (fun _=>rfl) (.cons (WkR.refl _).wk (fun _=>rfl) (.cons (WkR.refl _).wk (fun _=>rfl) (.cons (rwk1 [0,0] _) (fun _=>rfl) (.cons (WkR.refl _).wk (fun _=>rfl) (.nil)))))))))))))))))))))
theorem domsP_len {F:Fcs}:(domsP F).length=7:=by simp[domsP]
theorem prog_ok {F:Fcs}(hF:FSm F){x:Pgm}(hx:PgmOk x):PgmOk ⟨domsP F,x.decls,x.rules⟩:=by
 obtain⟨_,h2,h3,_,h5,h6⟩:=hx
 refine⟨by rw[domsP_len];omega,h2,h3,fun d hd=>?_,h5,h6⟩
 obtain⟨a1,a2,a3,a4,a5,a6,_⟩:=hF
 simp only[domsP,List.mem_map,List.mem_range]at hd
 obtain⟨k,_,rfl⟩:=hd
 have hb:0≤domF F k∧domF F k≤1024:=by
  unfold domF
  repeat(split;omega)
  omega
 exact⟨by simp,by simp only;omega,by simp only;omega⟩
theorem prz_ok {l:List Int}(h:l.length≤1024):RowsOk (prz18 l l.length):=by
 refine⟨by rw[prz18_len];omega,fun r hr=>?_⟩
 simp only[prz18,List.mem_map]at hr
 obtain⟨k,_,rfl⟩:=hr
 simp
theorem tab_ok {F:Fcs}(hF:FSm F):(tabL F).length≤1000000∧∀y,y∈tabL F→RowsOk y.2:=by
 obtain⟨a1,a2,a3,a4,a5,a6,a7,a8,_⟩:=id hF
 refine⟨by simp[tabL],fun y hy=>?_⟩
 simp only[tabL,List.mem_cons,List.not_mem_nil,or_false]at hy
 rcases hy with rfl|rfl|rfl|rfl|rfl|rfl|rfl|rfl|rfl|rfl|rfl|rfl|rfl|rfl|rfl
 all_goals first|exact hF.row (by omega)|exact prz_ok a8|exact prz_ok a7|exact⟨by simp,by simp⟩
set_option maxHeartbeats 16000000 in
theorem Aw18_S (x:Pgm)(hx:parseR anT=.ok x)(hd:x.doms=[])(h12:x.rules.length=12)(t:St):SRet Tryz.prog 5 [] t (.bool true) t:=by
 have w1:=fun s=>Rparse_S [99,108,97,115,115,32,77,97,105,110,32,123,32,115,116,97,116,105,99,32,109,97,105,110,40,41,32,123,32,120,32,61,32,110,101,119,32,77,97,105,110,59,32,120,46,102,32,61,32,120,59,32,125,32,125] (by decide) s
 rw[aw18P]at w1
 simp only[parseV]at w1
 have w2:=fun s=>POf_S s
 have w3:∀(s:St) (a:Own×Own×Own),SRet Tryz.prog 6 [.agg [.lst [[.str [77,97,105,110,58,58,109,97,105,110]]] .no,.lst [[.str [77,97,105,110,58,58,109,97,105,110,46,114,101,116,117,114,110]],[.str [77,97,105,110,58,58,109,97,105,110,46,120]]] .no,.lst [[.str [77,97,105,110]]] .no,.lst [] .no,.lst [[.str [102]]] .no,.lst [] .no,.lst [[.int .i64 0],[.int .i64 0]] .no,.lst [] .no,.int .i64 0,.lst [[.lst [[.int .i64 1],[.int .i64 0]] .full]] a.1,.lst [] .full,.lst [[.lst [[.int .i64 1],[.int .i64 0],[.int .i64 1]] .full]] a.2.1,.lst [] .full,.lst [] .full,.lst [] .full,.lst [] .full,.lst [] .full,.lst [] .full,.lst [] .full,.lst [[.lst [[.int .i64 0],[.int .i64 0]] .full]] a.2.2,.lst [] .full]] s (progV fc18 x) s:=fun s a=>SCalls.wk1 (PProg_S fc18 fc18_sm x hx hd s) (fc18_wk a)
 have w4:∀(s:St) (a:Own×Own×Own),SRet Tryz.prog 8 [.agg [.lst [[.str [77,97,105,110,58,58,109,97,105,110]]] .no,.lst [[.str [77,97,105,110,58,58,109,97,105,110,46,114,101,116,117,114,110]],[.str [77,97,105,110,58,58,109,97,105,110,46,120]]] .no,.lst [[.str [77,97,105,110]]] .no,.lst [] .no,.lst [[.str [102]]] .no,.lst [] .no,.lst [[.int .i64 0],[.int .i64 0]] .no,.lst [] .no,.int .i64 0,.lst [[.lst [[.int .i64 1],[.int .i64 0]] .full]] a.1,.lst [] .full,.lst [[.lst [[.int .i64 1],[.int .i64 0],[.int .i64 1]] .full]] a.2.1,.lst [] .full,.lst [] .full,.lst [] .full,.lst [] .full,.lst [] .full,.lst [] .full,.lst [] .full,.lst [[.lst [[.int .i64 0],[.int .i64 0]] .full]] a.2.2,.lst [] .full]] s (tabV fc18) s:=fun s a=>SCalls.wk1 (PTab_S fc18 fc18_sm s) (fc18_wk a)
 have k5:∀o:Own,Wk (.lst [[.lst [[.int .i64 1],[.int .i64 0]] .full]] o) (.lst (rowsV [[1,0]]) .no):=fun o=>(rwF_wk (l:=[[1,0]])).wk
 have k6:∀o:Own,Wk (.lst [[.lst [[.int .i64 1],[.int .i64 0],[.int .i64 1]] .full]] o) (.lst (rowsV [[1,0,1]]) .no):=fun o=>(rwF_wk (l:=[[1,0,1]])).wk
 have w5:∀(s:St) (o:Own),SRet Tryz.prog 14 [.lst [[.lst [[.int .i64 1],[.int .i64 0]] .full]] o,.lst [[.lst [[.int .i64 1],[.int .i64 0]] .full]] .full] s (.bool (decide (([[1,0]]:List (List Int))=[[1,0]]))) s:=fun s o=>SCalls.wk2 (SameRows_S [[1,0]] [[1,0]] .no .no ⟨by decide,by decide⟩ ⟨by decide,by decide⟩ s) (x:=.lst [[.lst [[.int .i64 1],[.int .i64 0]] .full]] o) (x':=.lst [[.lst [[.int .i64 1],[.int .i64 0]] .full]] .full) (k5 _) (k5 _)
 have w6:∀(s:St) (o:Own),SRet Tryz.prog 14 [.lst [[.lst [[.int .i64 1],[.int .i64 0],[.int .i64 1]] .full]] o,.lst [[.lst [[.int .i64 1],[.int .i64 0],[.int .i64 1]] .full]] .full] s (.bool (decide (([[1,0,1]]:List (List Int))=[[1,0,1]]))) s:=fun s o=>SCalls.wk2 (SameRows_S [[1,0,1]] [[1,0,1]] .no .no ⟨by decide,by decide⟩ ⟨by decide,by decide⟩ s) (x:=.lst [[.lst [[.int .i64 1],[.int .i64 0],[.int .i64 1]] .full]] o) (x':=.lst [[.lst [[.int .i64 1],[.int .i64 0],[.int .i64 1]] .full]] .full) (k6 _) (k6 _)
 have hV3:progV fc18 x=.tup [.agg (pgC ⟨domsP fc18,x.decls,x.rules⟩),.int .i64 0]:=by unfold progV;rw[if_pos fc18_may]
 have hV4:tabV fc18=.tup [.lst ((tabL fc18).map tbC) .no,.int .i64 0]:=by unfold tabV;rw[if_pos fc18_may]
 rw[hV3]at w3
 rw[hV4]at w4
 simp only[pgC]at w3
 rw[aw18V]at w1 w2
 have l1:((domsP fc18).map dmC).length=7:=by rw[List.length_map,domsP_len]
 have l2:(x.rules.map rulC).length=12:=by rw[List.length_map,h12]
 have l3:((tabL fc18).map tbC).length=15:=by simp[tabL]
 simp only[decide_true]at w5 w6
 clear k5 k6
 generalize (domsP fc18).map dmC=D1 at *
 generalize x.rules.map rulC=D2 at *
 generalize x.decls.map dclC=D3 at *
 generalize (tabL fc18).map tbC=D4 at *
 refine G_enter Tryz.func5 rfl Tryz.ntmps5 rfl fun Q hQ hQe=>?_
 (repeat'(first|refine Ctl ?_|((with_reducible refine Kof.use hK ?_);clear hK hE K E)|((first|(with_reducible first|refine G_region fun K E hK hE=>?_|refine call_ret can12 (w1 _) ?_|refine call_ret can6 (w3 _ _) ?_|refine call_ret can8 (w4 _ _) ?_|refine call_ret can14 (w5 _ _) ?_|refine call_ret can14 (w6 _ _) ?_)|((with_reducible refine call_ex can13 (w2 _) (fun a h=>?_)))|((with_reducible refine W_fresh (fun b hb=>?_));(repeat(obtain⟨_,hb⟩:=hb))))<;>(try simp(disch:=omega) only[go_sem,seval,List.append_eq,l1,l2,l3, *]))))
 all_goals(refine W_ret res5 hQ ?_)
 all_goals(refine⟨_,_,Wk.of_eq ?_,?_,rfl,rfl⟩)
 all_goals first|rfl|(exact z_fg)
set_option maxHeartbeats 16000000 in
theorem FactsProgram_S (F:Fcs)(hF:FcsOk F)(t:St):SRet Tryz.prog 3 [.agg (fcsC F)] t (.bool true) t:=by
 obtain⟨x,hx,hd,h12⟩:=anP
 have wa:=fun s=>Aw18_S x hx hd h12 s
 have wsm:=fun s=>Lsmall18_S F hF s
 have hone:(fcsC F).all VV.one=true:=rfl
 have hcl:(fcsC F).length=21:=rfl
 have hca:(fcsC F).take 21=fcsC F:=rfl
 have hpx:=pgm_ok (parseR_check hx)
 have w1:=fun(h:FSm F) s=>PProg_S F h x hx hd s
 have w2:=fun(h:FSm F) s=>RProg_S F h x hx hd s
 have w3:=fun(h:FSm F) s=>PTab_S F h s
 have w4:=fun(h:FSm F) s=>RTab_S F h s
 have w5:∃(p:Pgm) (e:Int) (l:List (List UInt8×List (List Int))) (e2:Int),progV F x=.tup [.agg (pgC p),.int .i64 e]∧tabV F=.tup [.lst (l.map tbC) .no,.int .i64 e2]∧(FSm F→(∀s,SRet Tryz.prog 10 [.agg (pgC p),.agg (pgC p)] s (.bool true) s)∧∀s,SRet Tryz.prog 11 [.lst (l.map tbC) .no,.lst (l.map tbC) .no] s (.bool true) s):=by
  unfold progV tabV
  by_cases hm:mayF F=true
  ·rw[if_pos hm,if_pos hm]
   refine⟨_,_,_,_,rfl,rfl,fun h=>⟨fun s=>?_,fun s=>Same13_S _ (tab_ok h) s⟩⟩
   have:=USame_S _ ⟨domsP F,x.decls,x.rules⟩ (prog_ok h hpx) s
   rwa [eqB_self]at this
  ·rw[if_neg hm,if_neg hm]
   refine⟨_,_,[],_,rfl,rfl,fun h=>⟨fun s=>?_,fun s=>Same13_S _ ⟨by simp,by simp⟩ s⟩⟩
   have:=USame_S ⟨[],[],[]⟩ ⟨[],[],[]⟩ ⟨by simp,by simp,by simp,by simp,by simp,by simp⟩ s
   rwa [eqB_self]at this
 obtain⟨p,e,l,e2,hp,hl,wS⟩:=w5
 rw[hp]at w1 w2
 rw[hl]at w3 w4
 clear hp hl hpx
 simp only[pgC]at w1 w2 wS
 generalize fcsC F=C at *
 generalize p.doms.map dmC=P1 at *
 generalize p.decls.map dclC=P2 at *
 generalize p.rules.map rulC=P3 at *
 generalize l.map tbC=TL at *
 clear hx hd h12
 refine G_enter Tryz.func3 rfl Tryz.ntmps3 rfl fun Q hQ hQe=>?_
 (repeat'(first|refine Ctl ?_|((with_reducible refine Kof.use hK ?_);clear hK hE K E)|((first|(with_reducible refine G_region fun K E hK hE=>?_)|((with_reducible refine W_fresh (fun b hb=>?_))))<;>(try simp(disch:=omega) only[go_sem,seval,hcl,hca, *]))))
 refine call_ex can4 (wsm _) (fun r h=>?_)
 cases r
 ·simp only[go_sem,seval,hcl,hca]
  (repeat'(first|refine Ctl ?_|((with_reducible refine Kof.use hK ?_);clear hK hE K E)|((with_reducible refine W_cond (fun h=>?_) (fun h=>?_))<;>(try(exfalso;assumption)))|(((with_reducible first|refine G_region fun K E hK hE=>?_|refine call_ret can5 (wa _) ?_))<;>(try simp(disch:=omega) only[go_sem,seval,hcl,hca, *]))))
  all_goals(refine W_ret res3 hQ ?_)
  all_goals(refine⟨_,_,Wk.of_eq ?_,?_,rfl,rfl⟩)
  all_goals first|rfl|(exact z_fg)
 ·have hs:=h rfl
  have v1:=w1 hs
  have v2:=w2 hs
  have v3:=w3 hs
  have v4:=w4 hs
  obtain⟨v5,v6⟩:=wS hs
  clear h w1 w2 w3 w4 wS
  simp only[go_sem,seval,hcl,hca]
  (repeat'(first|refine Ctl ?_|((with_reducible refine Kof.use hK ?_);clear hK hE K E)|((with_reducible refine W_cond (fun h=>?_) (fun h=>?_))<;>(try(exfalso;assumption)))|((first|(with_reducible first|refine G_region fun K E hK hE=>?_|refine call_ret can5 (wa _) ?_|refine call_ret can6 (v1 _) ?_|refine call_ret can7 (v2 _) ?_|refine call_ret can8 (v3 _) ?_|refine call_ret can9 (v4 _) ?_|refine call_ret can10 (v5 _) ?_|refine call_ret can11 (v6 _) ?_)|((with_reducible refine W_fresh (fun b hb=>?_));(repeat(obtain⟨_,hb⟩:=hb))))<;>(try simp(disch:=omega) only[go_sem,seval,hcl,hca, *]))))
  all_goals(refine W_ret res3 hQ ?_)
  all_goals(refine⟨_,_,Wk.of_eq ?_,?_,rfl,rfl⟩)
  all_goals first|rfl|(exact z_fg)
end Go.Proofs.YtgdbgfjhenobdaaGreatDoor
