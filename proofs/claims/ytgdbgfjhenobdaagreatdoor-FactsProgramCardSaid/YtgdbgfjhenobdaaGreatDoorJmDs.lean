/- Walks of functions that the claim reaches, and plain facts of them. Conditions: those in the statements. -/
import Derived.Test.YtgdbgfjhenobdaaGreatDoorJmDej
import Derived.Test.YtgdbgfjhenobdaaGreatDoorJmDk
import Derived.Test.YtgdbgfjhenobdaaGreatDoorJmPkj
set_option linter.unusedSimpArgs false
set_option linter.unusedVariables false
set_option maxRecDepth 100000
namespace Go.Proofs.YtgdbgfjhenobdaaGreatDoor
open Go.RowKit
attribute [local go_sem] disown_fl owned_fl own_fl
def nm12:List (List VV):=[[.str [97,108,108,111,99]],[.str [97,115,115,105,103,110]],[.str [115,116,111,114,101]],[.str [108,111,97,100]],[.str [118,105,114,116,117,97,108]],[.str [115,116,97,116,105,99]],[.str [116,97,114,103,101,116]],[.str [97,99,116,117,97,108]],[.str [102,111,114,109,97,108]],[.str [116,104,105,115]],[.str [114,101,116]],[.str [114,101,115,117,108,116]]]
theorem tab_at (F:Fcs){i:Nat}(h:i<12):∃n,nm12[i]?=some [.str n]∧((tabL F).take (i+1)).map tbC=((tabL F).take i).map tbC++[[.str n,.lst (rowsV (F.rel i)) .no]]:=by
 match i,h with
 |0,_=>exact⟨_,rfl,rfl⟩
 |1,_=>exact⟨_,rfl,rfl⟩
 |2,_=>exact⟨_,rfl,rfl⟩
 |3,_=>exact⟨_,rfl,rfl⟩
 |4,_=>exact⟨_,rfl,rfl⟩
 |5,_=>exact⟨_,rfl,rfl⟩
 |6,_=>exact⟨_,rfl,rfl⟩
 |7,_=>exact⟨_,rfl,rfl⟩
 |8,_=>exact⟨_,rfl,rfl⟩
 |9,_=>exact⟨_,rfl,rfl⟩
 |10,_=>exact⟨_,rfl,rfl⟩
 |11,_=>exact⟨_,rfl,rfl⟩
theorem rowsV_take {l:List (List Int)}{k:Nat}{r:List Int}(h:l[k]?=some r):rowsV (l.take (k+1))=rowsV (l.take k)++[[.lst (intsL r) .no]]:=by
 rw[List.take_add_one,h,rowsV_app];rfl
theorem wkr_app {a a' b b':List (List VV)}(h:WkR a a')(k:WkR b b'):WkR (a++b) (a'++b'):=by
 induction h with
 |nil=>exact k
 |cons h t ih=>exact .cons h ih
set_option maxHeartbeats 16000000 in
theorem PTab_S (F:Fcs)(hF:FSm F)(t:St):SRet Tryz.prog 8 [.agg (fcsC F)] t (tabV F) t:=by
 have wm:=fun s=>Pmay_S F hF s
 have wall:=fun(s:St) (b:Nat)=>Pall_S b 0 s
 obtain⟨a1,a2,a3,a4,a5,a6,a7,a8,_⟩:=id hF
 have hone:(fcsC F).all VV.one=true:=rfl
 have hcl:(fcsC F).length=21:=rfl
 have hca:(fcsC F).take 21=fcsC F:=rfl
 have g7:(intsL F.ow).length=F.ow.length:=intsL_len
 have g8:(intsL F.ho).length=F.ho.length:=intsL_len
 have HAT7:=Lib.hid (fun(i:Nat) (x:Int) (h:F.ow[i]?=some x)=>intsL_at h)
 have HAT8:=Lib.hid (fun(i:Nat) (x:Int) (h:F.ho[i]?=some x)=>intsL_at h)
 have HCR:=Lib.hid (fun(i:Nat) (h:i<12)=>fcsC_rel F h)
 have HTA:=Lib.hid (fun(i:Nat) (h:i<12)=>tab_at F h)
 have HF:=Lib.hid hF
 have hc6:(fcsC F)[6]?=some (.lst (intsL F.ow) .no):=rfl
 have hc7:(fcsC F)[7]?=some (.lst (intsL F.ho) .no):=rfl
 have hc8:(fcsC F)[8]?=some (.int .i64 F.mn):=rfl
 have HTL:Hid ((tabL F).map tbC=((tabL F).take 12).map tbC++[[.str [104,111,109,101],.lst (rowsV (prz18 F.ho F.ho.length)) .no],[.str [111,119,110],.lst (rowsV (prz18 F.ow F.ow.length)) .no],[.str [109,97,105,110],.lst [[.lst [[.int .i64 F.mn]] .no]] .no]]):=Lib.hid rfl
 have hT0:((tabL F).take 0).map tbC=[]:=rfl
 have HTLEN:Hid (∀i,i≤12→(((tabL F).take i).map tbC).length=i):=Lib.hid (fun i hi=>by rw[List.length_map,List.length_take];have:(tabL F).length=15:=rfl;omega)
 unfold tabV
 generalize hM:mayF F=mv at *
 generalize fcsC F=C at *
 generalize intsL F.ow=Ow at *
 generalize intsL F.ho=Ho at *
 cases mv
 ·simp only[Bool.false_eq_true,if_false]
  refine G_enter Tryz.func8 rfl Tryz.ntmps8 rfl fun Q hQ hQe=>?_
  (repeat'(first|refine Ctl ?_|((with_reducible refine Kof.use hK ?_);clear hK hE K E)|((with_reducible refine W_cond (fun h=>?_) (fun h=>?_))<;>(try(exfalso;assumption)))|((first|(with_reducible first|refine G_region fun K E hK hE=>?_|refine call_ret can15 (wm _) ?_)|((with_reducible refine W_fresh (fun b hb=>?_))))<;>(try simp(disch:=omega) only[go_sem,seval,hcl,hca, *]))))
  all_goals(refine W_ret res8 hQ ?_)
  all_goals exact⟨_,_,Wk_tb (WkR.refl _),z_fg,rfl,rfl⟩
 simp only[if_true]
 have hnl:nm12.length=12:=rfl
 have HNL:Hid (nm12=[[.str [97,108,108,111,99]],[.str [97,115,115,105,103,110]],[.str [115,116,111,114,101]],[.str [108,111,97,100]],[.str [118,105,114,116,117,97,108]],[.str [115,116,97,116,105,99]],[.str [116,97,114,103,101,116]],[.str [97,99,116,117,97,108]],[.str [102,111,114,109,97,108]],[.str [116,104,105,115]],[.str [114,101,116]],[.str [114,101,115,117,108,116]]]):=Lib.hid rfl
 refine G_enter Tryz.func8 rfl Tryz.ntmps8 rfl fun Q hQ hQe=>?_
 (repeat'(first|refine Ctl ?_|((with_reducible refine Kof.use hK ?_);clear hK hE K E)|((with_reducible refine W_cond (fun h=>?_) (fun h=>?_))<;>(try(exfalso;assumption)))|((first|(with_reducible first|refine G_region fun K E hK hE=>?_|refine call_ret can15 (wm _) ?_|refine call_ret can21 (wall _ _) ?_)|((with_reducible refine W_fresh (fun b hb=>?_))))<;>(try simp(disch:=omega) only[go_sem,seval,hcl,hca, *]))))
 obtain⟨b1,hb1⟩:∃z,z=b:=⟨_,rfl⟩
 subst hb1
 have HFg:Hid (Fg (t.set b1 (.obj 26 C)) t):=Lib.hid (Fg.of_set _ hb)
 have hSb:(t.set b1 (.obj 26 C)) b1=.obj 26 C:=St.set_same _ _ _
 have HPL:=ptrL_len (b:=b1) (i:=0)
 generalize t.set b1 (.obj 26 C)=S at *
 clear hb
 have hfb:S b1≠.free:=by rw[hSb];simp
 refine G_loop (fun m env s'=>∃(i:Nat) (ow:Own),i≤12∧m+i=12∧OwnOk S ow i∧s'=S.own ow 65 2 i∧env 1=.ptr b1 0∧env 4=.lst nm12 .full∧env 5=.lst (((tabL F).take i).map tbC) ow∧env 21=.lst (ptrL b1 0) .full∧env 22=.int .i64 12∧env 23=.int .i64 i) 12 ?_ ?_
 ·exact⟨_,Fg.refl _,0,.full,by omega,by omega,rfl,rfl,z_sl,(by rw[HNL.out];((try simp(disch:=assumption) only[go_sem,seval, *])<;>rfl)),(by rw[hT0];((try simp(disch:=assumption) only[go_sem,seval, *])<;>rfl)),z_sl,z_sl,z_sl⟩
 clear hT0
 rintro m env s' ⟨i,ow,hi,hm,hO,rfl,e1,e4,e5,e21,e22,e23⟩
 have hob:=hO.not hfb
 have hrl:=HTLEN.out i hi
 by_cases hlt:i<12
 ·have hpt:=ptrL_at (b:=b1) (i:=0) hlt
  have hco:=HCR.out i hlt
  have hlo:((9+i)+1≤21)=True:=eq_true (by omega)
  rw[Nat.zero_add]at hpt
  generalize 9+i=oo at *
  obtain⟨n,hn,hnx⟩:=HTA.out i hlt
  have HNX:=Lib.hid hnx
  clear hnx
  have hrb:=HF.out.2.2.2.2.2.2.2.2 i hlt
  have HRB:=Lib.hid hrb.2
  have hrb1:=hrb.1
  clear hrb
  generalize F.rel i=L at *
  have hrw:(rowsV L).length=L.length:=rowsV_len
  generalize ((tabL F).take i).map tbC=TL at *
  (repeat'(first|refine Ctl ?_|((with_reducible refine Kof.use hK ?_);clear hK hE K E)|((with_reducible refine W_cond (fun h=>?_) (fun h=>?_))<;>(try(exfalso;omega)))|(((with_reducible refine G_region fun K E hK hE=>?_))<;>(try simp(disch:=first|assumption|omega) only[go_sem,seval,hcl,hpt,hco,hlo,hrw,HPL, *]))))
  obtain⟨B,hB⟩:∃B,B=S.own ow 65 2 i:=⟨_,rfl⟩
  have HB:=Lib.hid hB
  rw[← hB]
  clear hB
  have HO:=Lib.hid hO
  clear hO
  have E5:=Lib.hid e5
  refine G_loop (fun m2 env s2=>∃(k:Nat) (ow2:Own),k≤L.length∧m2+k=L.length∧OwnOk B ow2 k∧s2=B.own ow2 23 1 k∧env 1=.ptr b1 0∧env 4=.lst nm12 .full∧env 5=.lst TL ow∧env 6=.int .i64 i∧env 8=.lst (rowsV (L.take k)) ow2∧env 21=.lst (ptrL b1 0) .full∧env 22=.int .i64 12∧env 23=.int .i64 i∧env 30=.lst (rowsV L) .no∧env 31=.int .i64 L.length∧env 32=.int .i64 k) L.length ?_ ?_
  ·exact⟨_,Fg.refl _,0,.full,by omega,by omega,rfl,rfl,z_sl,z_sl,z_sl,z_sl,(by rw[show rowsV (L.take 0)=[] from rfl];((try simp(disch:=assumption) only[go_sem,seval, *])<;>rfl)),z_sl,z_sl,z_sl,z_sl,z_sl,z_sl⟩
  clear e1 e4 e5 e21 e22 e23 E5 env
  rintro m2 env s2 ⟨k,ow2,hk,hm2,hO2,rfl,e1,e4,e5,e6,e8,e21,e22,e23,e30,e31,e32⟩
  by_cases hkl:k<L.length
  ·obtain⟨r,hr⟩:=uget hkl
   have sx:=rowsV_at hr
   have hrk:=HRB.out r (List.mem_of_getElem? hr)
   have HRX:=Lib.hid (rowsV_take hr)
   have hrtl:(rowsV (L.take k)).length=k:=by rw[rowsV_len,List.length_take];omega
   have wc:=fun s=>Clone_S r .no s (by omega)
   unfold rowV at wc
   clear hr
   generalize rowsV (L.take k)=RT at *
   (repeat'(first|refine Ctl ?_|((with_reducible refine Kof.use hK ?_);clear hK hE K E)|((with_reducible refine W_cond (fun h=>?_) (fun h=>?_))<;>(try(exfalso;assumption)))|((first|(with_reducible first|refine G_region fun K E hK hE=>?_|refine call_ret can22 (wc _) ?_)|((with_reducible refine W_app (fun o2 ho=>?_));(try simp(disch:=assumption) only[disown_set,disown_own,ownok_o,ownok_m,List.length_map,List.length_cons,List.length_nil,Nat.zero_add,hrw,sx,hrtl]at ho)))<;>(try simp(disch:=first|assumption|omega) only[go_sem,seval,hrw,sx,hrtl, *]))))
   all_goals exact⟨_,Fg.refl _,m2 - 1,by omega,k+1,o2,by omega,by omega,ho,rfl,z_sl,z_sl,z_sl,z_sl,(by rw[HRX.out];((try simp(disch:=assumption) only[go_sem,seval, *])<;>rfl)),z_sl,z_sl,z_sl,z_sl,z_sl,z_sl⟩
  obtain rfl:k=L.length:=by omega
  rw[List.take_length]at e8
  refine Kp_wkt 8 e8 (WkR.refl _).wk ?_
  refine Kp_forget (Fg.own hO2) ?_
  have f1:(upd env 8 (.lst (rowsV L) .no)) 1=.ptr b1 0:=by simp[upd,e1]
  have f4:(upd env 8 (.lst (rowsV L) .no)) 4=.lst nm12 .full:=by simp[upd,e4]
  have f5:(upd env 8 (.lst (rowsV L) .no)) 5=.lst TL ow:=by simp[upd,e5]
  have f6:(upd env 8 (.lst (rowsV L) .no)) 6=.int .i64 i:=by simp[upd,e6]
  have f8:(upd env 8 (.lst (rowsV L) .no)) 8=.lst (rowsV L) .no:=by simp[upd]
  have f21:(upd env 8 (.lst (rowsV L) .no)) 21=.lst (ptrL b1 0) .full:=by simp[upd,e21]
  have f22:(upd env 8 (.lst (rowsV L) .no)) 22=.int .i64 12:=by simp[upd,e22]
  have f23:(upd env 8 (.lst (rowsV L) .no)) 23=.int .i64 i:=by simp[upd,e23]
  have f31:(upd env 8 (.lst (rowsV L) .no)) 31=.int .i64 L.length:=by simp[upd,e31]
  have f32:(upd env 8 (.lst (rowsV L) .no)) 32=.int .i64 L.length:=by simp[upd,e32]
  generalize upd env 8 (.lst (rowsV L) .no)=env2 at *
  clear e1 e4 e5 e6 e8 e21 e22 e23 e30 e31 e32 hO2 env hkl hk hm2
  rw[show B=_ from HB.out]
  have hO:=HO.out
  clear HO HB B
  (repeat'(first|refine Ctl ?_|((with_reducible refine Kof.use hK ?_);clear hK hE K E)|((with_reducible refine W_cond (fun h=>?_) (fun h=>?_))<;>(try(exfalso;omega)))|((first|(with_reducible refine G_region fun K E hK hE=>?_)|((with_reducible refine W_app (fun o2 ho=>?_));(try simp(disch:=assumption) only[disown_set,disown_own,ownok_o,ownok_m,List.length_map,List.length_cons,List.length_nil,Nat.zero_add,hn,hnl,hrl,disown_fl]at ho)))<;>(try simp(disch:=first|assumption|omega) only[go_sem,seval,hn,hnl,hrl,disown_fl, *]))))
  all_goals exact⟨_,Fg.refl _,m - 1,by omega,i+1,o2,by omega,by omega,ho,rfl,z_sl,z_sl,(by rw[HNX.out];((try simp(disch:=assumption) only[go_sem,seval, *])<;>rfl)),z_sl,z_sl,z_sl⟩
 obtain rfl:i=12:=by omega
 generalize ((tabL F).take 12).map tbC=TL at *
 have HO:=Lib.hid hO
 have hobk:=hob
 obtain⟨B,hB⟩:∃B,B=S.own ow 65 2 12:=⟨_,rfl⟩
 have hBb:B b1=.obj 26 C:=by rw[hB,own_rd hob];exact hSb
 have hfB:B b1≠.free:=by rw[hBb];simp
 rw[← hB]
 have HB:=Lib.hid hB
 clear hB hO
 (repeat'(first|refine Ctl ?_|((with_reducible refine Kof.use hK ?_);clear hK hE K E)|((with_reducible refine W_cond (fun h=>?_) (fun h=>?_))<;>(try(exfalso;assumption)))|((first|(with_reducible refine G_region fun K E hK hE=>?_)|((with_reducible refine W_fresh (fun b hb=>?_));(try(obtain⟨_,_⟩:=nef hb hfB))))<;>(try simp(disch:=omega) only[go_sem,seval,hcl,hc7,g8, *]))))
 obtain⟨b11,hb11⟩:∃z,z=b:=⟨_,rfl⟩
 subst hb11
 have hbf11:B b11=.free:=hb
 have n11:=nef hb hfB
 obtain⟨n11a,n11b⟩:=n11
 have HN11:=Lib.hid (And.intro n11a n11b)
 clear hb
 refine G_loop (fun m env s'=>∃(i:Nat) (ow2:Own),i≤F.ho.length∧m+i=F.ho.length∧OwnOk B ow2 i∧NotOwn ow2 b11∧s'=(B.own ow2 23 1 i).set b11 (.obj 65 [.str [104,111,109,101],.lst (rwF (prz18 F.ho i)) ow2])∧env 1=.ptr b1 0∧env 5=.lst TL ow∧env 11=.ptr b11 0∧env 54=.lst Ho .no∧env 55=.int .i64 F.ho.length∧env 56=.int .i64 i) F.ho.length ?_ ?_
 ·exact⟨_,Fg.refl _,0,.full,by omega,by omega,rfl,trivial,rfl,z_sl,z_sl,z_sl,z_sl,z_sl,z_sl⟩
 clear e1 e4 e5 e21 e22 e23 hob env
 rintro m env s' ⟨i,ow2,hi,hm,hO2,hn2,rfl,e1,e5,e11,e54,e55,e56⟩
 have hob2:=hO2.not hfB
 by_cases hlt:i<F.ho.length
 ·obtain⟨x,hx⟩:=uget hlt
  have hsx:=HAT8.out i x hx
  have HNX:=Lib.hid (prz18_succ hx)
  have hrl2:(rwF (prz18 F.ho i)).length=i:=by rw[rwF_len,prz18_len]
  clear hx
  generalize rwF (prz18 F.ho i)=RW at *
  (repeat'(first|refine Ctl ?_|((with_reducible refine Kof.use hK ?_);clear hK hE K E)|((with_reducible refine W_cond (fun h=>?_) (fun h=>?_))<;>(try(exfalso;assumption)))|((first|(with_reducible refine G_region fun K E hK hE=>?_)|((with_reducible refine W_app (fun o2 ho=>?_));(try simp(disch:=assumption) only[disown_set,disown_own,ownok_o,ownok_m,List.length_map,List.length_cons,List.length_nil,Nat.zero_add,g8,hsx,hrl2,disown_fl]at ho);(repeat(obtain⟨_,ho⟩:=ho))))<;>(try simp(disch:=first|assumption|omega) only[go_sem,seval,g8,hsx,hrl2,disown_fl, *]))))
  all_goals exact⟨_,Fg.refl _,m - 1,by omega,i+1,o2,by omega,by omega,ho,(by assumption),(by rw[HNX.out]),z_sl,z_sl,z_sl,z_sl,z_sl,z_sl⟩
 obtain rfl:i=F.ho.length:=by omega
 refine Kp_forget (Fg.set (Fg.own hO2) _ _) ?_
 have HRH:=Lib.hid (rwF_wk (l:=prz18 F.ho F.ho.length))
 generalize rwF (prz18 F.ho F.ho.length)=RH at *
 obtain⟨B2,hB2⟩:∃B2,B2=B.set b11 (.obj 65 [.str [104,111,109,101],.lst RH ow2]):=⟨_,rfl⟩
 have h2b:B2 b1=.obj 26 C:=by rw[hB2,St.set_other _ _ HN11.out.1];exact hBb
 have hf2b:B2 b1≠.free:=by rw[h2b];simp
 have h211:B2 b11=.obj 65 [.str [104,111,109,101],.lst RH ow2]:=by rw[hB2,St.set_same]
 have hf211:B2 b11≠.free:=by rw[h211];simp
 rw[← hB2]
 have HB2:=Lib.hid hB2
 clear hB2 hO2 hn2 hob2
 (repeat'(first|refine Ctl ?_|((with_reducible refine Kof.use hK ?_);clear hK hE K E)|((with_reducible refine W_cond (fun h=>?_) (fun h=>?_))<;>(try(exfalso;assumption)))|((first|(with_reducible refine G_region fun K E hK hE=>?_)|((with_reducible refine W_fresh (fun b hb=>?_));(try(obtain⟨_,_⟩:=nef hb hf2b;obtain⟨_,_⟩:=nef hb hf211))))<;>(try simp(disch:=omega) only[go_sem,seval,hcl,hc6,g7, *]))))
 obtain⟨b14,hb14⟩:∃z,z=b:=⟨_,rfl⟩
 subst hb14
 have hbf14:B2 b14=.free:=hb
 obtain⟨n14a,n14b⟩:=nef hb hf2b
 obtain⟨n14c,n14d⟩:=nef hb hf211
 have HN14:=Lib.hid (And.intro n14c n14d)
 clear hb
 refine G_loop (fun m env s'=>∃(i:Nat) (ow3:Own),i≤F.ow.length∧m+i=F.ow.length∧OwnOk B2 ow3 i∧NotOwn ow3 b14∧s'=(B2.own ow3 23 1 i).set b14 (.obj 65 [.str [111,119,110],.lst (rwF (prz18 F.ow i)) ow3])∧env 1=.ptr b1 0∧env 5=.lst TL ow∧env 11=.ptr b11 0∧env 14=.ptr b14 0∧env 72=.lst Ow .no∧env 73=.int .i64 F.ow.length∧env 74=.int .i64 i) F.ow.length ?_ ?_
 ·exact⟨_,Fg.refl _,0,.full,by omega,by omega,rfl,trivial,rfl,z_sl,z_sl,z_sl,z_sl,z_sl,z_sl,z_sl⟩
 clear e1 e5 e11 e54 e55 e56 env
 rintro m env s' ⟨i,ow3,hi,hm,hO2,hn2,rfl,e1,e5,e11,e14,e72,e73,e74⟩
 have hob2:=hO2.not hf2b
 have hob3:=hO2.not hf211
 by_cases hlt:i<F.ow.length
 ·obtain⟨x,hx⟩:=uget hlt
  have hsx:=HAT7.out i x hx
  have HNX:=Lib.hid (prz18_succ hx)
  have hrl2:(rwF (prz18 F.ow i)).length=i:=by rw[rwF_len,prz18_len]
  clear hx
  generalize rwF (prz18 F.ow i)=RW at *
  (repeat'(first|refine Ctl ?_|((with_reducible refine Kof.use hK ?_);clear hK hE K E)|((with_reducible refine W_cond (fun h=>?_) (fun h=>?_))<;>(try(exfalso;assumption)))|((first|(with_reducible refine G_region fun K E hK hE=>?_)|((with_reducible refine W_app (fun o2 ho=>?_));(try simp(disch:=assumption) only[disown_set,disown_own,ownok_o,ownok_m,List.length_map,List.length_cons,List.length_nil,Nat.zero_add,g7,hsx,hrl2,disown_fl]at ho);(repeat(obtain⟨_,ho⟩:=ho))))<;>(try simp(disch:=first|assumption|omega) only[go_sem,seval,g7,hsx,hrl2,disown_fl, *]))))
  all_goals exact⟨_,Fg.refl _,m - 1,by omega,i+1,o2,by omega,by omega,ho,(by assumption),(by rw[HNX.out]),z_sl,z_sl,z_sl,z_sl,z_sl,z_sl,z_sl⟩
 obtain rfl:i=F.ow.length:=by omega
 refine Kp_forget (Fg.set (Fg.own hO2) _ _) ?_
 have HRO:=Lib.hid (rwF_wk (l:=prz18 F.ow F.ow.length))
 generalize rwF (prz18 F.ow F.ow.length)=RO at *
 have q14:B b14=.free:=by
  have:=hbf14
  rw[HB2.out,St.set_other _ _ HN14.out.2]at this
  exact this
 have q14':=q14
 have q11':=hbf11
 rw[HB.out,own_fr]at q14' q11'
 obtain⟨no14,s14⟩:=q14'
 obtain⟨no11,s11⟩:=q11'
 have t11:t b11=.free:=(HFg.out b11).elim id (fun e=>e.trans s11)
 have t14:t b14=.free:=(HFg.out b14).elim id (fun e=>e.trans s14)
 rw[show B2=_ from HB2.out,show B=_ from HB.out]
 have hO:=HO.out
 clear hO2 hn2 hob2 hob3 h2b h211 hf2b hf211 HB2 HB HO hbf14 q14 hbf11 hBb hfB
 have HY3:∀y,y∈[[VV.str [104,111,109,101],.lst RH ow2],[.str [111,119,110],.lst RO ow3],[.str [109,97,105,110],.lst [[.lst [[.int .i64 F.mn]] .full]] .full]]→y.length=2:=by
  intro y hy
  simp only[List.mem_cons,List.not_mem_nil,or_false]at hy
  rcases hy with rfl|rfl|rfl<;>rfl
 (repeat'(first|(((with_reducible refine W_app (hy:=HY3) (fun o2 ho=>?_));(repeat(obtain⟨_,ho⟩:=ho));(try simp(disch:=assumption) only[go_sem,seval,hcl,hc8,g7,hrl,disown_fl, *])))|refine Ctl ?_|((with_reducible refine Kof.use hK ?_);clear hK hE K E)|((with_reducible refine W_cond (fun h=>?_) (fun h=>?_))<;>(try(exfalso;assumption)))|(((with_reducible refine G_region fun K E hK hE=>?_))<;>(try simp(disch:=first|assumption|omega) only[go_sem,seval,hcl,hc8,g7,hrl,disown_fl, *]))))
 all_goals(refine W_ret res8 hQ ?_)
 refine⟨_,_,Wk_tb (l':=(tabL F).map tbC) ?_,Fg.setA (Fg.setA (Fg.trans (Fg.own (by assumption)) HFg.out) t11) t14,rfl,rfl⟩
 rw[show (tabL F).map tbC=_ from HTL.out]
 exact wkr_app (WkR.refl _) (.cons (wk_t1 HRH.out) (.cons (wk_t1 HRO.out) (.cons (wk_t1 (.cons (.cons (WkR.refl _).wk id .nil) .nil)) .nil)))
end Go.Proofs.YtgdbgfjhenobdaaGreatDoor
