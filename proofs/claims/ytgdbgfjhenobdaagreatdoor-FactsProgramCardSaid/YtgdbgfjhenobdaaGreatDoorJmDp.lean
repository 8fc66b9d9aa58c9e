/- Walks of functions that the claim reaches, and plain facts of them. Conditions: those in the statements. -/
import Derived.Test.YtgdbgfjhenobdaaGreatDoorJmDlj
import Derived.Test.YtgdbgfjhenobdaaGreatDoorJmUlj
set_option linter.unusedSimpArgs false
set_option linter.unusedVariables false
set_option maxRecDepth 100000
namespace Go.Proofs.YtgdbgfjhenobdaaGreatDoor
open Go.RowKit
attribute [local go_sem] disown_fl owned_fl own_fl
theorem max_1 {y:Int}:vminmax true (.int .i64 1) (.int .i64 y)=some (.int .i64 (max 1 y)):=by
 simp only[vminmax,if_true]
 by_cases h:1<y
 ·rw[if_pos h,show max 1 y=y by omega]
 ·rw[if_neg h,show max 1 y=1 by omega]
attribute [local go_sem] max_1
def sizL (F:Fcs):List Int:=(List.range 7).map fun k=>max 1 (domF F k)
theorem sizL_len {F:Fcs}:(intsL (sizL F)).length=7:=by simp[intsL,sizL]
def nmL:List (List VV):=[[.str [86]],[.str [72]],[.str [70]],[.str [73]],[.str [78]],[.str [77]],[.str [90]]]
set_option maxHeartbeats 8000000 in
theorem Rsizes_S (F:Fcs)(t:St):SRet Tryz.prog 20 [.agg (fcsC F)] t (.lst (intsL (sizL F)) .full) t:=by
 have g1:=strsf_len F.me
 have g2:=strsf_len F.va
 have g3:=strsf_len F.si
 have g4:=strsf_len F.ca
 have g5:=strsf_len F.fi
 have g6:=strsf_len F.na
 have hz:intsL (sizL F)=[[.int .i64 (max 1 (F.va.length:Int))],[.int .i64 (max 1 (F.si.length:Int))],[.int .i64 (max 1 (F.fi.length:Int))],[.int .i64 (max 1 (F.ca.length:Int))],[.int .i64 (max 1 (F.na.length:Int))],[.int .i64 (max 1 (F.me.length:Int))],[.int .i64 8]]:=rfl
 rw[hz]
 clear hz
 obtain⟨me,va,si,ca,fi,na,ow,ho,mn,rel⟩:=F
 simp only[fcsC]at *
 generalize strs me=Me at *
 generalize strs va=Va at *
 generalize strs si=Si at *
 generalize strs ca=Ca at *
 generalize strs fi=Fi at *
 generalize strs na=Na at *
 refine G_enter Tryz.func20 rfl Tryz.ntmps20 rfl fun Q hQ hQe=>?_
 (repeat'(first|refine Ctl ?_|((with_reducible refine Kof.use hK ?_);clear hK hE K E)|((first|(with_reducible refine G_region fun K E hK hE=>?_)|((with_reducible refine W_fresh (fun b hb=>?_))))<;>(try simp(disch:=omega) only[go_sem,seval,g1,g2,g3,g4,g5,g6, *]))))
 all_goals(refine W_ret res20 hQ ?_)
 all_goals(refine⟨_,_,Wk.of_eq ?_,?_,rfl,rfl⟩)
 all_goals first|rfl|(exact z_fg)
set_option maxHeartbeats 16000000 in
theorem RProg_S (F:Fcs)(hF:FSm F)(x:Pgm)(hx:parseR anT=.ok x)(hd:x.doms=[])(t:St):SRet Tryz.prog 7 [.agg (fcsC F)] t (progV F x) t:=by
 have wm:=fun s=>Fmay18_S F hF s
 have wsz:=fun s=>Rsizes_S F s
 have wp:=fun s=>YParseD_S anT (by decide) x hx s
 have hone:(fcsC F).all VV.one=true:=rfl
 have hcl:(fcsC F).length=21:=rfl
 have hca:(fcsC F).take 21=fcsC F:=rfl
 rw[hd]at wp
 simp only[List.map_nil,List.length_nil]at wp
 unfold progV
 generalize hM:mayF F=mv at *
 generalize fcsC F=C at *
 cases mv
 ·simp only[Bool.false_eq_true,if_false]
  refine G_enter Tryz.func7 rfl Tryz.ntmps7 rfl fun Q hQ hQe=>?_
  (repeat'(first|refine Ctl ?_|((with_reducible refine Kof.use hK ?_);clear hK hE K E)|((with_reducible refine W_cond (fun h=>?_) (fun h=>?_))<;>(try(exfalso;assumption)))|((first|(with_reducible first|refine G_region fun K E hK hE=>?_|refine call_ret can18 (wm _) ?_)|((with_reducible refine W_fresh (fun b hb=>?_));(repeat(obtain⟨_,hb⟩:=hb))))<;>(try simp(disch:=omega) only[go_sem,seval,hcl,hca, *]))))
  all_goals(refine W_ret res7 hQ ?_)
  all_goals exact⟨_,_,Wk_pg2,z_fg,rfl,rfl⟩
 simp only[if_true]
 refine G_enter Tryz.func7 rfl Tryz.ntmps7 rfl fun Q hQ hQe=>?_
 (repeat'(first|refine Ctl ?_|((with_reducible refine Kof.use hK ?_);clear hK hE K E)|((with_reducible refine W_cond (fun h=>?_) (fun h=>?_))<;>(try(exfalso;assumption)))|((first|(with_reducible first|refine G_region fun K E hK hE=>?_|refine call_ret can18 (wm _) ?_)|((with_reducible refine W_fresh (fun b hb=>?_));(repeat(obtain⟨_,hb⟩:=hb))))<;>(try simp(disch:=omega) only[go_sem,seval,hcl,hca, *]))))
 rename_i b1 hb1 n1 n2
 obtain⟨b2,hb2⟩:∃z,z=b:=⟨_,rfl⟩
 subst hb2
 refine call_exT can19 (wp _) (fun q h=>?_)
 obtain⟨o,u⟩:=q
 obtain⟨hO,hu⟩:=h
 dsimp only at hO hu ⊢
 subst hu
 simp(disch:=assumption) only[ownok_o,disown_fl]at hO
 obtain⟨no2,no1,hO⟩:=hO
 simp only[go_sem,seval]
 (repeat'(first|refine Ctl ?_|((with_reducible refine Kof.use hK ?_);clear hK hE K E)|((first|(with_reducible first|refine G_region fun K E hK hE=>?_|refine call_ret can20 (wsz _) ?_)|((with_reducible refine W_fresh (fun b hb=>?_));(repeat(obtain⟨_,hb⟩:=hb));(try(try(rw[own_fr]at hb;obtain⟨hob,hb⟩:=hb)))))<;>(try simp(disch:=first|assumption|omega) only[go_sem,seval,hcl,hca, *]))))
 obtain⟨b4,hb4⟩:∃z,z=b:=⟨_,rfl⟩
 subst hb4
 rename_i n3 n4 n5 n6
 obtain⟨B,hB⟩:∃B,B=((t.set b1 (.obj 26 C)).set b2 (.obj 33 [.lst [] .full,.lst [] .full,.lst [] .full])):=⟨_,rfl⟩
 have hBs:(((((t.own o 57 2 0).set b1 (.obj 26 C)).set b2 (.obj 33 [.lst [] .full,.lst [] .full,.lst [] .full])).set b4 (.obj 33 [.lst [] o,.lst (List.map dclC x.decls) .no,.lst (List.map rulC x.rules) .no])))=(B.own o 57 2 0).set b4 (.obj 33 [.lst [] o,.lst (List.map dclC x.decls) .no,.lst (List.map rulC x.rules) .no]):=by
  rw[hB]
  simp(disch:=assumption) only[own_push]
 rw[hBs]
 have hB2:B b2=.obj 33 [.lst [] .full,.lst [] .full,.lst [] .full]:=by rw[hB,St.set_same]
 have hB4:B b4=.free:=by
  rw[hB]
  simp(disch:=assumption) only[St.set_other]
  assumption
 have HBF:Hid (Fg B t):=Lib.hid (by rw[hB];(exact z_fg))
 have hOB:OwnOk B o 0:=by
  rw[hB]
  simp only[ownok_m,ownok_o]
  exact⟨by assumption,by assumption,hO⟩
 clear hBs hB wsz wm wp
 have HPG:Hid (pgC ⟨domsP F,x.decls,x.rules⟩=[.lst ((domsP F).map dmC) .no,.lst (x.decls.map dclC) .no,.lst (x.rules.map rulC) .no]):=Lib.hid rfl
 generalize x.decls.map dclC=DC at *
 generalize x.rules.map rulC=RC at *
 have hf2:B b2≠.free:=by rw[hB2];simp
 have hnm:nmL.length=7:=rfl
 have HNM:Hid (nmL=[[.str [86]],[.str [72]],[.str [70]],[.str [73]],[.str [78]],[.str [77]],[.str [90]]]):=Lib.hid rfl
 have hsl:=sizL_len (F:=F)
 refine G_loop (fun m env s'=>∃(i:Nat) (ow:Own),i≤7∧m+i=7∧OwnOk B ow i∧NotOwn ow b4∧s'=(B.own ow 57 2 i).set b4 (.obj 33 [.lst (((domsP F).take i).map dmC) ow,.lst DC .no,.lst RC .no])∧env 2=.ptr b2 0∧env 4=.ptr b4 0∧env 7=.lst nmL .full∧env 8=.lst (intsL (sizL F)) .full∧env 9=.int .i64 i) 7 ?_ ?_
 ·exact⟨_,Fg.refl _,0,o,by omega,by omega,hOB,by assumption,rfl,z_sl,z_sl,(by rw[HNM.out];((try simp(disch:=assumption) only[go_sem,seval, *])<;>rfl)),z_sl,z_sl⟩
 clear hO hOB no1 no2
 rintro m env s' ⟨i,ow,hi,hm,hO,ho4,rfl,e2,e4,e7,e8,e9⟩
 have ho22:=hO.not hf2
 by_cases hlt:i<7
 ·obtain⟨c,z,hc,hlk,hnx⟩:∃(c:UInt8) (z:Int),nmL[i]?=some [.str [c]]∧(intsL (sizL F))[i]?=some [.int .i64 z]∧((domsP F).take (i+1)).map dmC=((domsP F).take i).map dmC++[[.str [c],.int .i64 z]]:=by
   match i,hlt with
   |0,_=>exact⟨86,_,rfl,rfl,rfl⟩
   |1,_=>exact⟨72,_,rfl,rfl,rfl⟩
   |2,_=>exact⟨70,_,rfl,rfl,rfl⟩
   |3,_=>exact⟨73,_,rfl,rfl,rfl⟩
   |4,_=>exact⟨78,_,rfl,rfl,rfl⟩
   |5,_=>exact⟨77,_,rfl,rfl,rfl⟩
   |6,_=>exact⟨90,_,rfl,rfl,rfl⟩
  have hdl:(((domsP F).take i).map dmC).length=i:=by
   rw[List.length_map,List.length_take]
   have:(domsP F).length=7:=by simp[domsP]
   omega
  have HNX:=Lib.hid hnx
  clear hnx
  generalize ((domsP F).take i).map dmC=DL at *
  (repeat'(first|refine Ctl ?_|(with_reducible first|(refine Kof.use hK ?_;clear hK hE K E)|(refine Kof.use hKh ?_;clear hKh Kh)|(refine Kof.use hKb (P_next ?_);clear hKb Kb)|refine G_plan 9 [([0,1,2,3,4,5,6,7,8,9,10,11],12,[[]]),([13],14,[[],[]])] [] hQe fun K E hK hE=>?_)|((with_reducible refine W_cond (fun h=>?_) (fun h=>?_))<;>(try(exfalso;omega)))|((first|(with_reducible first|refine G_region fun K E hK hE=>?_|refine P_heads fun Kh hKh=>?_|refine P_fin fun Kh hKh=>?_|refine P_each fun Kb hKb=>?_)|((with_reducible refine W_app (fun o2 ho=>?_));(try simp(disch:=assumption) only[disown_set,disown_own,ownok_o,ownok_m,List.length_map,List.length_cons,List.length_nil,Nat.zero_add,hnm,hsl,hc,hlk,hdl,Option.getD_some,disown_fl]at ho);(repeat(obtain⟨_,ho⟩:=ho))))<;>(try simp(disch:=first|assumption|omega) only[go_sem,seval,hnm,hsl,hc,hlk,hdl,Option.getD_some,disown_fl, *]))))
  all_goals exact⟨_,Fg.refl _,m - 1,by omega,i+1,o2,by omega,by omega,ho,(by assumption),(by rw[HNX.out]),z_sl,z_sl,z_sl,z_sl,z_sl⟩
 ·obtain rfl:i=7:=by omega
  have hDL:((domsP F).take 7)=domsP F:=by rw[List.take_of_length_le (by simp[domsP])]
  rw[hDL]
  (repeat'(first|refine Ctl ?_|((with_reducible refine Kof.use hK ?_);clear hK hE K E)|((with_reducible refine W_cond (fun h=>?_) (fun h=>?_))<;>(try(exfalso;assumption)))|(((with_reducible refine G_region fun K E hK hE=>?_))<;>(try simp(disch:=first|assumption|omega) only[go_sem,seval,hnm,hsl,disown_fl, *]))))
  all_goals(refine W_ret res7 hQ ?_)
  have hpg:=HPG.out
  rw[hpg]
  exact⟨_,_,Wk_pg3,Fg.setA (Fg.setA (Fg.trans (Fg.own hO) HBF.out) (by assumption)) (by assumption),rfl,rfl⟩
end Go.Proofs.YtgdbgfjhenobdaaGreatDoor
