/- Walks of functions that the claim reaches, and plain facts of them. Conditions: those in the statements. -/
import Derived.Test.YtgdbgfjhenobdaaGreatDoorJmDej
set_option linter.unusedSimpArgs false
set_option linter.unusedVariables false
set_option maxRecDepth 100000
namespace Go.Proofs.YtgdbgfjhenobdaaGreatDoor
open Go.RowKit
attribute [local go_sem] disown_fl owned_fl own_fl
def OwnG (s:St)(o:Own)(n:Nat):Prop:=match o with
 |.no=>False
 |.full=>True
 |.at_ b=>s b=.free
theorem OwnG.not {s:St}{o:Own}{n:Nat}(h:OwnG s o n){x:Nat}(hx:s x≠.free):NotOwn o x:=by
 cases o with
 |at_ b=>intro e;subst e;exact hx h
 |_=>trivial
theorem OwnG.fg {s:St}{o:Own}{m:Nat}(h:OwnG s o m){T sz n:Nat}:Fg (s.own o T sz n) s:=by
 cases o with
 |at_ b=>exact Fg.of_set _ h
 |no=>exact Fg.refl _
 |full=>exact Fg.refl _
theorem appG {k:VV→St→Prop}{e:TypeId}{q:QI}{xs ys:List (List VV)}{s:St}{o1:Own}{n m:Nat}(h1:OwnG s o1 m)(hn:xs.length=n)(h:∀o2,OwnG s o2 (n+ys.length)→k (.lst (xs++ys) o2) (s.own o2 e q.sz (n+ys.length)))
  (hb:(n+ys.length) * q.bt≤140737488355328) (hm:n+ys.length≤9223372036854775807) (hx:∀y,y∈xs→y.length=q.sz) (hy:∀y,y∈ys→y.length=q.sz) (hz:q.zok=true):vappend k e q xs ys o1 (s.own o1 e q.sz n):=by
 subst hn
 refine⟨hb,hm,hy,hz,?_⟩
 cases o1 with
 |no=>exact h1.elim
 |full=>
  refine⟨hx,fun e0=>?_,fun _ b hb=>h (.at_ b) hb⟩
  have:=h .full trivial
  subst e0
  rw[List.append_nil]at this
  exact this
 |at_ b=>
  have hs:(St.own s (.at_ b) e q.sz xs.length).set b .free=s:=by
   show (s.set b _).set b .free=s
   rw[St.set_set]
   exact St.set_self s b .free h1
  refine⟨St.set_same _ _ _,fun b' hb'=>?_⟩
  rw[hs]
  refine h (.at_ b') ?_
  show s b'=.free
  rcases hb' with rfl|hb'
  ·exact h1
  ·by_cases e':b'=b
   ·subst e';exact h1
   ·rw[show (St.own s (.at_ b) e q.sz xs.length) b'=s b' from St.set_other _ _ e']at hb';exact hb'
theorem W_apF18 {k:VV→St→Prop}{e:TypeId}{q:QI}{xs ys:List (List VV)}{s:St}(h:∀o2,OwnG s o2 (xs.length+ys.length)→k (.lst (xs++ys) o2) (s.own o2 e q.sz (xs.length+ys.length)))
  (hb:(xs.length+ys.length) * q.bt≤140737488355328:=by((try simp only[go_sem, *]);omega))
  (hm:xs.length+ys.length≤9223372036854775807:=by((try simp only[go_sem, *]);omega))
  (hx:∀y,y∈xs→y.length=q.sz:=by first|assumption|(simp;done))
  (hy:∀y,y∈ys→y.length=q.sz:=by assumption)
  (hz:q.zok=true:=by rfl):vappend k e q xs ys .full s:=appG (o1:=.full) (m:=0) trivial rfl h hb hm hx hy hz
theorem W_ap218 {k:VV→St→Prop}{e:TypeId}{q:QI}{xs ys:List (List VV)}{s S:St}{o1:Own}{n:Nat}(h1:OwnG s o1 n)(h:∀o2,OwnG s o2 (n+ys.length)→k (.lst (xs++ys) o2) (s.own o2 e q.sz (n+ys.length)))
  (hS:S=s.own o1 e q.sz n:=by(simp(disch:=assumption) only[own_push]))
  (hn:xs.length=n:=by((try simp only[go_sem, *]);first|done|omega))
  (hb:(n+ys.length) * q.bt≤140737488355328:=by((try simp only[go_sem, *]);omega))
  (hm:n+ys.length≤9223372036854775807:=by((try simp only[go_sem, *]);omega))
  (hx:∀y,y∈xs→y.length=q.sz:=by assumption)
  (hy:∀y,y∈ys→y.length=q.sz:=by assumption)
  (hz:q.zok=true:=by rfl):vappend k e q xs ys o1 S:=by subst hS;exact appG h1 hn h hb hm hx hy hz
def kindT (i:Nat):List UInt8:=(kindZ i).map fun k=>UInt8.ofNat (letZ k)
def kindL:List (List VV):=(List.range 12).map fun i=>[.str (kindT i)]
theorem kindL_len:kindL.length=12:=by simp[kindL]
theorem kindL_at {k:Nat}(h:k<12):kindL[k]?=some [.str (kindT k)]:=by
 unfold kindL
 rw[List.getElem?_map,List.getElem?_range h]
 rfl
theorem kindT_len {i:Nat}{F:Fcs}:(kindT i).length=(szF F i).length:=by simp[kindT,szF]
theorem kind_lt {i:Nat}:∀k,k∈kindZ i→k<7:=by
 unfold kindZ
 intro k hk
 by_cases h:i<12
 ·have:∀i,i<12→∀k,k∈([[0,1],[0,0],[0,2,0],[0,0,2],[3,0,4],[3,5],[1,4,5],[3,6,0],[5,6,0],[5,0],[5,0],[3,0]]:List (List Nat)).getD i []→k<7:=by decide
  exact this i h k hk
 ·rw[List.getD_eq_getElem?_getD,List.getElem?_eq_none (by simp;omega)]at hk
  simp at hk
theorem kind_at {F:Fcs}{i j:Nat}(h:j<(szF F i).length):∃(c:UInt8) (y:Int),(kindT i)[j]?=some c∧(szF F i)[j]?=some y∧lkU (c.toNat:Int) (szM F)=some y:=by
 have hz:j<(kindZ i).length:=by simpa [szF]using h
 have hk:=kind_lt (i:=i) _ (List.getElem_mem hz)
 generalize hx:(kindZ i)[j]=k at hk
 have hk2:(kindZ i)[j]?=some k:=by rw[List.getElem?_eq_getElem hz,hx]
 refine⟨UInt8.ofNat (letZ k),domF F k,by simp[kindT,hk2],by simp[szF,hk2],?_⟩
 match k,hk with
 |0,_=>rfl
 |1,_=>rfl
 |2,_=>rfl
 |3,_=>rfl
 |4,_=>rfl
 |5,_=>rfl
 |6,_=>rfl
theorem mayF_w {F:Fcs}:belowB F.me.length (F.mn::(F.ow++F.ho))=((decide (0≤F.mn) && decide (F.mn<F.me.length)) && (belowB F.me.length F.ow && belowB F.me.length F.ho)):=by
 unfold belowB
 rw[List.all_cons,List.all_append]
theorem mayF_cw {F:Fcs}(h:belowB F.me.length (F.mn::(F.ow++F.ho))=false):mayF F=false:=by
 rw[mayF_w]at h
 unfold mayF
 cases e1:(decide (0≤F.mn) && decide (F.mn<F.me.length))with
 |false=>simp
 |true=>
  rw[e1,Bool.true_and]at h
  cases e2:belowB F.me.length F.ow with
  |false=>simp
  |true=>
   rw[e2,Bool.true_and]at h
   rw[h];simp
theorem mayF_yw {F:Fcs}(h1:F.ow.length=F.va.length)(h2:F.ho.length=F.ca.length)(h:belowB F.me.length (F.mn::(F.ow++F.ho))=true)(h3:∀i,i<12→rowsB (szF F i) (F.rel i)=true):mayF F=true:=by
 rw[mayF_w]at h
 simp only[Bool.and_eq_true,decide_eq_true_eq]at h
 exact mayF_yes h1 h2 h.2.1 h.2.2 (by omega) (by omega) h3
set_option maxHeartbeats 16000000 in
theorem Pmay_S (F:Fcs)(hF:FSm F)(t:St):SRet Tryz.prog 15 [.agg (fcsC F)] t (.bool (mayF F)) t:=by
 obtain⟨a1,a2,a3,a4,a5,a6,a7,a8,_⟩:=id hF
 have wsz:=fun s=>Psizes_S F s
 have wm:=fun(s:St) (o:Own)=>Pmay1_S s F.me.length (F.mn::(F.ow++F.ho)) o (by simp;omega)
 have em:intsL (F.mn::(F.ow++F.ho))=[.int .i64 F.mn]::(intsL F.ow++intsL F.ho):=by simp[intsL]
 rw[em]at wm
 clear em
 have wall:=fun(s:St) (b:Nat)=>Pall_S b 0 s
 have g1:=strsf_len F.me
 have g2:=strsf_len F.va
 have g4:=strsf_len F.ca
 have g7:(intsL F.ow).length=F.ow.length:=intsL_len
 have g8:(intsL F.ho).length=F.ho.length:=intsL_len
 have hone:(fcsC F).all VV.one=true:=rfl
 have hy9:∀y,y∈[VV.int .i64 F.mn]::intsL F.ow→y.length=1:=fun y hy=>by
  rcases List.mem_cons.1 hy with rfl|hy
  ·rfl
  ·obtain⟨x,_,rfl⟩:=List.mem_map.1 hy;rfl
 have hy7:∀y,y∈intsL F.ow→y.length=1:=fun y hy=>by obtain⟨x,_,rfl⟩:=List.mem_map.1 hy;rfl
 have hy8:∀y,y∈intsL F.ho→y.length=1:=fun y hy=>by obtain⟨x,_,rfl⟩:=List.mem_map.1 hy;rfl
 have hcl:(fcsC F).length=21:=rfl
 have hca:(fcsC F).take 21=fcsC F:=rfl
 have hc0:(fcsC F)[0]?=some (.lst (strs F.me) .no):=rfl
 have hc1:(fcsC F)[1]?=some (.lst (strs F.va) .no):=rfl
 have hc3:(fcsC F)[3]?=some (.lst (strs F.ca) .no):=rfl
 have hc6:(fcsC F)[6]?=some (.lst (intsL F.ow) .no):=rfl
 have hc7:(fcsC F)[7]?=some (.lst (intsL F.ho) .no):=rfl
 have hc8:(fcsC F)[8]?=some (.int .i64 F.mn):=rfl
 have HCR:=Lib.hid (fun(i:Nat) (h:i<12)=>fcsC_rel F h)
 have HNO:=Lib.hid (fun(i:Nat) (hi:i<12) (h:rowsB (szF F i) (F.rel i)=false)=>mayF_no hi h)
 have HC1:=Lib.hid (fun h=>mayF_c1 (F:=F) h)
 have HC2:=Lib.hid (fun h=>mayF_c2 (F:=F) h)
 have HCW:=Lib.hid (fun h=>mayF_cw (F:=F) h)
 have HYW:=Lib.hid (fun h1 h2 h h3=>mayF_yw (F:=F) h1 h2 h h3)
 have HF:=Lib.hid hF
 have HKA:=Lib.hid (fun(i j:Nat) (h:j<(szF F i).length)=>kind_at (F:=F) h)
 have HKL:=Lib.hid (fun(i:Nat)=>kindT_len (i:=i) (F:=F))
 generalize hR:mayF F=R at *
 generalize hCW:belowB F.me.length (F.mn::(F.ow++F.ho))=cw at *
 have HCWE:=Lib.hid hCW
 generalize fcsC F=C at *
 generalize szM F=M at *
 generalize strs F.me=Me at *
 generalize strs F.va=Va at *
 generalize strs F.ca=Ca at *
 generalize intsL F.ow=Ow at *
 generalize intsL F.ho=Ho at *
 clear hR hF hCW
 by_cases h1:F.ow.length=F.va.length
 rotate_left
 ·have hF:=HC1.out h1
  subst hF
  have hn:((F.ow.length:Int)=(F.va.length:Int))=False:=eq_false (by omega)
  refine G_enter Tryz.func15 rfl Tryz.ntmps15 rfl fun Q hQ hQe=>?_
  (repeat'(first|refine Ctl ?_|(with_reducible first|(refine Kof.use hK ?_;clear hK hE K E)|(refine Kof.use hKh ?_;clear hKh Kh)|(refine Kof.use hKb (P_next ?_);clear hKb Kb)|refine G_plan 3 [([0,1,2,3,4,5,6,7,8,9,10,11,12,13,14,15,16,17,18,19,20,21,22,24,25,27,28,29],23,[[17,24,25,27,28,29]]),([],26,[[],[17,27,28,29]]),([],30,[[],[],[]])] [31,32] hQe fun K E hK hE=>?_)|((with_reducible refine W_cond (fun h=>?_) (fun h=>?_))<;>(try(exfalso;assumption)))|((first|(with_reducible first|refine G_region fun K E hK hE=>?_|refine P_heads fun Kh hKh=>?_|refine P_fin fun Kh hKh=>?_|refine P_each fun Kb hKb=>?_)|((with_reducible refine call_ex can17 (wsz _) (fun a h=>?_));(rw[set_free_o]at h;obtain⟨_,_,_⟩:=h))|((with_reducible refine W_fresh (fun b hb=>?_))))<;>(try simp(disch:=omega) only[go_sem,seval,List.append_eq,disown_fl,ownok_o,ownok_m,g1,g2,g4,g7,g8,hcl,hca,hc0,hc1,hc3,hc6,hc7,hc8,hn, *]))))
  all_goals(refine W_ret res15 hQ ?_)
  all_goals(refine⟨_,_,Wk.of_eq ?_,?_,rfl,rfl⟩)
  all_goals first|rfl|(exact z_fg)
 have hn1:((F.ow.length:Int)=(F.va.length:Int))=True:=eq_true (by omega)
 by_cases h2:F.ho.length=F.ca.length
 rotate_left
 ·have hF:=HC2.out h2
  subst hF
  have hn:((F.ho.length:Int)=(F.ca.length:Int))=False:=eq_false (by omega)
  refine G_enter Tryz.func15 rfl Tryz.ntmps15 rfl fun Q hQ hQe=>?_
  (repeat'(first|refine Ctl ?_|(with_reducible first|(refine Kof.use hK ?_;clear hK hE K E)|(refine Kof.use hKh ?_;clear hKh Kh)|(refine Kof.use hKb (P_next ?_);clear hKb Kb)|refine G_plan 3 [([0,1,2,3,4,5,6,7,8,9,10,11,12,13,14,15,16,17,18,19,20,21,22,24,25,27,28,29],23,[[17,24,25,27,28,29]]),([],26,[[],[17,27,28,29]]),([],30,[[],[],[]])] [31,32] hQe fun K E hK hE=>?_)|((with_reducible refine W_cond (fun h=>?_) (fun h=>?_))<;>(try(exfalso;assumption)))|((first|(with_reducible first|refine G_region fun K E hK hE=>?_|refine P_heads fun Kh hKh=>?_|refine P_fin fun Kh hKh=>?_|refine P_each fun Kb hKb=>?_)|((with_reducible refine call_ex can17 (wsz _) (fun a h=>?_));(rw[set_free_o]at h;obtain⟨_,_,_⟩:=h))|((with_reducible refine W_fresh (fun b hb=>?_))))<;>(try simp(disch:=omega) only[go_sem,seval,List.append_eq,disown_fl,ownok_o,ownok_m,g1,g2,g4,g7,g8,hcl,hca,hc0,hc1,hc3,hc6,hc7,hc8,hn1,hn, *]))))
  all_goals(refine W_ret res15 hQ ?_)
  all_goals(refine⟨_,_,Wk.of_eq ?_,?_,rfl,rfl⟩)
  all_goals first|rfl|(exact z_fg)
 have hn2:((F.ho.length:Int)=(F.ca.length:Int))=True:=eq_true (by omega)
 have H1:=Lib.hid h1
 have H2:=Lib.hid h2
 clear h1 h2
 cases cw
 ·have hF:=HCW.out rfl
  subst hF
  refine G_enter Tryz.func15 rfl Tryz.ntmps15 rfl fun Q hQ hQe=>?_
  (repeat'(first|(with_reducible first|(refine W_apF18 (fun o2 ho=>?_);simp only[List.length_cons,List.length_nil,Nat.zero_add,g7,g8]at ho;have nq1:=ho.not (x:=b) (by rw[St.set_other _ _ (by assumption),St.set_same];simp);have nq2:=ho.not (x:=a) (by rw[St.set_same];simp))|(refine W_ap218 (by assumption) (fun o2 ho=>?_);simp only[List.length_cons,List.length_nil,Nat.zero_add,g7,g8]at ho;have nq1:=ho.not (x:=b) (by rw[St.set_other _ _ (by assumption),St.set_same];simp);have nq2:=ho.not (x:=a) (by rw[St.set_same];simp)))|refine Ctl ?_|((with_reducible refine Kof.use hK ?_);clear hK hE K E)|((with_reducible refine Eof.use hE ?_);(try clear hK hE K E))|(with_reducible first|(refine Kof.use hKh ?_;clear hKh Kh)|(refine Kof.use hKb (P_next ?_);clear hKb Kb)|refine G_plan 3 [([0,1,2,3,4,5,6,7,8,9,10,11,12,13,14,15,16,17,18,19,20,21,22,24,25,27,28,29],23,[[17,24,25,27,28,29]]),([],26,[[],[17,27,28,29]]),([],30,[[],[],[]])] [31,32] hQe fun K E hK hE=>?_)|((with_reducible refine W_cond (fun h=>?_) (fun h=>?_))<;>(try(exfalso;first|assumption|omega)))|((first|(with_reducible first|refine G_region fun K E hK hE=>?_|refine call_ret can37 (wm _ _) ?_|refine W_if ?_|refine W_ifS ?_|refine P_heads fun Kh hKh=>?_|refine P_fin fun Kh hKh=>?_|refine P_each fun Kb hKb=>?_|refine W_and ?_)|((with_reducible refine call_ex can17 (wsz _) (fun a h=>?_));(rw[set_free_o]at h;obtain⟨_,_,_⟩:=h))|((with_reducible refine W_fresh (fun b hb=>?_));(repeat(obtain⟨_,hb⟩:=hb)))|((with_reducible refine W_app (fun o2 ho=>?_));(try simp(disch:=assumption) only[disown_set,disown_own,ownok_o,ownok_m,List.length_map,List.length_cons,List.length_nil,Nat.zero_add,List.append_eq,disown_fl,ownok_o,ownok_m,g1,g2,g4,g7,g8,hcl,hca,hc0,hc1,hc3,hc6,hc7,hc8,hn1,hn2]at ho);(repeat(obtain⟨_,ho⟩:=ho)))|((with_reducible refine W_appM (fun bM hM=>?_)))|((with_reducible refine W_app0 (fun bM hM=>?_)))|((with_reducible refine W_gd (fun h=>?_) (fun h=>?_))<;>(try(exfalso;first|assumption|omega))))<;>(try simp(disch:=first|assumption|omega) only[go_sem,seval,List.append_eq,disown_fl,ownok_o,ownok_m,g1,g2,g4,g7,g8,hcl,hca,hc0,hc1,hc3,hc6,hc7,hc8,hn1,hn2, *]))))
  all_goals(refine W_ret res15 hQ ?_)
  all_goals(refine⟨_,_,Wk.of_eq ?_,?_,rfl,rfl⟩)
  all_goals first|rfl|(refine Fg.trans (b:=(t.set b (.obj 26 C)).set a (.map (mpU M))) (by have e:=ho.fg (T:=3) (sz:=1) (n:=1+F.ow.length+F.ho.length);simp(disch:=assumption) only[own_push]at e;exact e) ?_;(exact z_fg))
 refine G_enter Tryz.func15 rfl Tryz.ntmps15 rfl fun Q hQ hQe=>?_
 (repeat'(first|(with_reducible first|(refine W_apF18 (fun o2 ho=>?_);simp only[List.length_cons,List.length_nil,Nat.zero_add,g7,g8]at ho;have nq1:=ho.not (x:=b) (by rw[St.set_other _ _ (by assumption),St.set_same];simp);have nq2:=ho.not (x:=a) (by rw[St.set_same];simp))|(refine W_ap218 (by assumption) (fun o2 ho=>?_);simp only[List.length_cons,List.length_nil,Nat.zero_add,g7,g8]at ho;have nq1:=ho.not (x:=b) (by rw[St.set_other _ _ (by assumption),St.set_same];simp);have nq2:=ho.not (x:=a) (by rw[St.set_same];simp)))|refine Ctl ?_|((with_reducible refine Kof.use hK ?_);clear hK hE K E)|((with_reducible refine Eof.use hE ?_);(try clear hK hE K E))|(with_reducible first|(refine Kof.use hKh ?_;clear hKh Kh)|(refine Kof.use hKb (P_next ?_);clear hKb Kb)|refine G_plan 3 [([0,1,2,3,4,5,6,7,8,9,10,11,12,13,14,15,16,17,18,19,20,21,22,24,25,27,28,29],23,[[17,24,25,27,28,29]]),([],26,[[],[17,27,28,29]]),([],30,[[],[],[]])] [31,32] hQe fun K E hK hE=>?_)|((with_reducible refine W_cond (fun h=>?_) (fun h=>?_))<;>(try(exfalso;first|assumption|omega)))|((first|(with_reducible first|refine G_region fun K E hK hE=>?_|refine call_ret can37 (wm _ _) ?_|refine call_ret can21 (wall _ _) ?_|refine W_if ?_|refine W_ifS ?_|refine P_heads fun Kh hKh=>?_|refine P_fin fun Kh hKh=>?_|refine P_each fun Kb hKb=>?_|refine W_and ?_)|((with_reducible refine call_ex can17 (wsz _) (fun a h=>?_));(rw[set_free_o]at h;obtain⟨_,_,_⟩:=h))|((with_reducible refine W_fresh (fun b hb=>?_));(repeat(obtain⟨_,hb⟩:=hb)))|((with_reducible refine W_app (fun o2 ho=>?_));(try simp(disch:=assumption) only[disown_set,disown_own,ownok_o,ownok_m,List.length_map,List.length_cons,List.length_nil,Nat.zero_add,List.append_eq,disown_fl,ownok_o,ownok_m,g1,g2,g4,g7,g8,hcl,hca,hc0,hc1,hc3,hc6,hc7,hc8,hn1,hn2]at ho);(repeat(obtain⟨_,ho⟩:=ho)))|((with_reducible refine W_appM (fun bM hM=>?_)))|((with_reducible refine W_app0 (fun bM hM=>?_)))|((with_reducible refine W_gd (fun h=>?_) (fun h=>?_))<;>(try(exfalso;first|assumption|omega))))<;>(try simp(disch:=first|assumption|omega) only[go_sem,seval,List.append_eq,disown_fl,ownok_o,ownok_m,g1,g2,g4,g7,g8,hcl,hca,hc0,hc1,hc3,hc6,hc7,hc8,hn1,hn2, *]))))
 obtain⟨HSF⟩:Nonempty (Hid (Fg (((t.own o2 3 1 (1+F.ow.length+F.ho.length)).set b (.obj 26 C)).set a (.map (mpU M))) ((t.set b (.obj 26 C)).set a (.map (mpU M))))):=⟨Lib.hid (by have e:=ho.fg (T:=3) (sz:=1) (n:=1+F.ow.length+F.ho.length);simp(disch:=assumption) only[own_push]at e;exact e)⟩
 have HST:Hid (Fg ((t.set b (.obj 26 C)).set a (.map (mpU M))) t):=Lib.hid (z_fg)
 refine Kp_forget (s':=(t.set b (.obj 26 C)).set a (.map (mpU M))) HSF.out ?_
 have hSb:((t.set b (.obj 26 C)).set a (.map (mpU M))) b=.obj 26 C:=by rw[St.set_other _ _ (by assumption),St.set_same]
 have hSa:((t.set b (.obj 26 C)).set a (.map (mpU M))) a=.map (mpU M):=St.set_same _ _ _
 have HSB:=Lib.hid HST.out
 generalize (t.set b (.obj 26 C)).set a (.map (mpU M))=S at *
 have hkin:kindL=[[.str [86,72]],[.str [86,86]],[.str [86,70,86]],[.str [86,86,70]],[.str [73,86,78]],[.str [73,77]],[.str [72,78,77]],[.str [73,90,86]],[.str [77,90,86]],[.str [77,86]],[.str [77,86]],[.str [73,86]]]:=rfl
 have HKIN:=Lib.hid hkin
 clear hkin HSF wsz wm wall hn1 hn2 nq1 nq2 ho hb
 refine L_loop (fun m env s'=>∃(i:Nat),i≤12∧m+i=12∧S=s'∧Hid (∀j,j<i→rowsB (szF F j) (F.rel j)=true)∧env 3=.mp a∧env 5=.lst kindL .full∧env 48=.lst (ptrL b 0) .full∧env 49=.int .i64 12∧env 50=.int .i64 i) 12
  ⟨0,by omega,by omega,rfl,Lib.hid (fun j hj=>by omega),z_sl,(by rw[HKIN.out];((try simp(disch:=assumption) only[go_sem,seval, *])<;>rfl)),z_sl,(by have:=ptrL_len (b:=b) (i:=0);((try simp(disch:=assumption) only[go_sem,seval, *])<;>rfl)),z_sl⟩ ?_
 rintro m env s' ⟨i,hi,hm,he0,HD,e3,e5,e48,e49,e50⟩
 subst he0
 by_cases hlt:i<12
 ·have hpt:=ptrL_at (b:=b) (i:=0) hlt
  have hco:=HCR.out i hlt
  have hlo:((9+i)+1≤21)=True:=eq_true (by omega)
  rw[Nat.zero_add]at hpt
  generalize 9+i=o at *
  have hrw:(rowsV (F.rel i)).length=(F.rel i).length:=rowsV_len
  have hkl:=kindL_at hlt
  have hkn:=HKL.out i
  have hrb:=HF.out.2.2.2.2.2.2.2.2 i hlt
  have HRB:=Lib.hid hrb.2
  have hrb1:=hrb.1
  have hszl:(szF F i).length≤3:=by
   have:∀i,i<12→(kindZ i).length≤3:=by decide
   simp only[szF,List.length_map];exact this i hlt
  have KEY0:Hid (∀k,k<(F.rel i).length→rowAt (szF F i) (F.rel i) k=false→R=false):=Lib.hid fun k hk h=>HNO.out i hlt (rowsB_no hk h)
  clear hrb
  have HKAI:=Lib.hid (fun j h=>HKA.out i j h)
  have HNOI:Hid (rowsB (szF F i) (F.rel i)=true→∀j,j<i+1→rowsB (szF F j) (F.rel j)=true):=Lib.hid fun h j hj=>by
   by_cases e:j=i
   ·subst e;exact h
   ·exact HD.out j (by omega)
  generalize szF F i=sz at *
  generalize F.rel i=L at *
  generalize kindT i=kt at *
  (repeat'(first|refine Ctl ?_|((with_reducible refine Kof.use hK ?_);clear hK hE K E)|((with_reducible refine W_cond (fun h=>?_) (fun h=>?_))<;>(try(exfalso;omega)))|(((with_reducible refine G_region fun K E hK hE=>?_))<;>(try simp(disch:=omega) only[go_sem,seval,hcl,hone,hpt,hco,hlo,hrw,hkl,hkn,kindL_len,ptrL_len,Option.getD_some, *]))))
  have E48:=Lib.hid e48
  refine L_loop (fun m2 env s2=>∃(k:Nat),k≤L.length∧m2+k=L.length∧S=s2∧Hid (∀j,j<k→rowAt sz L j=true)∧env 3=.mp a∧env 5=.lst kindL .full∧env 6=.int .i64 i∧env 7=.ptr b o∧env 48=.lst (ptrL b 0) .full∧env 49=.int .i64 12∧env 50=.int .i64 i∧env 57=.lst (rowsV L) .no∧env 58=.int .i64 L.length∧env 59=.int .i64 k) L.length
   ⟨0,by omega,by omega,rfl,Lib.hid (fun j hj=>by omega),z_sl,z_sl,z_sl,z_sl,z_sl,z_sl,z_sl,z_sl,z_sl,z_sl⟩ ?_
  clear e3 e5 e48 e49 e50 E48 env
  rintro m2 env s2 ⟨k,hk,hm2,he0,HH,e3,e5,e6,e7,e48,e49,e50,e57,e58,e59⟩
  subst he0
  by_cases hkl2:k<L.length
  ·obtain⟨r,hr⟩:=uget hkl2
   have sx:=rowsV_at hr
   have hrl:(intsL r).length=r.length:=intsL_len
   have hrk:=HRB.out r (List.mem_of_getElem? hr)
   have HX:=Lib.hid hr
   clear hr
   have KEY:Hid (∀v:Bool,rowAt sz L k=v→(v=false→R=false)∧(v=true→Hid (∀(j:Nat),j<k+1→rowAt sz L j=true))):=Lib.hid fun v hv=>⟨fun h=>by subst h;exact KEY0.out k hkl2 hv,fun h=>by
    subst h
    exact Lib.hid fun j hj=>by
     by_cases e:j=k
     ·subst e;exact hv
     ·exact HH.out j (by omega)⟩
   by_cases hlen:r.length=sz.length
   ·have hli:((r.length:Int)=(sz.length:Int))=True:=eq_true (by omega)
    have hls:((sz.length:Int)=(sz.length:Int))=True:=eq_true rfl
    have hend:Hid (inB sz r=false→rowAt sz L k=false):=Lib.hid (rowAt_in HX.out)
    have hst:(((0<(k:Int))=False)∧Hid (inB sz r=true→rowAt sz L k=true))∨∃(j:Nat) (q:List Int),((0<(k:Int))=True)∧((k:Int) - 1=(j:Int))∧j<L.length∧Hid (k=j+1)∧L[j]?=some q:=by
     cases k with
     |zero=>exact .inl ⟨eq_false (by omega),Lib.hid (rowAt_yes0 HX.out hlen)⟩
     |succ j=>exact .inr ⟨j,_,eq_true (by omega),by omega,by omega,Lib.hid rfl,List.getElem?_eq_getElem (by omega)⟩
    rcases hst with ⟨hz,HY⟩|⟨j,q,hz,hs1,hjl,HIJ,hq⟩
    case' inl=>(repeat'(first|refine Ctl ?_|((with_reducible refine Kof.use hK ?_);clear hK hE K E)|((with_reducible refine W_cond (fun h=>?_) (fun h=>?_))<;>(try(exfalso;assumption)))|(((with_reducible refine G_region fun K E hK hE=>?_))<;>(try simp(disch:=omega) only[go_sem,seval,hcl,hone,hpt,hco,hlo,hrw,hkl,hkn,kindL_len,ptrL_len,Option.getD_some,hrl,sx,hli,hz, *]))))
    case' inr=>
     have sq:=rowsV_at hq
     have hqk:=HRB.out q (List.mem_of_getElem? hq)
     have w1:=fun s=>Compare_S q r .no .no s (by omega) (by omega)
     have HQ:=Lib.hid hq
     clear hq
     cases hB:lessZ q r
     case' false=>
      have hF:=(KEY.out false (by have:=HX.out;rw[HIJ.out]at this ⊢;exact rowAt_less this HQ.out hB)).1 rfl
      subst hF
      have hcz:(0≤cmpZ q r)=True:=cmp_less.trans (eq_true hB)
      clear hB
      (repeat'(first|refine Ctl ?_|((with_reducible refine Kof.use hK ?_);clear hK hE K E)|((with_reducible refine W_cond (fun h=>?_) (fun h=>?_))<;>(try(exfalso;assumption)))|(((with_reducible first|refine G_region fun K E hK hE=>?_|refine call_ret can33 (w1 _) ?_))<;>(try simp(disch:=omega) only[go_sem,seval,hcl,hone,hpt,hco,hlo,hrw,hkl,hkn,kindL_len,ptrL_len,Option.getD_some,hrl,sx,sq,hli,hz,hs1,hcz, *]))))
      all_goals(refine W_ret res15 hQ ?_)
      all_goals exact⟨_,_,Wk.refl _,HST.out,rfl,rfl⟩
     case' true=>
      have HY:Hid (inB sz r=true→rowAt sz L k=true):=Lib.hid (by have:=HX.out;rw[HIJ.out]at this ⊢;exact rowAt_yes this HQ.out hlen hB)
      have hcz:(0≤cmpZ q r)=False:=cmp_less.trans (eq_false (by simp[hB]))
      clear hB
      (repeat'(first|refine Ctl ?_|((with_reducible refine Kof.use hK ?_);clear hK hE K E)|((with_reducible refine W_cond (fun h=>?_) (fun h=>?_))<;>(try(exfalso;assumption)))|(((with_reducible first|refine G_region fun K E hK hE=>?_|refine call_ret can33 (w1 _) ?_))<;>(try simp(disch:=omega) only[go_sem,seval,hcl,hone,hpt,hco,hlo,hrw,hkl,hkn,kindL_len,ptrL_len,Option.getD_some,hrl,sx,sq,hli,hz,hs1,hcz, *]))))
      clear w1 hs1 sq hjl HQ hcz
    all_goals
     clear hz
     refine L_loop (fun m3 env s3=>∃(l:Nat),l≤sz.length∧m3+l=sz.length∧S=s3∧Hid (∀(j:Nat),j<l→∃x y,r[j]?=some x∧sz[j]?=some y∧0≤x∧x<y)∧env 3=.mp a∧env 5=.lst kindL .full∧env 6=.int .i64 i∧env 7=.ptr b o∧env 48=.lst (ptrL b 0) .full∧env 49=.int .i64 12∧env 50=.int .i64 i∧env 57=.lst (rowsV L) .no∧env 58=.int .i64 L.length∧env 59=.int .i64 k∧env 88=.lst (intsL r) .no∧env 89=.int .i64 r.length∧env 90=.int .i64 l) sz.length
      ⟨0,by omega,by omega,rfl,Lib.hid (fun j hj=>by omega),z_sl,z_sl,z_sl,z_sl,z_sl,z_sl,z_sl,z_sl,z_sl,z_sl,z_sl,z_sl,z_sl⟩ ?_
     clear e3 e5 e6 e7 e48 e49 e50 e57 e58 e59 env
     rintro m3 env s3 ⟨l,hl,hm3,he0,HK,e3,e5,e6,e7,e48,e49,e50,e57,e58,e59,e88,e89,e90⟩
     subst he0
     by_cases hll:l<sz.length
     ·obtain⟨x,hx⟩:∃x,r[l]?=some x:=⟨_,List.getElem?_eq_getElem (by omega)⟩
      obtain⟨c,y,hc,hy,hM⟩:=HKAI.out l hll
      have hlr:((l:Int)<(r.length:Int))=True:=eq_true (by omega)
      have sk:=intsL_at hx
      have HXK:=Lib.hid hx
      have HYK:=Lib.hid hy
      clear hx hy
      by_cases hneg:x<0
      ·have hF:=(KEY.out false (hend.out (inB_no HXK.out HYK.out (.inl hneg)))).1 rfl
       subst hF
       (repeat'(first|refine Ctl ?_|((with_reducible refine Kof.use hK ?_);clear hK hE K E)|((with_reducible refine W_cond (fun h=>?_) (fun h=>?_))<;>(try(exfalso;assumption)))|(((with_reducible refine G_region fun K E hK hE=>?_))<;>(try simp(disch:=omega) only[go_sem,seval,hcl,hone,hpt,hco,hlo,hrw,hkl,hkn,kindL_len,ptrL_len,Option.getD_some,hrl,sx,sk,hc,hM,hlr, *]))))
       all_goals(refine W_ret res15 hQ ?_)
       all_goals exact⟨_,_,Wk.refl _,HST.out,rfl,rfl⟩
      ·by_cases hge:y≤x
       ·have hF:=(KEY.out false (hend.out (inB_no HXK.out HYK.out (.inr hge)))).1 rfl
        subst hF
        (repeat'(first|refine Ctl ?_|((with_reducible refine Kof.use hK ?_);clear hK hE K E)|((with_reducible refine W_cond (fun h=>?_) (fun h=>?_))<;>(try(exfalso;assumption)))|(((with_reducible refine G_region fun K E hK hE=>?_))<;>(try simp(disch:=omega) only[go_sem,seval,hcl,hone,hpt,hco,hlo,hrw,hkl,hkn,kindL_len,ptrL_len,Option.getD_some,hrl,sx,sk,hc,hM,hlr, *]))))
        all_goals(refine W_ret res15 hQ ?_)
        all_goals exact⟨_,_,Wk.refl _,HST.out,rfl,rfl⟩
       ·have HN:Hid (∀(j:Nat),j<l+1→∃x y,r[j]?=some x∧sz[j]?=some y∧0≤x∧x<y):=Lib.hid fun j hj=>by
         by_cases e:j=l
         ·subst e;exact⟨x,y,HXK.out,HYK.out,by omega,by omega⟩
         ·exact HK.out j (by omega)
        (repeat'(first|refine Ctl ?_|((with_reducible refine Kof.use hK ?_);clear hK hE K E)|((with_reducible refine W_cond (fun h=>?_) (fun h=>?_))<;>(try(exfalso;assumption)))|(((with_reducible refine G_region fun K E hK hE=>?_))<;>(try simp(disch:=omega) only[go_sem,seval,hcl,hone,hpt,hco,hlo,hrw,hkl,hkn,kindL_len,ptrL_len,Option.getD_some,hrl,sx,sk,hc,hM,hlr, *]))))
        all_goals exact⟨m3 - 1,by omega,l+1,by omega,by omega,rfl,HN,z_sl,z_sl,z_sl,z_sl,z_sl,z_sl,z_sl,z_sl,z_sl,z_sl,z_sl,z_sl,z_sl⟩
     ·have HN:=(KEY.out true (HY.out (inB_yes fun j hj=>HK.out j (by omega)))).2 rfl
      have hlr:((l:Int)<(r.length:Int))=False:=eq_false (by omega)
      (repeat'(first|refine Ctl ?_|((with_reducible refine Kof.use hK ?_);clear hK hE K E)|((with_reducible refine W_cond (fun h=>?_) (fun h=>?_))<;>(try(exfalso;assumption)))|(((with_reducible refine G_region fun K E hK hE=>?_))<;>(try simp(disch:=omega) only[go_sem,seval,hcl,hone,hpt,hco,hlo,hrw,hkl,hkn,kindL_len,ptrL_len,Option.getD_some,hrl,hlr, *]))))
      all_goals exact⟨m2 - 1,by omega,k+1,by omega,by omega,rfl,HN,z_sl,z_sl,z_sl,z_sl,z_sl,z_sl,z_sl,z_sl,z_sl,z_sl⟩
   ·have hF:=(KEY.out false (rowAt_len HX.out hlen)).1 rfl
    subst hF
    have hli:((r.length:Int)=(sz.length:Int))=False:=eq_false (by omega)
    (repeat'(first|refine Ctl ?_|((with_reducible refine Kof.use hK ?_);clear hK hE K E)|((with_reducible refine W_cond (fun h=>?_) (fun h=>?_))<;>(try(exfalso;assumption)))|(((with_reducible refine G_region fun K E hK hE=>?_))<;>(try simp(disch:=omega) only[go_sem,seval,hcl,hone,hpt,hco,hlo,hrw,hkl,hkn,kindL_len,ptrL_len,Option.getD_some,hrl,sx,hli, *]))))
    all_goals(refine W_ret res15 hQ ?_)
    all_goals exact⟨_,_,Wk.refl _,HST.out,rfl,rfl⟩
  ·have HN:Hid (∀j,j<i+1→rowsB (szF F j) (F.rel j)=true):=Lib.hid (HNOI.out (rowsB_yes fun j hj=>HH.out j (by omega)))
   (repeat'(first|refine Ctl ?_|((with_reducible refine Kof.use hK ?_);clear hK hE K E)|((with_reducible refine W_cond (fun h=>?_) (fun h=>?_))<;>(try(exfalso;assumption)))|(((with_reducible refine G_region fun K E hK hE=>?_))<;>(try simp(disch:=omega) only[go_sem,seval,hcl,hone,hpt,hco,hlo,hrw,hkl,hkn,kindL_len,ptrL_len,Option.getD_some, *]))))
   all_goals exact⟨m - 1,by omega,i+1,by omega,by omega,rfl,HN,z_sl,z_sl,z_sl,z_sl,z_sl⟩
 ·have hT:=HYW.out H1.out H2.out rfl (fun j hj=>HD.out j (by omega))
  subst hT
  (repeat'(first|refine Ctl ?_|((with_reducible refine Kof.use hK ?_);clear hK hE K E)|((with_reducible refine W_cond (fun h=>?_) (fun h=>?_))<;>(try(exfalso;omega)))|(((with_reducible refine G_region fun K E hK hE=>?_))<;>(try simp(disch:=omega) only[go_sem,seval, *]))))
  all_goals(refine W_ret res15 hQ ?_)
  all_goals exact⟨_,_,Wk.refl _,HST.out,rfl,rfl⟩
end Go.Proofs.YtgdbgfjhenobdaaGreatDoor
