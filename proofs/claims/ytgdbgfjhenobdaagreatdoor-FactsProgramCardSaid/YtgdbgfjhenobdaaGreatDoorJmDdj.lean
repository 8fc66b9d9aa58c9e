/- Walks of functions that the claim reaches, and plain facts of them. Conditions: those in the statements. -/
import Derived.Test.YtgdbgfjhenobdaaGreatDoorJmPkj
import Derived.Test.YtgdbgfjhenobdaaGreatDoorJmGpj
import Derived.Test.YtgdbgfjhenobdaaGreatDoorJmYaj
set_option linter.unusedSimpArgs false
set_option linter.unusedVariables false
set_option maxRecDepth 100000
namespace Go.Proofs.YtgdbgfjhenobdaaGreatDoor
open Go.RowKit
theorem lst_eq {α:Type}{a b:List α}(hl:a.length=b.length)(h:∀i:Nat,i<a.length→a[i]?=b[i]?):a=b:=by
 apply List.ext_getElem?
 intro i
 by_cases hi:i<a.length
 ·exact h i hi
 ·rw[List.getElem?_eq_none (by omega),List.getElem?_eq_none (by omega)]
set_option maxHeartbeats 2000000 in
theorem SameInts_S (a b:List Int)(o1 o2:Own)(ha:a.length≤140737488355328)(hb:b.length≤140737488355328)(t:St):SRet Tryz.prog 36 [.lst (intsL a) o1,.lst (intsL b) o2] t (.bool (decide (a=b))) t:=by
 have la:(intsL a).length=a.length:=intsL_len
 have lb:(intsL b).length=b.length:=intsL_len
 by_cases hl:a.length=b.length
 ·have hli:((a.length:Int)=(b.length:Int))=True:=eq_true (by omega)
  have hlz:((b.length:Int)=(b.length:Int))=True:=eq_true rfl
  refine G_enter Tryz.func36 rfl Tryz.ntmps36 rfl fun Q hQ hQe=>?_
  (repeat'(first|refine Ctl ?_|((with_reducible refine Kof.use hK ?_);clear hK hE K E)|((with_reducible refine W_cond (fun h=>?_) (fun h=>?_))<;>(try(exfalso;assumption)))|(((with_reducible refine G_region fun K E hK hE=>?_))<;>(try simp(disch:=omega) only[go_sem,seval,la,lb,hl, *]))))
  refine G_loop (fun m env s'=>∃i:Nat,i≤a.length∧m+i=a.length∧s'=t∧Hid (∀j:Nat,j<i→a[j]?=b[j]?)∧env 0=.lst (intsL a) o1∧env 1=.lst (intsL b) o2∧env 5=.int .i64 i) a.length ?_ ?_
  ·exact⟨t,Fg.refl _,0,by omega,by omega,rfl,Lib.hid (fun j hj=>by omega),z_sl,z_sl,z_sl⟩
  ·rintro m env s' ⟨i,hi,hm,rfl,HE,e0,e1,e5⟩
   by_cases hlt:i<a.length
   ·obtain⟨c,hc⟩:=uget hlt
    obtain⟨d,hd⟩:=uget (l:=b) (i:=i) (by omega)
    have hsx:=intsL_at hc
    have hsy:=intsL_at hd
    have HC:=Lib.hid hc
    have HD:=Lib.hid hd
    clear hc hd
    by_cases hcd:c=d
    ·have HCD:=Lib.hid hcd
     have hcc:(c=d)=True:=eq_true hcd
     (repeat'(first|refine Ctl ?_|(with_reducible first|(refine Kof.use hK ?_;clear hK hE K E)|(refine Kof.use hKh ?_;clear hKh Kh)|refine G_plan 6 [] [0,1,2,3,4,5,6,7,8] hQe fun K E hK hE=>?_)|((with_reducible refine W_cond (fun h=>?_) (fun h=>?_))<;>(try(exfalso;first|assumption|omega)))|(((with_reducible first|refine G_region fun K E hK hE=>?_|refine P_fin fun Kh hKh=>?_))<;>(try simp(disch:=omega) only[go_sem,seval,la,lb,hl,hsx,hsy, *]))))
     refine⟨s',Fg.refl _,m - 1,by omega,i+1,by omega,by omega,rfl,Lib.hid (fun j hj=>?_),z_sl,z_sl,z_sl⟩
     by_cases hj2:j=i
     ·subst hj2;rw[HC.out,HD.out,HCD.out]
     ·exact HE.out j (by omega)
    ·have hcc:(c=d)=False:=eq_false hcd
     (repeat'(first|refine Ctl ?_|(with_reducible first|(refine Kof.use hK ?_;clear hK hE K E)|(refine Kof.use hKh ?_;clear hKh Kh)|refine G_plan 6 [] [0,1,2,3,4,5,6,7,8] hQe fun K E hK hE=>?_)|((with_reducible refine W_cond (fun h=>?_) (fun h=>?_))<;>(try(exfalso;first|assumption|omega)))|(((with_reducible first|refine G_region fun K E hK hE=>?_|refine P_fin fun Kh hKh=>?_))<;>(try simp(disch:=omega) only[go_sem,seval,la,lb,hl,hsx,hsy, *]))))
     all_goals(refine W_ret res36 hQ ?_)
     all_goals(refine⟨_,_,Wk.of_eq ?_,?_,rfl,rfl⟩)
     ·rw[decide_eq_false (fun h=>hcd (by have:=HC.out;rw[h,HD.out]at this;injection this with this;exact this.symm))]
     ·(exact z_fg)
   ·(repeat'(first|refine Ctl ?_|((with_reducible refine Kof.use hK ?_);clear hK hE K E)|((with_reducible refine W_cond (fun h=>?_) (fun h=>?_))<;>(try(exfalso;omega)))|(((with_reducible refine G_region fun K E hK hE=>?_))<;>(try simp(disch:=omega) only[go_sem,seval,la,lb,hl, *]))))
    all_goals(refine W_ret res36 hQ ?_)
    all_goals(refine⟨_,_,Wk.of_eq ?_,?_,rfl,rfl⟩)
    ·rw[decide_eq_true (lst_eq hl (fun j hj=>HE.out j (by omega)))]
    ·(exact z_fg)
 ·have hli:((a.length:Int)=(b.length:Int))=False:=eq_false (by omega)
  refine G_enter Tryz.func36 rfl Tryz.ntmps36 rfl fun Q hQ hQe=>?_
  (repeat'(first|refine Ctl ?_|((with_reducible refine Kof.use hK ?_);clear hK hE K E)|((with_reducible refine W_cond (fun h=>?_) (fun h=>?_))<;>(try(exfalso;assumption)))|(((with_reducible refine G_region fun K E hK hE=>?_))<;>(try simp(disch:=omega) only[go_sem,seval,la,lb, *]))))
  all_goals(refine W_ret res36 hQ ?_)
  all_goals(refine⟨_,_,Wk.of_eq ?_,?_,rfl,rfl⟩)
  ·rw[decide_eq_false (fun h=>hl (by rw[h]))]
  ·(exact z_fg)
def rowsV (l:List (List Int)):List (List VV):=l.map fun r=>[rowV r]
theorem rowsV_len {l:List (List Int)}:(rowsV l).length=l.length:=by simp[rowsV]
theorem rowsV_at {l:List (List Int)}{i:Nat}{r:List Int}(h:l[i]?=some r):(rowsV l)[i]?=some [.lst (intsL r) .no]:=by simp[rowsV,h,rowV]
theorem rowsV_app {l m:List (List Int)}:rowsV (l++m)=rowsV l++rowsV m:=by simp[rowsV]
def RowsOk (l:List (List Int)):Prop:=l.length≤1000000000∧∀r,r∈l→r.length≤1000000000
theorem less_drop {a b:List Int}{i:Nat}{x y:Int}(hx:a[i]?=some x)(hy:b[i]?=some y):lessZ (a.drop i) (b.drop i)=if x=y then lessZ (a.drop (i+1)) (b.drop (i+1))else decide (x<y):=by
 obtain⟨h1,rfl⟩:=List.getElem?_eq_some_iff.1 hx
 obtain⟨h2,rfl⟩:=List.getElem?_eq_some_iff.1 hy
 rw[List.drop_eq_getElem_cons h1,List.drop_eq_getElem_cons h2]
 simp only[lessZ]
set_option maxHeartbeats 4000000 in
theorem Less_S (a b:List Int)(o1 o2:Own)(ha:a.length≤1000000000)(hb:b.length≤1000000000)(t:St):SRet Tryz.prog 85 [.lst (intsL a) o1,.lst (intsL b) o2] t (.bool (lessZ a b)) t:=by
 have hl1:(intsL a).length=a.length:=intsL_len
 have hl2:(intsL b).length=b.length:=intsL_len
 generalize hR:lessZ a b=R
 have HR:=Lib.hid hR
 clear hR
 refine G_enter Tryz.func85 rfl Tryz.ntmps85 rfl fun Q hQ hQe=>?_
 (repeat'(first|refine Ctl ?_|((with_reducible refine Kof.use hK ?_);clear hK hE K E)|(((with_reducible refine G_region fun K E hK hE=>?_))<;>(try simp(disch:=omega) only[go_sem,seval,hl1,hl2, *]))))
 refine L_loop (fun m env s'=>∃(i:Nat),i≤a.length∧i≤b.length∧m+i=a.length∧Hid (lessZ (a.drop i) (b.drop i)=R)∧s'=t∧env 0=.lst (intsL a) o1∧env 1=.lst (intsL b) o2∧env 5=.int .i64 i) a.length
  ⟨0,by omega,by omega,by omega,HR,rfl,z_sl,z_sl,z_sl⟩ ?_
 rintro m env s' ⟨i,hi,hi2,hm,HH,rfl,e0,e1,e5⟩
 by_cases h1:i<a.length
 ·by_cases h2:i<b.length
  ·obtain⟨x,hx⟩:∃x,a[i]?=some x:=⟨_,List.getElem?_eq_getElem h1⟩
   obtain⟨y,hy⟩:∃y,b[i]?=some y:=⟨_,List.getElem?_eq_getElem h2⟩
   have sx:=intsL_at hx
   have sy:=intsL_at hy
   have hd:=(less_drop hx hy).symm.trans HH.out
   clear hx hy
   by_cases e:x=y
   ·rw[if_pos e]at hd
    have HD:=Lib.hid hd
    clear hd
    subst e
    (repeat'(first|refine Ctl ?_|(with_reducible first|(refine Kof.use hK ?_;clear hK hE K E)|(refine Kof.use hKh ?_;clear hKh Kh)|refine G_plan 4 [] [0,1,2,3,4,5,6,7,8] hQe fun K E hK hE=>?_)|((with_reducible refine W_cond (fun h=>?_) (fun h=>?_))<;>(try(exfalso;assumption)))|(((with_reducible first|refine G_region fun K E hK hE=>?_|refine P_fin fun Kh hKh=>?_))<;>(try simp(disch:=omega) only[go_sem,seval,hl1,hl2,sx,sy, *]))))
    all_goals exact⟨m - 1,by omega,i+1,by omega,by omega,by omega,HD,rfl,z_sl,z_sl,z_sl⟩
   ·rw[if_neg e]at hd
    have HD:=Lib.hid hd
    have e':=eq_false e
    clear hd e
    (repeat'(first|refine Ctl ?_|(with_reducible first|(refine Kof.use hK ?_;clear hK hE K E)|(refine Kof.use hKh ?_;clear hKh Kh)|refine G_plan 4 [] [0,1,2,3,4,5,6,7,8] hQe fun K E hK hE=>?_|refine G_plan 5 [] [0,1,2,3,4,5,6,7,8,9] hQe fun K E hK hE=>?_)|((with_reducible refine W_cond (fun h=>?_) (fun h=>?_))<;>(try(exfalso;assumption)))|(((with_reducible first|refine G_region fun K E hK hE=>?_|refine P_fin fun Kh hKh=>?_))<;>(try simp(disch:=omega) only[go_sem,seval,hl1,hl2,sx,sy,e', *]))))
    all_goals(refine W_ret res85 hQ ?_)
    all_goals rw[← HD.out]
    all_goals(refine⟨_,_,Wk.of_eq ?_,?_,rfl,rfl⟩)
    all_goals first|rfl|(exact z_fg)
  ·have hd:=HH.out
   rw[List.drop_of_length_le (l:=b) (by omega),List.drop_eq_getElem_cons h1]at hd
   have hR:R=false:=hd.symm
   subst hR
   clear hd
   have hle:¬ a.length<b.length:=by omega
   (repeat'(first|refine Ctl ?_|((with_reducible refine Kof.use hK ?_);clear hK hE K E)|((with_reducible refine W_cond (fun h=>?_) (fun h=>?_))<;>(try(exfalso;assumption)))|(((with_reducible refine G_region fun K E hK hE=>?_))<;>(try simp(disch:=omega) only[go_sem,seval,hl1,hl2, *]))))
   all_goals(refine W_ret res85 hQ ?_)
   all_goals(refine⟨_,_,Wk.of_eq ?_,?_,rfl,rfl⟩)
   all_goals first|rfl|(exact z_fg)
 ·have hd:=HH.out
  have hie:i=a.length:=by omega
  rw[List.drop_of_length_le (l:=a) (by omega)]at hd
  have hR:R=decide (a.length<b.length):=by
   rw[← hd]
   by_cases h3:i<b.length
   ·rw[List.drop_eq_getElem_cons h3]
    simp[lessZ]
    omega
   ·rw[List.drop_of_length_le (by omega)]
    simp[lessZ]
    omega
  have HR2:=Lib.hid hR
  clear hd hR
  (repeat'(first|refine Ctl ?_|((with_reducible refine Kof.use hK ?_);clear hK hE K E)|((with_reducible refine W_cond (fun h=>?_) (fun h=>?_))<;>(try(exfalso;assumption)))|((first|(with_reducible refine G_region fun K E hK hE=>?_)|((with_reducible refine W_gd (fun h=>?_) (fun h=>?_))<;>(try(exfalso;omega))))<;>(try simp(disch:=omega) only[go_sem,seval,hl1,hl2, *]))))
  all_goals(refine W_ret res85 hQ ?_)
  all_goals rw[HR2.out]
  all_goals(refine⟨_,_,Wk.of_eq ?_,?_,rfl,rfl⟩)
  all_goals first|rfl|(exact z_fg)
set_option maxHeartbeats 4000000 in
theorem SameRows_S (a b:List (List Int))(o1 o2:Own)(ha:RowsOk a)(hb:RowsOk b)(t:St):SRet Tryz.prog 14 [.lst (rowsV a) o1,.lst (rowsV b) o2] t (.bool (decide (a=b))) t:=by
 have hl1:(rowsV a).length=a.length:=rowsV_len
 have hl2:(rowsV b).length=b.length:=rowsV_len
 obtain⟨ha1,ha2⟩:=ha
 obtain⟨hb1,hb2⟩:=hb
 by_cases hlen:a.length=b.length
 ·generalize hR:decide (a=b)=R
  have HR:=Lib.hid hR
  clear hR
  refine G_enter Tryz.func14 rfl Tryz.ntmps14 rfl fun Q hQ hQe=>?_
  (repeat'(first|refine Ctl ?_|((with_reducible refine Kof.use hK ?_);clear hK hE K E)|((with_reducible refine W_cond (fun h=>?_) (fun h=>?_))<;>(try(exfalso;assumption)))|(((with_reducible refine G_region fun K E hK hE=>?_))<;>(try simp(disch:=omega) only[go_sem,seval,hl1,hl2,hlen, *]))))
  refine L_loop (fun m env s'=>∃(i:Nat),i≤b.length∧m+i=b.length∧Hid (a.take i=b.take i)∧s'=t∧env 0=.lst (rowsV a) o1∧env 1=.lst (rowsV b) o2∧env 5=.int .i64 i) b.length
   ⟨0,by omega,by omega,Lib.hid rfl,rfl,z_sl,z_sl,z_sl⟩ ?_
  rintro m env s' ⟨i,hi,hm,HH,rfl,e0,e1,e5⟩
  by_cases h2:i<b.length
  ·obtain⟨x,hx⟩:∃x,a[i]?=some x:=⟨_,List.getElem?_eq_getElem (by omega)⟩
   obtain⟨y,hy⟩:∃y,b[i]?=some y:=⟨_,List.getElem?_eq_getElem h2⟩
   have sx:=rowsV_at hx
   have sy:=rowsV_at hy
   have w1:=fun s=>SameInts_S x y .no .no (by have:=ha2 x (List.mem_of_getElem? hx);omega) (by have:=hb2 y (List.mem_of_getElem? hy);omega) s
   have t1:a.take (i+1)=a.take i++[x]:=by rw[List.take_add_one,hx];rfl
   have t2:b.take (i+1)=b.take i++[y]:=by rw[List.take_add_one,hy];rfl
   have HT:x=y→a.take (i+1)=b.take (i+1):=fun e=>by rw[t1,t2,HH.out,e]
   have HN:¬ x=y→a≠b:=fun e=>by rintro rfl;exact e (by rw[hx]at hy;injection hy)
   clear t1 t2 hx hy
   by_cases e:x=y
   ·have HT2:=Lib.hid (HT e)
    rw[show decide (x=y)=true by simp[e]]at w1
    clear HT HN e
    (repeat'(first|refine Ctl ?_|(with_reducible first|(refine Kof.use hK ?_;clear hK hE K E)|(refine Kof.use hKh ?_;clear hKh Kh)|(refine Kof.use hKb (P_next ?_);clear hKb Kb)|refine G_plan 6 [([0,1,2,3,4,5,6,7],8,[[]])] [9] hQe fun K E hK hE=>?_)|((with_reducible refine W_cond (fun h=>?_) (fun h=>?_))<;>(try(exfalso;assumption)))|(((with_reducible first|refine G_region fun K E hK hE=>?_|refine call_ret can36 (w1 _) ?_|refine P_heads fun Kh hKh=>?_|refine P_fin fun Kh hKh=>?_|refine P_each fun Kb hKb=>?_))<;>(try simp(disch:=omega) only[go_sem,seval,hl1,hl2,sx,sy,hlen, *]))))
    all_goals exact⟨m - 1,by omega,i+1,by omega,by omega,HT2,rfl,z_sl,z_sl,z_sl⟩
   ·have hR:R=false:=by rw[← HR.out];simp[HN e]
    subst hR
    rw[show decide (x=y)=false by simp[e]]at w1
    clear HT HN e
    (repeat'(first|refine Ctl ?_|(with_reducible first|(refine Kof.use hK ?_;clear hK hE K E)|(refine Kof.use hKh ?_;clear hKh Kh)|(refine Kof.use hKb (P_next ?_);clear hKb Kb)|refine G_plan 6 [([0,1,2,3,4,5,6,7],8,[[]])] [9] hQe fun K E hK hE=>?_)|((with_reducible refine W_cond (fun h=>?_) (fun h=>?_))<;>(try(exfalso;assumption)))|(((with_reducible first|refine G_region fun K E hK hE=>?_|refine call_ret can36 (w1 _) ?_|refine P_heads fun Kh hKh=>?_|refine P_fin fun Kh hKh=>?_|refine P_each fun Kb hKb=>?_))<;>(try simp(disch:=omega) only[go_sem,seval,hl1,hl2,sx,sy,hlen, *]))))
    all_goals(refine W_ret res14 hQ ?_)
    all_goals(refine⟨_,_,Wk.of_eq ?_,?_,rfl,rfl⟩)
    all_goals first|rfl|(exact z_fg)
  ·have hR:R=true:=by
    have h3:=HH.out
    rw[List.take_of_length_le (by omega),List.take_of_length_le (by omega)]at h3
    rw[← HR.out];simp[h3]
   subst hR
   (repeat'(first|refine Ctl ?_|((with_reducible refine Kof.use hK ?_);clear hK hE K E)|((with_reducible refine W_cond (fun h=>?_) (fun h=>?_))<;>(try(exfalso;assumption)))|(((with_reducible refine G_region fun K E hK hE=>?_))<;>(try simp(disch:=omega) only[go_sem,seval,hl1,hl2,hlen, *]))))
   all_goals(refine W_ret res14 hQ ?_)
   all_goals(refine⟨_,_,Wk.of_eq ?_,?_,rfl,rfl⟩)
   all_goals first|rfl|(exact z_fg)
 ·have hR:decide (a=b)=false:=by
   have:a≠b:=fun e=>hlen (by rw[e])
   simp[this]
  rw[hR]
  have hln:((a.length:Int)=(b.length:Int))=False:=eq_false (by omega)
  clear hR
  refine G_enter Tryz.func14 rfl Tryz.ntmps14 rfl fun Q hQ hQe=>?_
  (repeat'(first|refine Ctl ?_|((with_reducible refine Kof.use hK ?_);clear hK hE K E)|((with_reducible refine W_cond (fun h=>?_) (fun h=>?_))<;>(try(exfalso;assumption)))|(((with_reducible refine G_region fun K E hK hE=>?_))<;>(try simp(disch:=omega) only[go_sem,seval,hl1,hl2,hln, *]))))
  all_goals(refine W_ret res14 hQ ?_)
  all_goals(refine⟨_,_,Wk.of_eq ?_,?_,rfl,rfl⟩)
  all_goals first|rfl|(exact z_fg)
theorem GS.wkobj {s:St}{b:Nat}{T:TypeId}{xs ys:List VV}(hb:s b=.obj T xs)(hl:ys.length=xs.length)
  (hw:∀(j:Nat) (y:VV),ys[j]?=some y→∃x,xs[j]?=some x∧Wk x y∧(x.one=true→y.one=true)):GS s (s.set b (.obj T ys)):=by
 intro w0 G w h
 have hob:=h.ok b
 rw[hb]at hob
 obtain⟨hB,hn,c,hc,hsz,hx⟩:=hob
 refine⟨h.below,h.K,h.cap,fun x=>?_,h.gl,h.rows.keep' (Gh.le.refl G) (Nat.le_refl _) (fun g _ hg=>⟨?_,rfl,fun _=>rfl⟩) (fun b' T' xs' rs' hb'=>?_)⟩
 ·by_cases e:x=b
  ·subst e
   rw[St.set_same]
   refine⟨hB,hn,c,hc,hsz.trans hl.symm,fun i y hy=>?_⟩
   obtain⟨x0,h0,h1,h2⟩:=hw i y hy
   obtain⟨h3,v,hv,hR⟩:=hx i x0 h0
   exact⟨h2 h3,v,hv,h1 G v hR⟩
  ·rw[St.set_other _ _ e];exact h.ok x
 ·rw[St.set_other _ _ (by rintro rfl;rw[hb]at hg;cases hg)];exact hg
 ·have hne:b'≠b:=by rintro rfl;rw[St.set_same]at hb';cases hb'
  rw[St.set_other _ _ hne]at hb'
  exact⟨hb',rfl⟩
theorem Kp_wkt {P:Program}{N:Nat}{D:List Deferred}{c:Code}{k:List Itm}{Q:Pst}{env:Env}{s:St}(t:Nat){x y:VV}(ht:env t=x)(hw:Wk x y)(h:Kp P N D (.code c::k) Q .norm (upd env t y) s):Kp P N D (.code c::k) Q .norm env s:=
 fun w0 G w a hfr hD hS=>h w0 G w a ⟨hfr.size,fun i=>by
  by_cases e:i=t
  ·subst e
   simp only[upd,if_true]
   exact hw _ _ (ht ▸ hfr.rel i)
  ·simp only[upd,if_neg e]
   exact hfr.rel i⟩ hD hS
theorem Fg.free {B T:St}(h:Fg B T){b:Nat}(hb:B b=.free):T b=.free:=by
 rcases h b with e|e
 ·exact e
 ·exact e.trans hb
end Go.Proofs.YtgdbgfjhenobdaaGreatDoor
