/- Walks of functions that the claim reaches, and plain facts of them. Conditions: those in the statements. -/
import Derived.Test.YtgdbgfjhenobdaaGreatDoorJmDdj
import Derived.Test.YtgdbgfjhenobdaaGreatDoorJmDc
import Derived.Test.YtgdbgfjhenobdaaGreatDoorJmPkj
import Derived.Test.YtgdbgfjhenobdaaGreatDoorJmGpj
set_option linter.unusedSimpArgs false
set_option linter.unusedVariables false
set_option maxRecDepth 100000
namespace Go.Proofs.YtgdbgfjhenobdaaGreatDoor
open Go.RowKit
structure Fcs where
 me:List (List UInt8)
 va:List (List UInt8)
 si:List (List UInt8)
 ca:List (List UInt8)
 fi:List (List UInt8)
 na:List (List UInt8)
 ow:List Int
 ho:List Int
 mn:Int
 rel:Nat→List (List Int)
def fcsC (F:Fcs):List VV:=[.lst (strs F.me) .no,.lst (strs F.va) .no,.lst (strs F.si) .no,.lst (strs F.ca) .no,.lst (strs F.fi) .no,.lst (strs F.na) .no,.lst (intsL F.ow) .no,.lst (intsL F.ho) .no,.int .i64 F.mn,.lst (rowsV (F.rel 0)) .no,.lst (rowsV (F.rel 1)) .no,.lst (rowsV (F.rel 2)) .no,.lst (rowsV (F.rel 3)) .no,.lst (rowsV (F.rel 4)) .no,.lst (rowsV (F.rel 5)) .no,.lst (rowsV (F.rel 6)) .no,.lst (rowsV (F.rel 7)) .no,.lst (rowsV (F.rel 8)) .no,.lst (rowsV (F.rel 9)) .no,.lst (rowsV (F.rel 10)) .no,.lst (rowsV (F.rel 11)) .no]
theorem fcsC_rel (F:Fcs){i:Nat}(h:i<12):(fcsC F)[9+i]?=some (.lst (rowsV (F.rel i)) .no):=by
 match i,h with
 |0,_=>rfl
 |1,_=>rfl
 |2,_=>rfl
 |3,_=>rfl
 |4,_=>rfl
 |5,_=>rfl
 |6,_=>rfl
 |7,_=>rfl
 |8,_=>rfl
 |9,_=>rfl
 |10,_=>rfl
 |11,_=>rfl
def domF (F:Fcs)(k:Nat):Int:=
 if k=0 then F.va.length else if k=1 then F.si.length else if k=2 then F.fi.length else if k=3 then F.ca.length else if k=4 then F.na.length else if k=5 then F.me.length else 8
def kindZ (i:Nat):List Nat:=([[0,1],[0,0],[0,2,0],[0,0,2],[3,0,4],[3,5],[1,4,5],[3,6,0],[5,6,0],[5,0],[5,0],[3,0]]:List (List Nat)).getD i []
def letZ (k:Nat):Nat:=([86,72,70,73,78,77,90]:List Nat).getD k 0
def szF (F:Fcs)(i:Nat):List Int:=(kindZ i).map (domF F)
def inB (sz r:List Int):Bool:=(List.range sz.length).all fun k=>decide (0≤r.getD k 0) && decide (r.getD k 0<sz.getD k 0)
def rowAt (sz:List Int)(l:List (List Int))(i:Nat):Bool:=decide ((l.getD i []).length=sz.length) && (decide (i=0) || lessZ (l.getD (i - 1) []) (l.getD i [])) && inB sz (l.getD i [])
def rowsB (sz:List Int)(l:List (List Int)):Bool:=(List.range l.length).all (rowAt sz l)
def belowB (n:Int)(l:List Int):Bool:=l.all fun x=>decide (0≤x) && decide (x<n)
def mayF (F:Fcs):Bool:=decide (F.ow.length=F.va.length) && decide (F.ho.length=F.ca.length) && belowB F.me.length F.ow && belowB F.me.length F.ho && (decide (0≤F.mn) && decide (F.mn<F.me.length)) && (List.range 12).all fun i=>rowsB (szF F i) (F.rel i)
theorem inB_no {sz r:List Int}{k:Nat}{x y:Int}(hx:r[k]?=some x)(hy:sz[k]?=some y)(h:x<0∨y≤x):inB sz r=false:=by
 unfold inB
 rw[List.all_eq_false]
 refine⟨k,List.mem_range.2 (List.getElem?_eq_some_iff.1 hy).1,?_⟩
 rw[List.getD_eq_getElem?_getD,List.getD_eq_getElem?_getD,hx,hy]
 simp
 omega
theorem inB_yes {sz r:List Int}(h:∀k:Nat,k<sz.length→∃x y,r[k]?=some x∧sz[k]?=some y∧0≤x∧x<y):inB sz r=true:=by
 unfold inB
 rw[List.all_eq_true]
 intro k hk
 obtain⟨x,y,hx,hy,h1,h2⟩:=h k (List.mem_range.1 hk)
 rw[List.getD_eq_getElem?_getD,List.getD_eq_getElem?_getD,hx,hy]
 simp
 omega
theorem rowsB_no {sz:List Int}{l:List (List Int)}{i:Nat}(hi:i<l.length)(h:rowAt sz l i=false):rowsB sz l=false:=by
 unfold rowsB
 rw[List.all_eq_false]
 exact⟨i,List.mem_range.2 hi,by rw[h];simp⟩
theorem rowsB_yes {sz:List Int}{l:List (List Int)}(h:∀i:Nat,i<l.length→rowAt sz l i=true):rowsB sz l=true:=by
 unfold rowsB
 rw[List.all_eq_true]
 exact fun i hi=>h i (List.mem_range.1 hi)
theorem belowB_no {n x:Int}{l:List Int}{i:Nat}(hx:l[i]?=some x)(h:x<0∨n≤x):belowB n l=false:=by
 unfold belowB
 rw[List.all_eq_false]
 exact⟨x,List.mem_of_getElem? hx,by simp;omega⟩
theorem belowB_yes {n:Int}{l:List Int}(h:∀(i:Nat) (x:Int),l[i]?=some x→0≤x∧x<n):belowB n l=true:=by
 unfold belowB
 rw[List.all_eq_true]
 intro x hx
 obtain⟨i,hi⟩:=List.getElem?_of_mem hx
 have:=h i x hi
 simp
 omega
theorem rowAt_eq {sz:List Int}{l:List (List Int)}{i:Nat}{r:List Int}(h:l[i]?=some r):rowAt sz l i=(decide (r.length=sz.length) && (decide (i=0) || lessZ (l.getD (i - 1) []) r) && inB sz r):=by
 unfold rowAt
 rw[List.getD_eq_getElem?_getD (i:=i),h]
 rfl
theorem rowAt_len {sz:List Int}{l:List (List Int)}{i:Nat}{r:List Int}(h:l[i]?=some r)(hl:r.length≠sz.length):rowAt sz l i=false:=by rw[rowAt_eq h];simp[hl]
theorem rowAt_less {sz:List Int}{l:List (List Int)}{i:Nat}{q r:List Int}(h:l[i+1]?=some r)(hq:l[i]?=some q)(hl:lessZ q r=false):rowAt sz l (i+1)=false:=by
 rw[rowAt_eq h,List.getD_eq_getElem?_getD,Nat.add_sub_cancel,hq];simp[hl]
theorem rowAt_in {sz:List Int}{l:List (List Int)}{i:Nat}{r:List Int}(h:l[i]?=some r)(hl:inB sz r=false):rowAt sz l i=false:=by rw[rowAt_eq h];simp[hl]
theorem rowAt_yes0 {sz:List Int}{l:List (List Int)}{r:List Int}(h:l[0]?=some r)(hl:r.length=sz.length)(hi:inB sz r=true):rowAt sz l 0=true:=by rw[rowAt_eq h];simp[hl,hi]
theorem rowAt_yes {sz:List Int}{l:List (List Int)}{i:Nat}{q r:List Int}(h:l[i+1]?=some r)(hq:l[i]?=some q)(hl:r.length=sz.length)(hs:lessZ q r=true)(hi:inB sz r=true):rowAt sz l (i+1)=true:=by
 rw[rowAt_eq h,List.getD_eq_getElem?_getD,Nat.add_sub_cancel,hq];simp[hl,hi,hs]
theorem cmp_less {q r:List Int}:(0≤cmpZ q r)=(lessZ q r=false):=by
 rw[lessZ_cmp]
 by_cases h:cmpZ q r<0
 ·simp[h]
 ·simp[h];omega
theorem Blen_S (x:Int)(s:St)(h0:0≤x)(h1:x≤18446744073709551615):SRet Tryz.prog 68 [.int .u64 x] s (.int .i64 (Lib.bitLen x.toNat)) s:=by
 intro w0 G w vs hS hA
 obtain⟨v,rfl,hr⟩:=RL_one hA
 cases hr
 refine(Tryz.bits_Len x w h0 h1).mono ?_
 rintro e w' ⟨rfl,rfl⟩
 exact⟨G,s,.ret (.int .i64 (Lib.bitLen x.toNat)),Gh.le.refl G,hS,R.int .i64 _,rfl,rfl⟩
theorem Ins1_S (l:List (List VV))(o:Own)(f:VV)(h:l.length≤1)(s:St):SRet Tryz.prog 109 [.lst l o,.int .i64 0,.int .i64 l.length,f] s (.tup []) s:=by
 have hn:((1:Int)<(l.length:Int))=False:=eq_false (by omega)
 refine G_enter Tryz.func109 rfl Tryz.ntmps109 rfl fun Q hQ hQe=>?_
 (repeat'(first|refine Ctl ?_|((with_reducible refine Kof.use hK ?_);clear hK hE K E)|(((with_reducible refine G_region fun K E hK hE=>?_))<;>(try simp(disch:=omega) only[go_sem,seval, *]))))
 refine L_loop (fun m env s'=>s'=s∧env 2=.int .i64 l.length∧env 8=.int .i64 1) 0 ⟨rfl,z_sl,z_sl⟩ ?_
 rintro m env s' ⟨rfl,e2,e8⟩
 (repeat'(first|refine Ctl ?_|((with_reducible refine Kof.use hK ?_);clear hK hE K E)|((with_reducible refine W_cond (fun h=>?_) (fun h=>?_))<;>(try(exfalso;assumption)))|(((with_reducible refine G_region fun K E hK hE=>?_))<;>(try simp(disch:=omega) only[go_sem,seval,hn, *]))))
 all_goals(refine W_norm res109 hQ ?_)
 all_goals(refine⟨_,_,Wk.of_eq ?_,?_,rfl,rfl⟩)
 all_goals first|rfl|(exact z_fg)
theorem Pdq1_S (l:List (List VV))(o:Own)(f:VV)(lim:Int)(h:l.length≤1)(s:St):SRet Tryz.prog 67 [.lst l o,.int .i64 0,.int .i64 l.length,.int .i64 lim,f] s (.tup []) s:=by
 have w1:=fun s=>Ins1_S l o f h s
 have hn:((l.length:Int)≤12)=True:=eq_true (by omega)
 have hn0:(l.length:Int) - 0=(l.length:Int):=by omega
 refine G_enter Tryz.func67 rfl Tryz.ntmps67 rfl fun Q hQ hQe=>?_
 (repeat'(first|refine Ctl ?_|((with_reducible refine Kof.use hK ?_);clear hK hE K E)|(((with_reducible refine G_region fun K E hK hE=>?_))<;>(try simp(disch:=omega) only[go_sem,seval, *]))))
 refine L_loop (fun m env s'=>s'=s∧env 0=.lst l o∧env 1=.int .i64 0∧env 2=.int .i64 l.length∧env 4=f) 0 ⟨rfl,z_sl,z_sl,z_sl,z_sl⟩ ?_
 rintro m env s' ⟨rfl,e0,e1,e2,e4⟩
 (repeat'(first|refine Ctl ?_|((with_reducible refine Kof.use hK ?_);clear hK hE K E)|((with_reducible refine W_cond (fun h=>?_) (fun h=>?_))<;>(try(exfalso;assumption)))|(((with_reducible first|refine G_region fun K E hK hE=>?_|refine call_ret can109 (w1 _) ?_))<;>(try simp(disch:=omega) only[go_sem,seval,hn,hn0, *]))))
 all_goals(refine W_ret res67 hQ ?_)
 all_goals(refine⟨_,_,Wk.of_eq ?_,?_,rfl,rfl⟩)
 all_goals first|rfl|(exact z_fg)
theorem Sort1_S (l:List (List VV))(o:Own)(f:VV)(h:l.length≤1)(s:St):SRet Tryz.prog 32 [.lst l o,f] s (.tup []) s:=by
 have w1:=fun s lim=>Pdq1_S l o f lim h s
 have w2:=fun s=>Blen_S (l.length:Int) s (by omega) (by omega)
 have hw:IntKind.u64.wrap (l.length:Int)=(l.length:Int):=by
  have:l.length=0∨l.length=1:=by omega
  rcases this with e|e<;>rw[e]<;>rfl
 refine G_enter Tryz.func32 rfl Tryz.ntmps32 rfl fun Q hQ hQe=>?_
 (repeat'(first|refine Ctl ?_|((with_reducible refine Kof.use hK ?_);clear hK hE K E)|(((with_reducible first|refine G_region fun K E hK hE=>?_|refine call_ret can67 (w1 _ _) ?_|refine call_ret can68 (w2 _) ?_))<;>(try simp(disch:=omega) only[go_sem,seval,hw, *]))))
 all_goals(refine W_norm res32 hQ ?_)
 all_goals(refine⟨_,_,Wk.of_eq ?_,?_,rfl,rfl⟩)
 all_goals first|rfl|(exact z_fg)
theorem Comp1_S (l:List (List VV))(o:Own)(f:VV)(h:l.length≤1)(s:St):SRet Tryz.prog 34 [.lst l o,f] s (.lst l o) s:=by
 have hn:((l.length:Int)<2)=True:=eq_true (by omega)
 refine G_enter Tryz.func34 rfl Tryz.ntmps34 rfl fun Q hQ hQe=>?_
 (repeat'(first|refine Ctl ?_|((with_reducible refine Kof.use hK ?_);clear hK hE K E)|((with_reducible refine W_cond (fun h=>?_) (fun h=>?_))<;>(try(exfalso;assumption)))|(((with_reducible refine G_region fun K E hK hE=>?_))<;>(try simp(disch:=omega) only[go_sem,seval,hn, *]))))
 all_goals(refine W_ret res34 hQ ?_)
 all_goals(refine⟨_,_,Wk.of_eq ?_,?_,rfl,rfl⟩)
 all_goals first|rfl|(exact z_fg)
attribute [local go_sem] disown_fl owned_fl own_fl
set_option maxHeartbeats 4000000 in
theorem Fbelow_S (l:List Int)(n:Int)(o:Own)(hl:l.length≤140737488355328)(t:St):SRet Tryz.prog 43 [.lst (intsL l) o,.int .i64 n] t (.bool (belowB n l)) t:=by
 have hll:(intsL l).length=l.length:=intsL_len
 generalize hR:belowB n l=R
 have HR:=Lib.hid hR
 clear hR
 refine G_enter Tryz.func43 rfl Tryz.ntmps43 rfl fun Q hQ hQe=>?_
 (repeat'(first|refine Ctl ?_|((with_reducible refine Kof.use hK ?_);clear hK hE K E)|(((with_reducible refine G_region fun K E hK hE=>?_))<;>(try simp(disch:=omega) only[go_sem,seval,hll, *]))))
 refine L_loop (fun m env s'=>∃(i:Nat),i≤l.length∧m+i=l.length∧Hid (∀(j:Nat) (x:Int),j<i→l[j]?=some x→0≤x∧x<n)∧s'=t∧env 0=.lst (intsL l) o∧env 1=.int .i64 n∧env 5=.int .i64 i) l.length
  ⟨0,by omega,by omega,Lib.hid (fun j x hj=>by omega),rfl,z_sl,z_sl,z_sl⟩ ?_
 rintro m env s' ⟨i,hi,hm,HH,rfl,e0,e1,e5⟩
 by_cases h1:i<l.length
 ·obtain⟨x,hx⟩:∃x,l[i]?=some x:=⟨_,List.getElem?_eq_getElem h1⟩
  have sx:=intsL_at hx
  have HX:=Lib.hid hx
  clear hx
  by_cases hneg:x<0
  ·have hF:R=false:=by rw[← HR.out];exact belowB_no HX.out (.inl hneg)
   subst hF
   (repeat'(first|refine Ctl ?_|((with_reducible refine Kof.use hK ?_);clear hK hE K E)|((with_reducible refine W_cond (fun h=>?_) (fun h=>?_))<;>(try(exfalso;assumption)))|(((with_reducible refine G_region fun K E hK hE=>?_))<;>(try simp(disch:=omega) only[go_sem,seval,hll,sx, *]))))
   all_goals(refine W_ret res43 hQ ?_)
   all_goals(refine⟨_,_,Wk.of_eq ?_,?_,rfl,rfl⟩)
   all_goals first|rfl|(exact z_fg)
  ·by_cases hge:n≤x
   ·have hF:R=false:=by rw[← HR.out];exact belowB_no HX.out (.inr hge)
    subst hF
    (repeat'(first|refine Ctl ?_|((with_reducible refine Kof.use hK ?_);clear hK hE K E)|((with_reducible refine W_cond (fun h=>?_) (fun h=>?_))<;>(try(exfalso;assumption)))|(((with_reducible refine G_region fun K E hK hE=>?_))<;>(try simp(disch:=omega) only[go_sem,seval,hll,sx, *]))))
    all_goals(refine W_ret res43 hQ ?_)
    all_goals(refine⟨_,_,Wk.of_eq ?_,?_,rfl,rfl⟩)
    all_goals first|rfl|(exact z_fg)
   ·have HN:Hid (∀(j:Nat) (y:Int),j<i+1→l[j]?=some y→0≤y∧y<n):=Lib.hid fun j y hj hy=>by
     by_cases e:j=i
     ·subst e;rw[HX.out]at hy;injection hy with hy;omega
     ·exact HH.out j y (by omega) hy
    (repeat'(first|refine Ctl ?_|((with_reducible refine Kof.use hK ?_);clear hK hE K E)|((with_reducible refine W_cond (fun h=>?_) (fun h=>?_))<;>(try(exfalso;assumption)))|(((with_reducible refine G_region fun K E hK hE=>?_))<;>(try simp(disch:=omega) only[go_sem,seval,hll,sx, *]))))
    all_goals exact⟨m - 1,by omega,i+1,by omega,by omega,HN,rfl,z_sl,z_sl,z_sl⟩
 ·have hT:R=true:=by
   rw[← HR.out]
   exact belowB_yes fun j x hx=>HH.out j x (by have:=(List.getElem?_eq_some_iff.1 hx).1;omega) hx
  subst hT
  (repeat'(first|refine Ctl ?_|((with_reducible refine Kof.use hK ?_);clear hK hE K E)|((with_reducible refine W_cond (fun h=>?_) (fun h=>?_))<;>(try(exfalso;assumption)))|(((with_reducible refine G_region fun K E hK hE=>?_))<;>(try simp(disch:=omega) only[go_sem,seval,hll, *]))))
  all_goals(refine W_ret res43 hQ ?_)
  all_goals(refine⟨_,_,Wk.of_eq ?_,?_,rfl,rfl⟩)
  all_goals first|rfl|(exact z_fg)
set_option maxHeartbeats 8000000 in
theorem Frows_S (l:List (List Int))(sz:List Int)(o1 o2:Own)(hl:RowsOk l)(hs:sz.length≤1000)(t:St):SRet Tryz.prog 44 [.lst (rowsV l) o1,.lst (intsL sz) o2] t (.bool (rowsB sz l)) t:=by
 have hll:(rowsV l).length=l.length:=rowsV_len
 have hsl:(intsL sz).length=sz.length:=intsL_len
 obtain⟨hl1,hl2⟩:=hl
 have HL2:=Lib.hid hl2
 clear hl2
 generalize hR:rowsB sz l=R
 have HR:=Lib.hid hR
 clear hR
 refine G_enter Tryz.func44 rfl Tryz.ntmps44 rfl fun Q hQ hQe=>?_
 (repeat'(first|refine Ctl ?_|((with_reducible refine Kof.use hK ?_);clear hK hE K E)|(((with_reducible refine G_region fun K E hK hE=>?_))<;>(try simp(disch:=omega) only[go_sem,seval,hll,hsl, *]))))
 refine L_loop (fun m env s'=>∃(i:Nat),i≤l.length∧m+i=l.length∧Hid (∀(j:Nat),j<i→rowAt sz l j=true)∧s'=t∧env 0=.lst (rowsV l) o1∧env 1=.lst (intsL sz) o2∧env 5=.int .i64 i) l.length
  ⟨0,by omega,by omega,Lib.hid (fun j hj=>by omega),rfl,z_sl,z_sl,z_sl⟩ ?_
 rintro m env s' ⟨i,hi,hm,HH,rfl,e0,e1,e5⟩
 by_cases h1:i<l.length
 ·obtain⟨r,hr⟩:∃x,l[i]?=some x:=⟨_,List.getElem?_eq_getElem h1⟩
  have sx:=rowsV_at hr
  have hrl:(intsL r).length=r.length:=intsL_len
  have HX:=Lib.hid hr
  have hrk:=HL2.out r (List.mem_of_getElem? hr)
  clear hr
  have key:∀b:Bool,Hid (rowAt sz l i=b)→(b=false→R=false)∧(b=true→Hid (∀(j:Nat),j<i+1→rowAt sz l j=true)):=fun b hb=>⟨fun h=>by subst h;rw[← HR.out];exact rowsB_no h1 hb.out,fun h=>by
   subst h
   exact Lib.hid fun j hj=>by
    by_cases e:j=i
    ·subst e;exact hb.out
    ·exact HH.out j (by omega)⟩
  have KEY:=Lib.hid key
  clear key
  by_cases hlen:r.length=sz.length
  ·have hli:((r.length:Int)=(sz.length:Int))=True:=eq_true (by omega)
   have hls:((sz.length:Int)=(sz.length:Int))=True:=eq_true rfl
   have hend:Hid (inB sz r=false→rowAt sz l i=false):=Lib.hid (rowAt_in HX.out)
   have hst:(((0<(i:Int))=False)∧Hid (inB sz r=true→rowAt sz l i=true))∨∃(j:Nat) (q:List Int),((0<(i:Int))=True)∧((i:Int) - 1=(j:Int))∧j<l.length∧Hid (i=j+1)∧l[j]?=some q:=by
    cases i with
    |zero=>exact .inl ⟨eq_false (by omega),Lib.hid (rowAt_yes0 HX.out hlen)⟩
    |succ j=>exact .inr ⟨j,_,eq_true (by omega),by omega,by omega,Lib.hid rfl,List.getElem?_eq_getElem (by omega)⟩
   rcases hst with ⟨hz,HY⟩|⟨j,q,hz,hs1,hjl,HIJ,hq⟩
   case' inl=>(repeat'(first|refine Ctl ?_|(with_reducible first|(refine Kof.use hK ?_;clear hK hE K E)|(refine Kof.use hKh ?_;clear hKh Kh)|(refine Kof.use hKb (P_next ?_);clear hKb Kb)|refine G_plan 4 [([0,1,2,3,4,5,6,7,8,9,10,11,12,13,14,15,16,17,18,19,20],21,[[]])] [22,23,24] hQe fun K E hK hE=>?_)|((with_reducible refine W_cond (fun h=>?_) (fun h=>?_))<;>(try(exfalso;assumption)))|(((with_reducible first|refine G_region fun K E hK hE=>?_|refine P_heads fun Kh hKh=>?_|refine P_fin fun Kh hKh=>?_|refine P_each fun Kb hKb=>?_))<;>(try simp(disch:=omega) only[go_sem,seval,hll,hsl,hrl,sx,hli,hz, *]))))
   case' inr=>
    have sq:=rowsV_at hq
    have hqk:=HL2.out q (List.mem_of_getElem? hq)
    have w1:=fun s=>Less_S q r .no .no hqk hrk s
    have HQ:=Lib.hid hq
    clear hq
    cases hB:lessZ q r
    case' false=>
     have hF:=(KEY.out false (Lib.hid (by have:=HX.out;rw[HIJ.out]at this ⊢;exact rowAt_less this HQ.out hB))).1 rfl
     subst hF
     rw[hB]at w1
     clear hB
     (repeat'(first|refine Ctl ?_|(with_reducible first|(refine Kof.use hK ?_;clear hK hE K E)|(refine Kof.use hKh ?_;clear hKh Kh)|(refine Kof.use hKb (P_next ?_);clear hKb Kb)|refine G_plan 4 [([0,1,2,3,4,5,6,7,8,9,10,11,12,13,14,15,16,17,18,19,20],21,[[]])] [22,23,24] hQe fun K E hK hE=>?_)|((with_reducible refine W_cond (fun h=>?_) (fun h=>?_))<;>(try(exfalso;assumption)))|(((with_reducible first|refine G_region fun K E hK hE=>?_|refine call_ret can85 (w1 _) ?_|refine P_heads fun Kh hKh=>?_|refine P_fin fun Kh hKh=>?_|refine P_each fun Kb hKb=>?_))<;>(try simp(disch:=omega) only[go_sem,seval,hll,hsl,hrl,sx,sq,hli,hz,hs1, *]))))
     all_goals(refine W_ret res44 hQ ?_)
     all_goals(refine⟨_,_,Wk.of_eq ?_,?_,rfl,rfl⟩)
     all_goals first|rfl|(exact z_fg)
    case' true=>
     have HY:Hid (inB sz r=true→rowAt sz l i=true):=Lib.hid (by have:=HX.out;rw[HIJ.out]at this ⊢;exact rowAt_yes this HQ.out hlen hB)
     rw[hB]at w1
     clear hB
     (repeat'(first|refine Ctl ?_|(with_reducible first|(refine Kof.use hK ?_;clear hK hE K E)|(refine Kof.use hKh ?_;clear hKh Kh)|(refine Kof.use hKb (P_next ?_);clear hKb Kb)|refine G_plan 4 [([0,1,2,3,4,5,6,7,8,9,10,11,12,13,14,15,16,17,18,19,20],21,[[]])] [22,23,24] hQe fun K E hK hE=>?_)|((with_reducible refine W_cond (fun h=>?_) (fun h=>?_))<;>(try(exfalso;assumption)))|(((with_reducible first|refine G_region fun K E hK hE=>?_|refine call_ret can85 (w1 _) ?_|refine P_heads fun Kh hKh=>?_|refine P_fin fun Kh hKh=>?_|refine P_each fun Kb hKb=>?_))<;>(try simp(disch:=omega) only[go_sem,seval,hll,hsl,hrl,sx,sq,hli,hz,hs1, *]))))
     clear w1 hs1 sq hjl HQ
   all_goals
    clear hz
    refine L_loop (fun m2 env s2=>∃(k:Nat),k≤sz.length∧m2+k=sz.length∧Hid (∀(j:Nat),j<k→∃x y,r[j]?=some x∧sz[j]?=some y∧0≤x∧x<y)∧s2=s'∧env 0=.lst (rowsV l) o1∧env 1=.lst (intsL sz) o2∧env 5=.int .i64 i∧env 6=.int .i64 k) sz.length
     ⟨0,by omega,by omega,Lib.hid (fun j hj=>by omega),rfl,z_sl,z_sl,z_sl,z_sl⟩ ?_
    clear e0 e1 e5 env
    rintro m2 env s2 ⟨k,hk,hm2,HK,rfl,e0,e1,e5,e6⟩
    by_cases hkl:k<sz.length
    ·obtain⟨x,hx⟩:∃x,r[k]?=some x:=⟨_,List.getElem?_eq_getElem (by omega)⟩
     obtain⟨y,hy⟩:=uget hkl
     have sk:=intsL_at hx
     have sy:=intsL_at hy
     have HXK:=Lib.hid hx
     have HYK:=Lib.hid hy
     clear hx hy
     by_cases hneg:x<0
     ·have hF:=(KEY.out false (Lib.hid (hend.out (inB_no HXK.out HYK.out (.inl hneg))))).1 rfl
      subst hF
      (repeat'(first|refine Ctl ?_|(with_reducible first|(refine Kof.use hK ?_;clear hK hE K E)|(refine Kof.use hKh ?_;clear hKh Kh)|refine G_plan 9 [] [0,1,2,3,4,5,6,7,8,9,10,11,12,13,14,15,16,17,18,19,20,21] hQe fun K E hK hE=>?_)|((with_reducible refine W_cond (fun h=>?_) (fun h=>?_))<;>(try(exfalso;assumption)))|(((with_reducible first|refine G_region fun K E hK hE=>?_|refine P_fin fun Kh hKh=>?_))<;>(try simp(disch:=omega) only[go_sem,seval,hll,hsl,hrl,sx,sk,sy, *]))))
      all_goals(refine W_ret res44 hQ ?_)
      all_goals(refine⟨_,_,Wk.of_eq ?_,?_,rfl,rfl⟩)
      all_goals first|rfl|(exact z_fg)
     ·by_cases hge:y≤x
      ·have hF:=(KEY.out false (Lib.hid (hend.out (inB_no HXK.out HYK.out (.inr hge))))).1 rfl
       subst hF
       (repeat'(first|refine Ctl ?_|(with_reducible first|(refine Kof.use hK ?_;clear hK hE K E)|(refine Kof.use hKh ?_;clear hKh Kh)|refine G_plan 9 [] [0,1,2,3,4,5,6,7,8,9,10,11,12,13,14,15,16,17,18,19,20,21] hQe fun K E hK hE=>?_)|((with_reducible refine W_cond (fun h=>?_) (fun h=>?_))<;>(try(exfalso;assumption)))|(((with_reducible first|refine G_region fun K E hK hE=>?_|refine P_fin fun Kh hKh=>?_))<;>(try simp(disch:=omega) only[go_sem,seval,hll,hsl,hrl,sx,sk,sy, *]))))
       all_goals(refine W_ret res44 hQ ?_)
       all_goals(refine⟨_,_,Wk.of_eq ?_,?_,rfl,rfl⟩)
       all_goals first|rfl|(exact z_fg)
      ·have HN:Hid (∀(j:Nat),j<k+1→∃x y,r[j]?=some x∧sz[j]?=some y∧0≤x∧x<y):=Lib.hid fun j hj=>by
        by_cases e:j=k
        ·subst e;exact⟨x,y,HXK.out,HYK.out,by omega,by omega⟩
        ·exact HK.out j (by omega)
       (repeat'(first|refine Ctl ?_|(with_reducible first|(refine Kof.use hK ?_;clear hK hE K E)|(refine Kof.use hKh ?_;clear hKh Kh)|refine G_plan 9 [] [0,1,2,3,4,5,6,7,8,9,10,11,12,13,14,15,16,17,18,19,20,21] hQe fun K E hK hE=>?_)|((with_reducible refine W_cond (fun h=>?_) (fun h=>?_))<;>(try(exfalso;assumption)))|(((with_reducible first|refine G_region fun K E hK hE=>?_|refine P_fin fun Kh hKh=>?_))<;>(try simp(disch:=omega) only[go_sem,seval,hll,hsl,hrl,sx,sk,sy, *]))))
       all_goals exact⟨m2 - 1,by omega,k+1,by omega,by omega,HN,rfl,z_sl,z_sl,z_sl,z_sl⟩
    ·have HN:=(KEY.out true (Lib.hid (HY.out (inB_yes fun j hj=>HK.out j (by omega))))).2 rfl
     (repeat'(first|refine Ctl ?_|((with_reducible refine Kof.use hK ?_);clear hK hE K E)|((with_reducible refine W_cond (fun h=>?_) (fun h=>?_))<;>(try(exfalso;assumption)))|(((with_reducible refine G_region fun K E hK hE=>?_))<;>(try simp(disch:=omega) only[go_sem,seval,hll,hsl,hrl, *]))))
     all_goals exact⟨m - 1,by omega,i+1,by omega,by omega,HN,rfl,z_sl,z_sl,z_sl⟩
  ·have hF:=(KEY.out false (Lib.hid (rowAt_len HX.out hlen))).1 rfl
   subst hF
   have hli:((r.length:Int)=(sz.length:Int))=False:=eq_false (by omega)
   (repeat'(first|refine Ctl ?_|(with_reducible first|(refine Kof.use hK ?_;clear hK hE K E)|(refine Kof.use hKh ?_;clear hKh Kh)|(refine Kof.use hKb (P_next ?_);clear hKb Kb)|refine G_plan 4 [([0,1,2,3,4,5,6,7,8,9,10,11,12,13,14,15,16,17,18,19,20],21,[[]])] [22,23,24] hQe fun K E hK hE=>?_)|((with_reducible refine W_cond (fun h=>?_) (fun h=>?_))<;>(try(exfalso;assumption)))|(((with_reducible first|refine G_region fun K E hK hE=>?_|refine P_heads fun Kh hKh=>?_|refine P_fin fun Kh hKh=>?_|refine P_each fun Kb hKb=>?_))<;>(try simp(disch:=omega) only[go_sem,seval,hll,hsl,hrl,sx,hli, *]))))
   all_goals(refine W_ret res44 hQ ?_)
   all_goals(refine⟨_,_,Wk.of_eq ?_,?_,rfl,rfl⟩)
   all_goals first|rfl|(exact z_fg)
 ·have hT:R=true:=by
   rw[← HR.out]
   exact rowsB_yes fun j hj=>HH.out j (by omega)
  subst hT
  (repeat'(first|refine Ctl ?_|((with_reducible refine Kof.use hK ?_);clear hK hE K E)|((with_reducible refine W_cond (fun h=>?_) (fun h=>?_))<;>(try(exfalso;assumption)))|(((with_reducible refine G_region fun K E hK hE=>?_))<;>(try simp(disch:=omega) only[go_sem,seval,hll,hsl, *]))))
  all_goals(refine W_ret res44 hQ ?_)
  all_goals(refine⟨_,_,Wk.of_eq ?_,?_,rfl,rfl⟩)
  all_goals first|rfl|(exact z_fg)
end Go.Proofs.YtgdbgfjhenobdaaGreatDoor
namespace Go.Proofs.YtgdbgfjhenobdaaGreatDoor
open Go.RowKit
attribute [local go_sem] disown_fl owned_fl own_fl
def FSm (F:Fcs):Prop:=F.me.length≤1024∧F.va.length≤1024∧F.si.length≤1024∧F.ca.length≤1024∧F.fi.length≤1024∧F.na.length≤1024∧F.ow.length≤1024∧F.ho.length≤1024∧∀i,i<12→(F.rel i).length≤400∧∀r,r∈F.rel i→r.length≤8
theorem FSm.row {F:Fcs}(h:FSm F){i:Nat}(hi:i<12):RowsOk (F.rel i):=by
 obtain⟨h1,h2⟩:=h.2.2.2.2.2.2.2.2 i hi
 exact⟨by omega,fun r hr=>by have:=h2 r hr;omega⟩
theorem strsf_len (l:List (List UInt8)):(strs l).length=l.length:=by simp[strs]
theorem mayF_no {F:Fcs}{i:Nat}(hi:i<12)(h:rowsB (szF F i) (F.rel i)=false):mayF F=false:=by
 unfold mayF
 have:((List.range 12).all fun i=>rowsB (szF F i) (F.rel i))=false:=by
  rw[List.all_eq_false]
  exact⟨i,List.mem_range.2 hi,by rw[h];simp⟩
 rw[this,Bool.and_false]
theorem mayF_c1 {F:Fcs}(h:¬ F.ow.length=F.va.length):mayF F=false:=by unfold mayF;simp[h]
theorem mayF_c2 {F:Fcs}(h:¬ F.ho.length=F.ca.length):mayF F=false:=by unfold mayF;simp[h]
theorem mayF_c3 {F:Fcs}(h:belowB F.me.length F.ow=false):mayF F=false:=by unfold mayF;simp[h]
theorem mayF_c4 {F:Fcs}(h:belowB F.me.length F.ho=false):mayF F=false:=by unfold mayF;simp[h]
theorem mayF_c5 {F:Fcs}(h:F.mn<0):mayF F=false:=by
 have:¬ 0≤F.mn:=by omega
 unfold mayF;simp[this]
theorem mayF_c6 {F:Fcs}(h:(F.me.length:Int)≤F.mn):mayF F=false:=by
 have:¬ F.mn<F.me.length:=by omega
 unfold mayF;simp[this]
theorem mayF_yes {F:Fcs}(h1:F.ow.length=F.va.length)(h2:F.ho.length=F.ca.length)(h3:belowB F.me.length F.ow=true)(h4:belowB F.me.length F.ho=true)(h5:¬ F.mn<0)(h6:¬ (F.me.length:Int)≤F.mn)(h:∀i,i<12→rowsB (szF F i) (F.rel i)=true):mayF F=true:=by
 have:((List.range 12).all fun i=>rowsB (szF F i) (F.rel i))=true:=by
  rw[List.all_eq_true]
  exact fun i hi=>h i (List.mem_range.1 hi)
 have e5:0≤F.mn:=by omega
 have e6:F.mn<F.me.length:=by omega
 unfold mayF
 rw[this]
 simp[h1,h2,h3,h4,e5,e6]
theorem all12 {P:Nat→Prop}(h0:P 0)(h1:P 1)(h2:P 2)(h3:P 3)(h4:P 4)(h5:P 5)(h6:P 6)(h7:P 7)(h8:P 8)(h9:P 9)(h10:P 10)(h11:P 11):∀i,i<12→P i:=fun i h=>by
 match i,h with
 |0,_=>exact h0
 |1,_=>exact h1
 |2,_=>exact h2
 |3,_=>exact h3
 |4,_=>exact h4
 |5,_=>exact h5
 |6,_=>exact h6
 |7,_=>exact h7
 |8,_=>exact h8
 |9,_=>exact h9
 |10,_=>exact h10
 |11,_=>exact h11
set_option maxHeartbeats 16000000 in
theorem Fmay18_S (F:Fcs)(hF:FSm F)(t:St):SRet Tryz.prog 18 [.agg (fcsC F)] t (.bool (mayF F)) t:=by
 obtain⟨a1,a2,a3,a4,a5,a6,a7,a8,_⟩:=id hF
 have g1:=strsf_len F.me
 have g2:=strsf_len F.va
 have g3:=strsf_len F.si
 have g4:=strsf_len F.ca
 have g5:=strsf_len F.fi
 have g6:=strsf_len F.na
 have g7:(intsL F.ow).length=F.ow.length:=intsL_len
 have g8:(intsL F.ho).length=F.ho.length:=intsL_len
 have v1:=fun s=>Fbelow_S F.ow F.me.length .no (by omega) s
 have v2:=fun s=>Fbelow_S F.ho F.me.length .no (by omega) s
 have w0:∀s,SRet Tryz.prog 44 [.lst (rowsV (F.rel 0)) .no,.lst [[.int .i64 (F.va.length:Int)],[.int .i64 (F.si.length:Int)]] .full] s (.bool (rowsB (szF F 0) (F.rel 0))) s:=fun s=>Frows_S (F.rel 0) (szF F 0) .no .full (hF.row (by omega)) (by simp[szF,kindZ]) s
 have w1:∀s,SRet Tryz.prog 44 [.lst (rowsV (F.rel 1)) .no,.lst [[.int .i64 (F.va.length:Int)],[.int .i64 (F.va.length:Int)]] .full] s (.bool (rowsB (szF F 1) (F.rel 1))) s:=fun s=>Frows_S (F.rel 1) (szF F 1) .no .full (hF.row (by omega)) (by simp[szF,kindZ]) s
 have w2:∀s,SRet Tryz.prog 44 [.lst (rowsV (F.rel 2)) .no,.lst [[.int .i64 (F.va.length:Int)],[.int .i64 (F.fi.length:Int)],[.int .i64 (F.va.length:Int)]] .full] s (.bool (rowsB (szF F 2) (F.rel 2))) s:=fun s=>Frows_S (F.rel 2) (szF F 2) .no .full (hF.row (by omega)) (by simp[szF,kindZ]) s
 have w3:∀s,SRet Tryz.prog 44 [.lst (rowsV (F.rel 3)) .no,.lst [[.int .i64 (F.va.length:Int)],[.int .i64 (F.va.length:Int)],[.int .i64 (F.fi.length:Int)]] .full] s (.bool (rowsB (szF F 3) (F.rel 3))) s:=fun s=>Frows_S (F.rel 3) (szF F 3) .no .full (hF.row (by omega)) (by simp[szF,kindZ]) s
 have w4:∀s,SRet Tryz.prog 44 [.lst (rowsV (F.rel 4)) .no,.lst [[.int .i64 (F.ca.length:Int)],[.int .i64 (F.va.length:Int)],[.int .i64 (F.na.length:Int)]] .full] s (.bool (rowsB (szF F 4) (F.rel 4))) s:=fun s=>Frows_S (F.rel 4) (szF F 4) .no .full (hF.row (by omega)) (by simp[szF,kindZ]) s
 have w5:∀s,SRet Tryz.prog 44 [.lst (rowsV (F.rel 5)) .no,.lst [[.int .i64 (F.ca.length:Int)],[.int .i64 (F.me.length:Int)]] .full] s (.bool (rowsB (szF F 5) (F.rel 5))) s:=fun s=>Frows_S (F.rel 5) (szF F 5) .no .full (hF.row (by omega)) (by simp[szF,kindZ]) s
 have w6:∀s,SRet Tryz.prog 44 [.lst (rowsV (F.rel 6)) .no,.lst [[.int .i64 (F.si.length:Int)],[.int .i64 (F.na.length:Int)],[.int .i64 (F.me.length:Int)]] .full] s (.bool (rowsB (szF F 6) (F.rel 6))) s:=fun s=>Frows_S (F.rel 6) (szF F 6) .no .full (hF.row (by omega)) (by simp[szF,kindZ]) s
 have w7:∀s,SRet Tryz.prog 44 [.lst (rowsV (F.rel 7)) .no,.lst [[.int .i64 (F.ca.length:Int)],[.int .i64 8],[.int .i64 (F.va.length:Int)]] .full] s (.bool (rowsB (szF F 7) (F.rel 7))) s:=fun s=>Frows_S (F.rel 7) (szF F 7) .no .full (hF.row (by omega)) (by simp[szF,kindZ]) s
 have w8:∀s,SRet Tryz.prog 44 [.lst (rowsV (F.rel 8)) .no,.lst [[.int .i64 (F.me.length:Int)],[.int .i64 8],[.int .i64 (F.va.length:Int)]] .full] s (.bool (rowsB (szF F 8) (F.rel 8))) s:=fun s=>Frows_S (F.rel 8) (szF F 8) .no .full (hF.row (by omega)) (by simp[szF,kindZ]) s
 have w9:∀s,SRet Tryz.prog 44 [.lst (rowsV (F.rel 9)) .no,.lst [[.int .i64 (F.me.length:Int)],[.int .i64 (F.va.length:Int)]] .full] s (.bool (rowsB (szF F 9) (F.rel 9))) s:=fun s=>Frows_S (F.rel 9) (szF F 9) .no .full (hF.row (by omega)) (by simp[szF,kindZ]) s
 have w10:∀s,SRet Tryz.prog 44 [.lst (rowsV (F.rel 10)) .no,.lst [[.int .i64 (F.me.length:Int)],[.int .i64 (F.va.length:Int)]] .full] s (.bool (rowsB (szF F 10) (F.rel 10))) s:=fun s=>Frows_S (F.rel 10) (szF F 10) .no .full (hF.row (by omega)) (by simp[szF,kindZ]) s
 have w11:∀s,SRet Tryz.prog 44 [.lst (rowsV (F.rel 11)) .no,.lst [[.int .i64 (F.ca.length:Int)],[.int .i64 (F.va.length:Int)]] .full] s (.bool (rowsB (szF F 11) (F.rel 11))) s:=fun s=>Frows_S (F.rel 11) (szF F 11) .no .full (hF.row (by omega)) (by simp[szF,kindZ]) s
 have HNO:=Lib.hid (fun(i:Nat) (hi:i<12) (h:rowsB (szF F i) (F.rel i)=false)=>mayF_no hi h)
 have HC1:=Lib.hid (fun h=>mayF_c1 (F:=F) h)
 have HC2:=Lib.hid (fun h=>mayF_c2 (F:=F) h)
 have HC3:=Lib.hid (fun h=>mayF_c3 (F:=F) h)
 have HC4:=Lib.hid (fun h=>mayF_c4 (F:=F) h)
 have HC5:=Lib.hid (fun h=>mayF_c5 (F:=F) h)
 have HC6:=Lib.hid (fun h=>mayF_c6 (F:=F) h)
 have HY:=Lib.hid (fun h1 h2 h3 h4 h5 h6 h=>mayF_yes (F:=F) h1 h2 h3 h4 h5 h6 h)
 generalize hR:mayF F=R at *
 clear hR hF
 generalize hb0:rowsB (szF F 0) (F.rel 0)=r0 at w0
 have HB0:=Lib.hid hb0
 clear hb0
 generalize hb1:rowsB (szF F 1) (F.rel 1)=r1 at w1
 have HB1:=Lib.hid hb1
 clear hb1
 generalize hb2:rowsB (szF F 2) (F.rel 2)=r2 at w2
 have HB2:=Lib.hid hb2
 clear hb2
 generalize hb3:rowsB (szF F 3) (F.rel 3)=r3 at w3
 have HB3:=Lib.hid hb3
 clear hb3
 generalize hb4:rowsB (szF F 4) (F.rel 4)=r4 at w4
 have HB4:=Lib.hid hb4
 clear hb4
 generalize hb5:rowsB (szF F 5) (F.rel 5)=r5 at w5
 have HB5:=Lib.hid hb5
 clear hb5
 generalize hb6:rowsB (szF F 6) (F.rel 6)=r6 at w6
 have HB6:=Lib.hid hb6
 clear hb6
 generalize hb7:rowsB (szF F 7) (F.rel 7)=r7 at w7
 have HB7:=Lib.hid hb7
 clear hb7
 generalize hb8:rowsB (szF F 8) (F.rel 8)=r8 at w8
 have HB8:=Lib.hid hb8
 clear hb8
 generalize hb9:rowsB (szF F 9) (F.rel 9)=r9 at w9
 have HB9:=Lib.hid hb9
 clear hb9
 generalize hb10:rowsB (szF F 10) (F.rel 10)=r10 at w10
 have HB10:=Lib.hid hb10
 clear hb10
 generalize hb11:rowsB (szF F 11) (F.rel 11)=r11 at w11
 have HB11:=Lib.hid hb11
 clear hb11
 generalize hc3:belowB F.me.length F.ow=c3 at v1
 have HB12:=Lib.hid hc3
 clear hc3
 generalize hc4:belowB F.me.length F.ho=c4 at v2
 have HB13:=Lib.hid hc4
 clear hc4
 obtain⟨me,va,si,ca,fi,na,ow,ho,mn,rel⟩:=F
 simp only[fcsC]at *
 generalize rowsV (rel 0)=R0 at *
 generalize rowsV (rel 1)=R1 at *
 generalize rowsV (rel 2)=R2 at *
 generalize rowsV (rel 3)=R3 at *
 generalize rowsV (rel 4)=R4 at *
 generalize rowsV (rel 5)=R5 at *
 generalize rowsV (rel 6)=R6 at *
 generalize rowsV (rel 7)=R7 at *
 generalize rowsV (rel 8)=R8 at *
 generalize rowsV (rel 9)=R9 at *
 generalize rowsV (rel 10)=R10 at *
 generalize rowsV (rel 11)=R11 at *
 generalize strs me=Me at *
 generalize strs va=Va at *
 generalize strs si=Si at *
 generalize strs ca=Ca at *
 generalize strs fi=Fi at *
 generalize strs na=Na at *
 generalize intsL ow=Ow at *
 generalize intsL ho=Ho at *
 refine G_enter Tryz.func18 rfl Tryz.ntmps18 rfl fun Q hQ hQe=>?_
 by_cases h1:ow.length=va.length
 rotate_left
 ·have hF:=HC1.out h1
  have hn:((ow.length:Int)=(va.length:Int))=False:=eq_false (by omega)
  subst hF
  (repeat'(first|refine Ctl ?_|(with_reducible first|(refine Kof.use hK ?_;clear hK hE K E)|(refine Kof.use hKh ?_;clear hKh Kh)|refine G_plan 1 [] [0,1,2,3,4,5,6,7,8,9,10,11,12,13,14,15,16,17,18,19,20,21,22,23] hQe fun K E hK hE=>?_)|((with_reducible refine W_cond (fun h=>?_) (fun h=>?_))<;>(try(exfalso;assumption)))|((first|(with_reducible first|refine G_region fun K E hK hE=>?_|refine P_fin fun Kh hKh=>?_)|((with_reducible refine W_fresh (fun b hb=>?_))))<;>(try simp(disch:=omega) only[go_sem,seval,List.append_eq,g1,g2,g3,g4,g5,g6,g7,g8,hn, *]))))
  all_goals(refine W_ret res18 hQ ?_)
  all_goals(refine⟨_,_,Wk.of_eq ?_,?_,rfl,rfl⟩)
  all_goals first|rfl|(exact z_fg)
 have hn1:((ow.length:Int)=(va.length:Int))=True:=eq_true (by omega)
 by_cases h2:ho.length=ca.length
 rotate_left
 ·have hF:=HC2.out h2
  have hn:((ho.length:Int)=(ca.length:Int))=False:=eq_false (by omega)
  subst hF
  (repeat'(first|refine Ctl ?_|(with_reducible first|(refine Kof.use hK ?_;clear hK hE K E)|(refine Kof.use hKh ?_;clear hKh Kh)|refine G_plan 1 [] [0,1,2,3,4,5,6,7,8,9,10,11,12,13,14,15,16,17,18,19,20,21,22,23] hQe fun K E hK hE=>?_)|((with_reducible refine W_cond (fun h=>?_) (fun h=>?_))<;>(try(exfalso;assumption)))|((first|(with_reducible first|refine G_region fun K E hK hE=>?_|refine P_fin fun Kh hKh=>?_)|((with_reducible refine W_fresh (fun b hb=>?_))))<;>(try simp(disch:=omega) only[go_sem,seval,List.append_eq,g1,g2,g3,g4,g5,g6,g7,g8,hn1,hn, *]))))
  all_goals(refine W_ret res18 hQ ?_)
  all_goals(refine⟨_,_,Wk.of_eq ?_,?_,rfl,rfl⟩)
  all_goals first|rfl|(exact z_fg)
 have hn2:((ho.length:Int)=(ca.length:Int))=True:=eq_true (by omega)
 have H1:=Lib.hid h1
 have H2:=Lib.hid h2
 clear h1 h2
 cases c3
 ·have hF:=HC3.out HB12.out
  subst hF
  (repeat'(first|refine Ctl ?_|(with_reducible first|(refine Kof.use hK ?_;clear hK hE K E)|(refine Kof.use hKh ?_;clear hKh Kh)|refine G_plan 1 [] [0,1,2,3,4,5,6,7,8,9,10,11,12,13,14,15,16,17,18,19,20,21,22,23] hQe fun K E hK hE=>?_)|((with_reducible refine W_cond (fun h=>?_) (fun h=>?_))<;>(try(exfalso;assumption)))|((first|(with_reducible first|refine G_region fun K E hK hE=>?_|refine call_ret can43 (v1 _) ?_|refine P_fin fun Kh hKh=>?_)|((with_reducible refine W_fresh (fun b hb=>?_))))<;>(try simp(disch:=omega) only[go_sem,seval,List.append_eq,g1,g2,g3,g4,g5,g6,g7,g8,hn1,hn2, *]))))
  all_goals(refine W_ret res18 hQ ?_)
  all_goals(refine⟨_,_,Wk.of_eq ?_,?_,rfl,rfl⟩)
  all_goals first|rfl|(exact z_fg)
 cases c4
 ·have hF:=HC4.out HB13.out
  subst hF
  (repeat'(first|refine Ctl ?_|(with_reducible first|(refine Kof.use hK ?_;clear hK hE K E)|(refine Kof.use hKh ?_;clear hKh Kh)|refine G_plan 1 [] [0,1,2,3,4,5,6,7,8,9,10,11,12,13,14,15,16,17,18,19,20,21,22,23] hQe fun K E hK hE=>?_)|((with_reducible refine W_cond (fun h=>?_) (fun h=>?_))<;>(try(exfalso;assumption)))|((first|(with_reducible first|refine G_region fun K E hK hE=>?_|refine call_ret can43 (v1 _) ?_|refine call_ret can43 (v2 _) ?_|refine P_fin fun Kh hKh=>?_)|((with_reducible refine W_fresh (fun b hb=>?_))))<;>(try simp(disch:=omega) only[go_sem,seval,List.append_eq,g1,g2,g3,g4,g5,g6,g7,g8,hn1,hn2, *]))))
  all_goals(refine W_ret res18 hQ ?_)
  all_goals(refine⟨_,_,Wk.of_eq ?_,?_,rfl,rfl⟩)
  all_goals first|rfl|(exact z_fg)
 by_cases h5:mn<0
 ·have hF:=HC5.out h5
  subst hF
  (repeat'(first|refine Ctl ?_|(with_reducible first|(refine Kof.use hK ?_;clear hK hE K E)|(refine Kof.use hKh ?_;clear hKh Kh)|refine G_plan 1 [] [0,1,2,3,4,5,6,7,8,9,10,11,12,13,14,15,16,17,18,19,20,21,22,23] hQe fun K E hK hE=>?_)|((with_reducible refine W_cond (fun h=>?_) (fun h=>?_))<;>(try(exfalso;assumption)))|((first|(with_reducible first|refine G_region fun K E hK hE=>?_|refine call_ret can43 (v1 _) ?_|refine call_ret can43 (v2 _) ?_|refine P_fin fun Kh hKh=>?_)|((with_reducible refine W_fresh (fun b hb=>?_))))<;>(try simp(disch:=omega) only[go_sem,seval,List.append_eq,g1,g2,g3,g4,g5,g6,g7,g8,hn1,hn2, *]))))
  all_goals(refine W_ret res18 hQ ?_)
  all_goals(refine⟨_,_,Wk.of_eq ?_,?_,rfl,rfl⟩)
  all_goals first|rfl|(exact z_fg)
 by_cases h6:(me.length:Int)≤mn
 ·have hF:=HC6.out h6
  subst hF
  (repeat'(first|refine Ctl ?_|(with_reducible first|(refine Kof.use hK ?_;clear hK hE K E)|(refine Kof.use hKh ?_;clear hKh Kh)|refine G_plan 1 [] [0,1,2,3,4,5,6,7,8,9,10,11,12,13,14,15,16,17,18,19,20,21,22,23] hQe fun K E hK hE=>?_)|((with_reducible refine W_cond (fun h=>?_) (fun h=>?_))<;>(try(exfalso;assumption)))|((first|(with_reducible first|refine G_region fun K E hK hE=>?_|refine call_ret can43 (v1 _) ?_|refine call_ret can43 (v2 _) ?_|refine P_fin fun Kh hKh=>?_)|((with_reducible refine W_fresh (fun b hb=>?_))))<;>(try simp(disch:=omega) only[go_sem,seval,List.append_eq,g1,g2,g3,g4,g5,g6,g7,g8,hn1,hn2, *]))))
  all_goals(refine W_ret res18 hQ ?_)
  all_goals(refine⟨_,_,Wk.of_eq ?_,?_,rfl,rfl⟩)
  all_goals first|rfl|(exact z_fg)
 cases r0
 ·have hF:=HNO.out 0 (by omega) HB0.out
  subst hF
  (repeat'(first|refine Ctl ?_|(with_reducible first|(refine Kof.use hK ?_;clear hK hE K E)|(refine Kof.use hKh ?_;clear hKh Kh)|refine G_plan 1 [] [0,1,2,3,4,5,6,7,8,9,10,11,12,13,14,15,16,17,18,19,20,21,22,23] hQe fun K E hK hE=>?_)|((with_reducible refine W_cond (fun h=>?_) (fun h=>?_))<;>(try(exfalso;assumption)))|((first|(with_reducible first|refine G_region fun K E hK hE=>?_|refine call_ret can43 (v1 _) ?_|refine call_ret can43 (v2 _) ?_|refine call_ret can44 (w0 _) ?_|refine P_fin fun Kh hKh=>?_)|((with_reducible refine W_fresh (fun b hb=>?_))))<;>(try simp(disch:=omega) only[go_sem,seval,List.append_eq,g1,g2,g3,g4,g5,g6,g7,g8,hn1,hn2, *]))))
  all_goals(refine W_ret res18 hQ ?_)
  all_goals(refine⟨_,_,Wk.of_eq ?_,?_,rfl,rfl⟩)
  all_goals first|rfl|(exact z_fg)
 cases r1
 ·have hF:=HNO.out 1 (by omega) HB1.out
  subst hF
  (repeat'(first|refine Ctl ?_|(with_reducible first|(refine Kof.use hK ?_;clear hK hE K E)|(refine Kof.use hKh ?_;clear hKh Kh)|refine G_plan 1 [] [0,1,2,3,4,5,6,7,8,9,10,11,12,13,14,15,16,17,18,19,20,21,22,23] hQe fun K E hK hE=>?_)|((with_reducible refine W_cond (fun h=>?_) (fun h=>?_))<;>(try(exfalso;assumption)))|((first|(with_reducible first|refine G_region fun K E hK hE=>?_|refine call_ret can43 (v1 _) ?_|refine call_ret can43 (v2 _) ?_|refine call_ret can44 (w0 _) ?_|refine call_ret can44 (w1 _) ?_|refine P_fin fun Kh hKh=>?_)|((with_reducible refine W_fresh (fun b hb=>?_))))<;>(try simp(disch:=omega) only[go_sem,seval,List.append_eq,g1,g2,g3,g4,g5,g6,g7,g8,hn1,hn2, *]))))
  all_goals(refine W_ret res18 hQ ?_)
  all_goals(refine⟨_,_,Wk.of_eq ?_,?_,rfl,rfl⟩)
  all_goals first|rfl|(exact z_fg)
 cases r2
 ·have hF:=HNO.out 2 (by omega) HB2.out
  subst hF
  (repeat'(first|refine Ctl ?_|(with_reducible first|(refine Kof.use hK ?_;clear hK hE K E)|(refine Kof.use hKh ?_;clear hKh Kh)|refine G_plan 1 [] [0,1,2,3,4,5,6,7,8,9,10,11,12,13,14,15,16,17,18,19,20,21,22,23] hQe fun K E hK hE=>?_)|((with_reducible refine W_cond (fun h=>?_) (fun h=>?_))<;>(try(exfalso;assumption)))|((first|(with_reducible first|refine G_region fun K E hK hE=>?_|refine call_ret can43 (v1 _) ?_|refine call_ret can43 (v2 _) ?_|refine call_ret can44 (w0 _) ?_|refine call_ret can44 (w1 _) ?_|refine call_ret can44 (w2 _) ?_|refine P_fin fun Kh hKh=>?_)|((with_reducible refine W_fresh (fun b hb=>?_))))<;>(try simp(disch:=omega) only[go_sem,seval,List.append_eq,g1,g2,g3,g4,g5,g6,g7,g8,hn1,hn2, *]))))
  all_goals(refine W_ret res18 hQ ?_)
  all_goals(refine⟨_,_,Wk.of_eq ?_,?_,rfl,rfl⟩)
  all_goals first|rfl|(exact z_fg)
 cases r3
 ·have hF:=HNO.out 3 (by omega) HB3.out
  subst hF
  (repeat'(first|refine Ctl ?_|(with_reducible first|(refine Kof.use hK ?_;clear hK hE K E)|(refine Kof.use hKh ?_;clear hKh Kh)|refine G_plan 1 [] [0,1,2,3,4,5,6,7,8,9,10,11,12,13,14,15,16,17,18,19,20,21,22,23] hQe fun K E hK hE=>?_)|((with_reducible refine W_cond (fun h=>?_) (fun h=>?_))<;>(try(exfalso;assumption)))|((first|(with_reducible first|refine G_region fun K E hK hE=>?_|refine call_ret can43 (v1 _) ?_|refine call_ret can43 (v2 _) ?_|refine call_ret can44 (w0 _) ?_|refine call_ret can44 (w1 _) ?_|refine call_ret can44 (w2 _) ?_|refine call_ret can44 (w3 _) ?_|refine P_fin fun Kh hKh=>?_)|((with_reducible refine W_fresh (fun b hb=>?_))))<;>(try simp(disch:=omega) only[go_sem,seval,List.append_eq,g1,g2,g3,g4,g5,g6,g7,g8,hn1,hn2, *]))))
  all_goals(refine W_ret res18 hQ ?_)
  all_goals(refine⟨_,_,Wk.of_eq ?_,?_,rfl,rfl⟩)
  all_goals first|rfl|(exact z_fg)
 cases r4
 ·have hF:=HNO.out 4 (by omega) HB4.out
  subst hF
  (repeat'(first|refine Ctl ?_|(with_reducible first|(refine Kof.use hK ?_;clear hK hE K E)|(refine Kof.use hKh ?_;clear hKh Kh)|refine G_plan 1 [] [0,1,2,3,4,5,6,7,8,9,10,11,12,13,14,15,16,17,18,19,20,21,22,23] hQe fun K E hK hE=>?_)|((with_reducible refine W_cond (fun h=>?_) (fun h=>?_))<;>(try(exfalso;assumption)))|((first|(with_reducible first|refine G_region fun K E hK hE=>?_|refine call_ret can43 (v1 _) ?_|refine call_ret can43 (v2 _) ?_|refine call_ret can44 (w0 _) ?_|refine call_ret can44 (w1 _) ?_|refine call_ret can44 (w2 _) ?_|refine call_ret can44 (w3 _) ?_|refine call_ret can44 (w4 _) ?_|refine P_fin fun Kh hKh=>?_)|((with_reducible refine W_fresh (fun b hb=>?_))))<;>(try simp(disch:=omega) only[go_sem,seval,List.append_eq,g1,g2,g3,g4,g5,g6,g7,g8,hn1,hn2, *]))))
  all_goals(refine W_ret res18 hQ ?_)
  all_goals(refine⟨_,_,Wk.of_eq ?_,?_,rfl,rfl⟩)
  all_goals first|rfl|(exact z_fg)
 cases r5
 ·have hF:=HNO.out 5 (by omega) HB5.out
  subst hF
  (repeat'(first|refine Ctl ?_|(with_reducible first|(refine Kof.use hK ?_;clear hK hE K E)|(refine Kof.use hKh ?_;clear hKh Kh)|refine G_plan 1 [] [0,1,2,3,4,5,6,7,8,9,10,11,12,13,14,15,16,17,18,19,20,21,22,23] hQe fun K E hK hE=>?_)|((with_reducible refine W_cond (fun h=>?_) (fun h=>?_))<;>(try(exfalso;assumption)))|((first|(with_reducible first|refine G_region fun K E hK hE=>?_|refine call_ret can43 (v1 _) ?_|refine call_ret can43 (v2 _) ?_|refine call_ret can44 (w0 _) ?_|refine call_ret can44 (w1 _) ?_|refine call_ret can44 (w2 _) ?_|refine call_ret can44 (w3 _) ?_|refine call_ret can44 (w4 _) ?_|refine call_ret can44 (w5 _) ?_|refine P_fin fun Kh hKh=>?_)|((with_reducible refine W_fresh (fun b hb=>?_))))<;>(try simp(disch:=omega) only[go_sem,seval,List.append_eq,g1,g2,g3,g4,g5,g6,g7,g8,hn1,hn2, *]))))
  all_goals(refine W_ret res18 hQ ?_)
  all_goals(refine⟨_,_,Wk.of_eq ?_,?_,rfl,rfl⟩)
  all_goals first|rfl|(exact z_fg)
 cases r6
 ·have hF:=HNO.out 6 (by omega) HB6.out
  subst hF
  (repeat'(first|refine Ctl ?_|(with_reducible first|(refine Kof.use hK ?_;clear hK hE K E)|(refine Kof.use hKh ?_;clear hKh Kh)|refine G_plan 1 [] [0,1,2,3,4,5,6,7,8,9,10,11,12,13,14,15,16,17,18,19,20,21,22,23] hQe fun K E hK hE=>?_)|((with_reducible refine W_cond (fun h=>?_) (fun h=>?_))<;>(try(exfalso;assumption)))|((first|(with_reducible first|refine G_region fun K E hK hE=>?_|refine call_ret can43 (v1 _) ?_|refine call_ret can43 (v2 _) ?_|refine call_ret can44 (w0 _) ?_|refine call_ret can44 (w1 _) ?_|refine call_ret can44 (w2 _) ?_|refine call_ret can44 (w3 _) ?_|refine call_ret can44 (w4 _) ?_|refine call_ret can44 (w5 _) ?_|refine call_ret can44 (w6 _) ?_|refine P_fin fun Kh hKh=>?_)|((with_reducible refine W_fresh (fun b hb=>?_))))<;>(try simp(disch:=omega) only[go_sem,seval,List.append_eq,g1,g2,g3,g4,g5,g6,g7,g8,hn1,hn2, *]))))
  all_goals(refine W_ret res18 hQ ?_)
  all_goals(refine⟨_,_,Wk.of_eq ?_,?_,rfl,rfl⟩)
  all_goals first|rfl|(exact z_fg)
 cases r7
 ·have hF:=HNO.out 7 (by omega) HB7.out
  subst hF
  (repeat'(first|refine Ctl ?_|(with_reducible first|(refine Kof.use hK ?_;clear hK hE K E)|(refine Kof.use hKh ?_;clear hKh Kh)|refine G_plan 1 [] [0,1,2,3,4,5,6,7,8,9,10,11,12,13,14,15,16,17,18,19,20,21,22,23] hQe fun K E hK hE=>?_)|((with_reducible refine W_cond (fun h=>?_) (fun h=>?_))<;>(try(exfalso;assumption)))|((first|(with_reducible first|refine G_region fun K E hK hE=>?_|refine call_ret can43 (v1 _) ?_|refine call_ret can43 (v2 _) ?_|refine call_ret can44 (w0 _) ?_|refine call_ret can44 (w1 _) ?_|refine call_ret can44 (w2 _) ?_|refine call_ret can44 (w3 _) ?_|refine call_ret can44 (w4 _) ?_|refine call_ret can44 (w5 _) ?_|refine call_ret can44 (w6 _) ?_|refine call_ret can44 (w7 _) ?_|refine P_fin fun Kh hKh=>?_)|((with_reducible refine W_fresh (fun b hb=>?_))))<;>(try simp(disch:=omega) only[go_sem,seval,List.append_eq,g1,g2,g3,g4,g5,g6,g7,g8,hn1,hn2, *]))))
  all_goals(refine W_ret res18 hQ ?_)
  all_goals(refine⟨_,_,Wk.of_eq ?_,?_,rfl,rfl⟩)
  all_goals first|rfl|(exact z_fg)
 cases r8
 ·have hF:=HNO.out 8 (by omega) HB8.out
  subst hF
  (repeat'(first|refine Ctl ?_|(with_reducible first|(refine Kof.use hK ?_;clear hK hE K E)|(refine Kof.use hKh ?_;clear hKh Kh)|refine G_plan 1 [] [0,1,2,3,4,5,6,7,8,9,10,11,12,13,14,15,16,17,18,19,20,21,22,23] hQe fun K E hK hE=>?_)|((with_reducible refine W_cond (fun h=>?_) (fun h=>?_))<;>(try(exfalso;assumption)))|((first|(with_reducible first|refine G_region fun K E hK hE=>?_|refine call_ret can43 (v1 _) ?_|refine call_ret can43 (v2 _) ?_|refine call_ret can44 (w0 _) ?_|refine call_ret can44 (w1 _) ?_|refine call_ret can44 (w2 _) ?_|refine call_ret can44 (w3 _) ?_|refine call_ret can44 (w4 _) ?_|refine call_ret can44 (w5 _) ?_|refine call_ret can44 (w6 _) ?_|refine call_ret can44 (w7 _) ?_|refine call_ret can44 (w8 _) ?_|refine P_fin fun Kh hKh=>?_)|((with_reducible refine W_fresh (fun b hb=>?_))))<;>(try simp(disch:=omega) only[go_sem,seval,List.append_eq,g1,g2,g3,g4,g5,g6,g7,g8,hn1,hn2, *]))))
  all_goals(refine W_ret res18 hQ ?_)
  all_goals(refine⟨_,_,Wk.of_eq ?_,?_,rfl,rfl⟩)
  all_goals first|rfl|(exact z_fg)
 cases r9
 ·have hF:=HNO.out 9 (by omega) HB9.out
  subst hF
  (repeat'(first|refine Ctl ?_|(with_reducible first|(refine Kof.use hK ?_;clear hK hE K E)|(refine Kof.use hKh ?_;clear hKh Kh)|refine G_plan 1 [] [0,1,2,3,4,5,6,7,8,9,10,11,12,13,14,15,16,17,18,19,20,21,22,23] hQe fun K E hK hE=>?_)|((with_reducible refine W_cond (fun h=>?_) (fun h=>?_))<;>(try(exfalso;assumption)))|((first|(with_reducible first|refine G_region fun K E hK hE=>?_|refine call_ret can43 (v1 _) ?_|refine call_ret can43 (v2 _) ?_|refine call_ret can44 (w0 _) ?_|refine call_ret can44 (w1 _) ?_|refine call_ret can44 (w2 _) ?_|refine call_ret can44 (w3 _) ?_|refine call_ret can44 (w4 _) ?_|refine call_ret can44 (w5 _) ?_|refine call_ret can44 (w6 _) ?_|refine call_ret can44 (w7 _) ?_|refine call_ret can44 (w8 _) ?_|refine call_ret can44 (w9 _) ?_|refine P_fin fun Kh hKh=>?_)|((with_reducible refine W_fresh (fun b hb=>?_))))<;>(try simp(disch:=omega) only[go_sem,seval,List.append_eq,g1,g2,g3,g4,g5,g6,g7,g8,hn1,hn2, *]))))
  all_goals(refine W_ret res18 hQ ?_)
  all_goals(refine⟨_,_,Wk.of_eq ?_,?_,rfl,rfl⟩)
  all_goals first|rfl|(exact z_fg)
 cases r10
 ·have hF:=HNO.out 10 (by omega) HB10.out
  subst hF
  (repeat'(first|refine Ctl ?_|(with_reducible first|(refine Kof.use hK ?_;clear hK hE K E)|(refine Kof.use hKh ?_;clear hKh Kh)|refine G_plan 1 [] [0,1,2,3,4,5,6,7,8,9,10,11,12,13,14,15,16,17,18,19,20,21,22,23] hQe fun K E hK hE=>?_)|((with_reducible refine W_cond (fun h=>?_) (fun h=>?_))<;>(try(exfalso;assumption)))|((first|(with_reducible first|refine G_region fun K E hK hE=>?_|refine call_ret can43 (v1 _) ?_|refine call_ret can43 (v2 _) ?_|refine call_ret can44 (w0 _) ?_|refine call_ret can44 (w1 _) ?_|refine call_ret can44 (w2 _) ?_|refine call_ret can44 (w3 _) ?_|refine call_ret can44 (w4 _) ?_|refine call_ret can44 (w5 _) ?_|refine call_ret can44 (w6 _) ?_|refine call_ret can44 (w7 _) ?_|refine call_ret can44 (w8 _) ?_|refine call_ret can44 (w9 _) ?_|refine call_ret can44 (w10 _) ?_|refine P_fin fun Kh hKh=>?_)|((with_reducible refine W_fresh (fun b hb=>?_))))<;>(try simp(disch:=omega) only[go_sem,seval,List.append_eq,g1,g2,g3,g4,g5,g6,g7,g8,hn1,hn2, *]))))
  all_goals(refine W_ret res18 hQ ?_)
  all_goals(refine⟨_,_,Wk.of_eq ?_,?_,rfl,rfl⟩)
  all_goals first|rfl|(exact z_fg)
 cases r11
 ·have hF:=HNO.out 11 (by omega) HB11.out
  subst hF
  (repeat'(first|refine Ctl ?_|(with_reducible first|(refine Kof.use hK ?_;clear hK hE K E)|(refine Kof.use hKh ?_;clear hKh Kh)|refine G_plan 1 [] [0,1,2,3,4,5,6,7,8,9,10,11,12,13,14,15,16,17,18,19,20,21,22,23] hQe fun K E hK hE=>?_)|((with_reducible refine W_cond (fun h=>?_) (fun h=>?_))<;>(try(exfalso;assumption)))|((first|(with_reducible first|refine G_region fun K E hK hE=>?_|refine call_ret can43 (v1 _) ?_|refine call_ret can43 (v2 _) ?_|refine call_ret can44 (w0 _) ?_|refine call_ret can44 (w1 _) ?_|refine call_ret can44 (w2 _) ?_|refine call_ret can44 (w3 _) ?_|refine call_ret can44 (w4 _) ?_|refine call_ret can44 (w5 _) ?_|refine call_ret can44 (w6 _) ?_|refine call_ret can44 (w7 _) ?_|refine call_ret can44 (w8 _) ?_|refine call_ret can44 (w9 _) ?_|refine call_ret can44 (w10 _) ?_|refine call_ret can44 (w11 _) ?_|refine P_fin fun Kh hKh=>?_)|((with_reducible refine W_fresh (fun b hb=>?_))))<;>(try simp(disch:=omega) only[go_sem,seval,List.append_eq,g1,g2,g3,g4,g5,g6,g7,g8,hn1,hn2, *]))))
  all_goals(refine W_ret res18 hQ ?_)
  all_goals(refine⟨_,_,Wk.of_eq ?_,?_,rfl,rfl⟩)
  all_goals first|rfl|(exact z_fg)
 have hF:=HY.out H1.out H2.out HB12.out HB13.out h5 h6 (all12 HB0.out HB1.out HB2.out HB3.out HB4.out HB5.out HB6.out HB7.out HB8.out HB9.out HB10.out HB11.out)
 subst hF
 (repeat'(first|refine Ctl ?_|(with_reducible first|(refine Kof.use hK ?_;clear hK hE K E)|(refine Kof.use hKh ?_;clear hKh Kh)|refine G_plan 1 [] [0,1,2,3,4,5,6,7,8,9,10,11,12,13,14,15,16,17,18,19,20,21,22,23] hQe fun K E hK hE=>?_)|((with_reducible refine W_cond (fun h=>?_) (fun h=>?_))<;>(try(exfalso;assumption)))|((first|(with_reducible first|refine G_region fun K E hK hE=>?_|refine call_ret can43 (v1 _) ?_|refine call_ret can43 (v2 _) ?_|refine call_ret can44 (w0 _) ?_|refine call_ret can44 (w1 _) ?_|refine call_ret can44 (w2 _) ?_|refine call_ret can44 (w3 _) ?_|refine call_ret can44 (w4 _) ?_|refine call_ret can44 (w5 _) ?_|refine call_ret can44 (w6 _) ?_|refine call_ret can44 (w7 _) ?_|refine call_ret can44 (w8 _) ?_|refine call_ret can44 (w9 _) ?_|refine call_ret can44 (w10 _) ?_|refine call_ret can44 (w11 _) ?_|refine P_fin fun Kh hKh=>?_)|((with_reducible refine W_fresh (fun b hb=>?_))))<;>(try simp(disch:=omega) only[go_sem,seval,List.append_eq,g1,g2,g3,g4,g5,g6,g7,g8,hn1,hn2, *]))))
 all_goals(refine W_ret res18 hQ ?_)
 all_goals(refine⟨_,_,Wk.of_eq ?_,?_,rfl,rfl⟩)
 all_goals first|rfl|(exact z_fg)
end Go.Proofs.YtgdbgfjhenobdaaGreatDoor
namespace Go.Proofs.YtgdbgfjhenobdaaGreatDoor
open Go.RowKit
attribute [local go_sem] disown_fl owned_fl own_fl
section
variable {s : St} {b : Nat}
theorem p_uu0 {a e sz bt sz2 bt2:Nat}{zo:Bool}{zz z2:List VV}{zo2:Bool}{t:Int}{n:Int} :
  vupC ⟨.map a e,sz,bt,zo,zz⟩ ⟨.int .u8,sz2,bt2,zo2,z2⟩ b (.int .u8 t) (.int .i64 n) s (.map [])=some (s.set b (.map (mpU [(t,n)]))):=p_uuI (l:=[])
end
attribute [local go_sem] p_uu0
def szM (F:Fcs):List (Int×Int):=[(86,F.va.length),(72,F.si.length),(70,F.fi.length),(73,F.ca.length),(78,F.na.length),(77,F.me.length),(90,8)]
set_option maxHeartbeats 8000000 in
theorem Psizes_S (F:Fcs)(t:St):SCalls Tryz.prog 17 [.agg (fcsC F)] t fun w u=>∃b:Nat,w=.ret (.mp b)∧u=t.set b (.map (mpU (szM F)))∧t b=.free:=by
 have g1:=strsf_len F.me
 have g2:=strsf_len F.va
 have g3:=strsf_len F.si
 have g4:=strsf_len F.ca
 have g5:=strsf_len F.fi
 have g6:=strsf_len F.na
 have hz:szM F=ptU 90 8 (ptU 77 F.me.length (ptU 78 F.na.length (ptU 73 F.ca.length (ptU 70 F.fi.length (ptU 72 F.si.length [(86,(F.va.length:Int))]))))):=rfl
 rw[hz]
 clear hz
 obtain⟨me,va,si,ca,fi,na,ow,ho,mn,rel⟩:=F
 simp only[fcsC]at *
 generalize strs me=Me at *
 generalize strs va=Va at *
 generalize strs si=Si at *
 generalize strs ca=Ca at *
 generalize strs fi=Fi at *
 generalize strs na=Na at *
 refine G_enter Tryz.func17 rfl Tryz.ntmps17 rfl fun Q hQ hQe=>?_
 (repeat'(first|refine Ctl ?_|((with_reducible refine Kof.use hK ?_);clear hK hE K E)|((first|(with_reducible refine G_region fun K E hK hE=>?_)|((with_reducible refine W_fresh (fun b hb=>?_));(repeat(obtain⟨_,hb⟩:=hb))))<;>(try simp(disch:=omega) only[go_sem,seval,g1,g2,g3,g4,g5,g6, *]))))
 all_goals(refine W_ret res17 hQ ?_)
 rename_i b1 hb1 n1 n2
 exact⟨_,_,Wk.refl _,Fg.set (Fg.of_set _ hb1) _ _,b,rfl,rfl,hb⟩
def ptrL (b i:Nat):List (List VV):=(List.range 12).map fun k=>[.ptr b (i+9+k)]
theorem ptrL_len {b i:Nat}:(ptrL b i).length=12:=by simp[ptrL]
theorem ptrL_at {b i k:Nat}(h:k<12):(ptrL b i)[k]?=some [.ptr b (i+9+k)]:=by
 unfold ptrL
 rw[List.getElem?_map,List.getElem?_range h]
 rfl
theorem Pall_S (b i:Nat)(t:St):SRet Tryz.prog 21 [.ptr b i] t (.lst (ptrL b i) .full) t:=by
 refine G_enter Tryz.func21 rfl Tryz.ntmps21 rfl fun Q hQ hQe=>?_
 (repeat'(first|refine Ctl ?_|(with_reducible first|(refine Kof.use hK ?_;clear hK hE K E)|(refine Kof.use hKh ?_;clear hKh Kh)|refine G_plan 1 [] [0,1,2,3,4,5,6,7,8,9,10,11,12,13,14,15,16,17,18,19,20,21,22,23,24,25,26,27,28,29,30,31,32,33,34,35,36,37] hQe fun K E hK hE=>?_)|(((with_reducible first|refine G_region fun K E hK hE=>?_|refine P_fin fun Kh hKh=>?_))<;>(try simp(disch:=omega) only[go_sem,seval, *]))))
 all_goals(refine W_ret res21 hQ ?_)
 all_goals(refine⟨_,_,Wk.of_eq ?_,?_,rfl,rfl⟩)
 all_goals first|rfl|(exact z_fg)
theorem Pmay11_S (t:St)(b:Nat)(n x:Int)(hb:t b=.obj 3 [.int .i64 n]):SRet Tryz.prog 39 [.int .i64 x,.ptr b 0] t (.bool (decide (x<0) || decide (n≤x))) t:=by
 have hbf:t b≠.free:=by rw[hb];simp
 by_cases h:x<0
 ·have hd:decide (x<0)=true:=by simp[h]
  rw[hd,Bool.true_or]
  clear hd
  refine G_enter Tryz.func39 rfl Tryz.ntmps39 rfl fun Q hQ hQe=>?_
  (repeat'(first|refine Ctl ?_|((with_reducible refine Kof.use hK ?_);clear hK hE K E)|(((with_reducible refine G_region fun K E hK hE=>?_))<;>(try simp(disch:=omega) only[go_sem,seval, *]))))
  all_goals(refine W_ret res39 hQ ?_)
  all_goals(refine⟨_,_,Wk.of_eq ?_,?_,rfl,rfl⟩)
  all_goals first|rfl|(exact z_fg)
 ·have hd:decide (x<0)=false:=by simp[h]
  rw[hd,Bool.false_or]
  clear hd
  refine G_enter Tryz.func39 rfl Tryz.ntmps39 rfl fun Q hQ hQe=>?_
  (repeat'(first|refine Ctl ?_|((with_reducible refine Kof.use hK ?_);clear hK hE K E)|(((with_reducible refine G_region fun K E hK hE=>?_))<;>(try simp(disch:=omega) only[go_sem,seval, *]))))
  all_goals(refine W_ret res39 hQ ?_)
  all_goals(refine⟨_,_,Wk.of_eq ?_,?_,rfl,rfl⟩)
  all_goals first|rfl|(exact z_fg)
set_option maxHeartbeats 4000000 in
theorem Pidx_S (t:St)(b:Nat)(n:Int)(l:List Int)(o:Own)(hb:t b=.obj 3 [.int .i64 n])(hl:l.length≤140737488355328):SCalls Tryz.prog 70 [.lst (intsL l) o,.fn 39 [.ptr b 0]] t fun w u=>∃r:Int,w=.ret (.int .i64 r)∧u=t∧decide (0≤r)=!belowB n l:=by
 have hlen:(intsL l).length=l.length:=intsL_len
 refine G_enter Tryz.func70 rfl Tryz.ntmps70 rfl fun Q hQ hQe=>?_
 (repeat'(first|refine Ctl ?_|((with_reducible refine Kof.use hK ?_);clear hK hE K E)|(((with_reducible refine G_region fun K E hK hE=>?_))<;>(try simp(disch:=omega) only[go_sem,seval,hlen, *]))))
 refine L_loop (fun m env s'=>∃i:Nat,i≤l.length∧m+i=l.length∧s'=t∧Hid (∀(j:Nat) (x:Int),j<i→l[j]?=some x→0≤x∧x<n)∧env 0=.lst (intsL l) o∧env 1=.fn 39 [.ptr b 0]∧env 7=.int .i64 l.length∧env 8=.int .i64 i) l.length
  ⟨0,by omega,by omega,rfl,Lib.hid (fun j x hj=>by omega),z_sl,z_sl,z_sl,z_sl⟩ ?_
 rintro m env s' ⟨i,hi,hm,rfl,HE,e0,e1,e7,e8⟩
 by_cases hlt:i<l.length
 ·obtain⟨x,hx⟩:=uget hlt
  have hsx:=intsL_at hx
  have w1:=Pmay11_S s' b n x hb
  have HX:=Lib.hid hx
  clear hx
  cases hB:(decide (x<0) || decide (n≤x))
  ·rw[hB]at w1
   have HN:Hid (∀(j:Nat) (y:Int),j<i+1→l[j]?=some y→0≤y∧y<n):=Lib.hid fun j y hj hy=>by
    by_cases e:j=i
    ·subst e;rw[HX.out]at hy;injection hy with hy;subst hy;simp at hB;omega
    ·exact HE.out j y (by omega) hy
   clear hB
   (repeat'(first|refine Ctl ?_|((with_reducible refine Kof.use hK ?_);clear hK hE K E)|((with_reducible refine W_cond (fun h=>?_) (fun h=>?_))<;>(try(exfalso;assumption)))|(((with_reducible first|refine G_region fun K E hK hE=>?_|refine call_ret can39 (w1) ?_))<;>(try simp(disch:=omega) only[go_sem,seval,hlen,hsx, *]))))
   all_goals exact⟨m - 1,by omega,i+1,by omega,by omega,rfl,HN,z_sl,z_sl,z_sl,z_sl⟩
  ·rw[hB]at w1
   have HF:Hid (belowB n l=false):=Lib.hid (belowB_no HX.out (by simp at hB;exact hB))
   clear hB
   (repeat'(first|refine Ctl ?_|((with_reducible refine Kof.use hK ?_);clear hK hE K E)|((with_reducible refine W_cond (fun h=>?_) (fun h=>?_))<;>(try(exfalso;assumption)))|(((with_reducible first|refine G_region fun K E hK hE=>?_|refine call_ret can39 (w1) ?_))<;>(try simp(disch:=omega) only[go_sem,seval,hlen,hsx, *]))))
   all_goals(refine W_ret res70 hQ ?_)
   all_goals exact⟨_,_,Wk.refl _,Fg.refl _,_,rfl,rfl,by rw[HF.out];simp⟩
 ·have HT:Hid (belowB n l=true):=Lib.hid (belowB_yes fun j x hx=>HE.out j x (by have:=(List.getElem?_eq_some_iff.1 hx).1;omega) hx)
  (repeat'(first|refine Ctl ?_|((with_reducible refine Kof.use hK ?_);clear hK hE K E)|((with_reducible refine W_cond (fun h=>?_) (fun h=>?_))<;>(try(exfalso;assumption)))|(((with_reducible refine G_region fun K E hK hE=>?_))<;>(try simp(disch:=omega) only[go_sem,seval,hlen, *]))))
  all_goals(refine W_ret res70 hQ ?_)
  all_goals exact⟨_,_,Wk.refl _,Fg.refl _,_,rfl,rfl,by rw[HT.out];simp⟩
theorem Pcont_S (t:St)(b:Nat)(n:Int)(l:List Int)(o:Own)(hb:t b=.obj 3 [.int .i64 n])(hl:l.length≤140737488355328):SRet Tryz.prog 38 [.lst (intsL l) o,.fn 39 [.ptr b 0]] t (.bool (!belowB n l)) t:=by
 have w1:=Pidx_S t b n l o hb hl
 generalize (!belowB n l)=R at *
 refine G_enter Tryz.func38 rfl Tryz.ntmps38 rfl fun Q hQ hQe=>?_
 (repeat'(first|refine Ctl ?_|((with_reducible refine Kof.use hK ?_);clear hK hE K E)|((first|(with_reducible refine G_region fun K E hK hE=>?_)|((with_reducible refine call_ex can70 (w1) (fun a h=>?_))))<;>(try simp(disch:=omega) only[go_sem,seval, *]))))
 all_goals(refine W_ret res38 hQ ?_)
 all_goals(refine⟨_,_,Wk.of_eq ?_,?_,rfl,rfl⟩)
 all_goals first|rfl|(exact z_fg)
theorem Pmay1_S (t:St)(n:Int)(l:List Int)(o:Own)(hl:l.length≤140737488355328):SRet Tryz.prog 37 [.lst (intsL l) o,.int .i64 n] t (.bool (belowB n l)) t:=by
 have w1:=fun(s:St) b hb=>Pcont_S s b n l o hb hl
 refine G_enter Tryz.func37 rfl Tryz.ntmps37 rfl fun Q hQ hQe=>?_
 (repeat'(first|refine Ctl ?_|((with_reducible refine Kof.use hK ?_);clear hK hE K E)|((first|(with_reducible first|refine G_region fun K E hK hE=>?_|refine call_ret can38 (w1 _ _ z_sl) ?_)|((with_reducible refine W_fresh (fun b hb=>?_))))<;>(try simp(disch:=omega) only[go_sem,seval, *]))))
 all_goals(refine W_ret res37 hQ ?_)
 all_goals(refine⟨_,_,Wk.of_eq ?_,?_,rfl,rfl⟩)
 all_goals first|(rw[Bool.not_not])|(exact z_fg)
end Go.Proofs.YtgdbgfjhenobdaaGreatDoor
namespace Go.Proofs.YtgdbgfjhenobdaaGreatDoor
open Go.RowKit
attribute [local go_sem] disown_fl owned_fl own_fl
theorem Wk.rowsD {l l':List (List VV)}{o:Own}(hl:l'.length=l.length)
  (hw:∀(i:Nat) (x':List VV),l'[i]?=some x'→∃x,l[i]?=some x∧x'.length=x.length∧∀(j:Nat) (y':VV),x'[j]?=some y'→∃y,x[j]?=some y∧Wk y y'∧(y.one=true→y'.one=true)):Wk (.lst l o) (.lst l' .no):=fun G v h=>by
 generalize hq:VV.lst l o=q at h
 cases h with
 |emp a cap o2 ho=>
  injection hq with hq1 hq2;subst hq1;subst hq2
  obtain rfl:l'=[]:=List.eq_nil_of_length_eq_zero hl
  exact .emp _ _ _ (.inl rfl)
 |lst b' off len cap sz' xs' o f hl2 hc' hz h1' hK hR' ho'=>
  injection hq with hq1 hq2;subst hq1;subst hq2
  refine .lst b' off len cap sz' l' _ f (hl.trans hl2) hc' (fun x hx=>?_) (fun x hx y hy=>?_) hK (fun i j x y hx hy=>?_) (.inl rfl)
  ·obtain⟨i,hi⟩:=List.getElem?_of_mem hx
   obtain⟨x0,h0,h2,_⟩:=hw i x hi
   rw[← hz x0 (List.mem_of_getElem? h0),h2]
  ·obtain⟨i,hi⟩:=List.getElem?_of_mem hx
   obtain⟨j,hj⟩:=List.getElem?_of_mem hy
   obtain⟨x0,h0,_,h2⟩:=hw i x hi
   obtain⟨y0,h3,_,h5⟩:=h2 j y hj
   exact h5 (h1' x0 (List.mem_of_getElem? h0) y0 (List.mem_of_getElem? h3))
  ·obtain⟨x0,h0,_,h2⟩:=hw i x hx
   obtain⟨y0,h3,h4,_⟩:=h2 j y hy
   exact h4 G _ (hR' i j x0 y0 h0 h3)
 |_=>cases hq
inductive WkQ:List VV→List VV→Prop
 |nil:WkQ [] []
 |cons {x y:VV} {xs ys:List VV} (h:Wk x y) (h1:x.one=true→y.one=true) (t:WkQ xs ys):WkQ (x::xs) (y::ys)
theorem WkQ.len {xs ys:List VV}(h:WkQ xs ys):ys.length=xs.length:=by
 induction h with
 |nil=>rfl
 |cons h h1 t ih=>simp[ih]
theorem WkQ.get {xs ys:List VV}(h:WkQ xs ys):∀(j:Nat) (y:VV),ys[j]?=some y→∃x,xs[j]?=some x∧Wk x y∧(x.one=true→y.one=true):=by
 induction h with
 |nil=>intro j y hy;simp at hy
 |cons h h1 t ih=>
  intro j y hy
  cases j with
  |zero=>simp at hy;subst hy;exact⟨_,rfl,h,h1⟩
  |succ j=>exact ih j y (by simpa using hy)
inductive WkR:List (List VV)→List (List VV)→Prop
 |nil:WkR [] []
 |cons {x y:List VV} {xs ys:List (List VV)} (h:WkQ x y) (t:WkR xs ys):WkR (x::xs) (y::ys)
theorem WkR.len {xs ys:List (List VV)}(h:WkR xs ys):ys.length=xs.length:=by
 induction h with
 |nil=>rfl
 |cons h t ih=>simp[ih]
theorem WkR.get {xs ys:List (List VV)}(h:WkR xs ys):∀(i:Nat) (y:List VV),ys[i]?=some y→∃x,xs[i]?=some x∧WkQ x y:=by
 induction h with
 |nil=>intro j y hy;simp at hy
 |cons h t ih=>
  intro j y hy
  cases j with
  |zero=>simp at hy;subst hy;exact⟨_,rfl,h⟩
  |succ j=>exact ih j y (by simpa using hy)
theorem WkR.wk {l l':List (List VV)}{o:Own}(h:WkR l l'):Wk (.lst l o) (.lst l' .no):=Wk.rowsD h.len fun i x' hx=>by
 obtain⟨x,h1,h2⟩:=h.get i x' hx
 exact⟨x,h1,h2.len,h2.get⟩
theorem WkR.refl:∀l:List (List VV),WkR l l
 |[]=>.nil
 |x::l=>.cons (by induction x with
  |nil=>exact .nil
  |cons y x ih=>exact .cons (Wk.refl _) id ih) (WkR.refl l)
def rwF (l:List (List Int)):List (List VV):=l.map fun r=>[.lst (intsL r) .full]
theorem rwF_len {l:List (List Int)}:(rwF l).length=l.length:=by simp[rwF]
theorem rwF_wk {l:List (List Int)}:WkR (rwF l) (rowsV l):=by
 induction l with
 |nil=>exact .nil
 |cons r l ih=>exact .cons (.cons (WkR.refl _).wk id .nil) ih
def prz18 (l:List Int)(i:Nat):List (List Int):=(List.range i).map fun k:Nat=>[(k:Int),l.getD k 0]
theorem prz18_len {l:List Int}{i:Nat}:(prz18 l i).length=i:=by simp[prz18]
theorem prz18_succ {l:List Int}{i:Nat}{x:Int}(h:l[i]?=some x):rwF (prz18 l (i+1))=rwF (prz18 l i)++[[.lst [[.int .i64 (i:Int)],[.int .i64 x]] .full]]:=by
 simp[prz18,rwF,List.range_succ,List.getD_eq_getElem?_getD,h,intsL]
def tbC (t:List UInt8×List (List Int)):List VV:=[.str t.1,.lst (rowsV t.2) .no]
def tabL (F:Fcs):List (List UInt8×List (List Int)):=[([97,108,108,111,99],F.rel 0),([97,115,115,105,103,110],F.rel 1),([115,116,111,114,101],F.rel 2),([108,111,97,100],F.rel 3),([118,105,114,116,117,97,108],F.rel 4),([115,116,97,116,105,99],F.rel 5),([116,97,114,103,101,116],F.rel 6),([97,99,116,117,97,108],F.rel 7),([102,111,114,109,97,108],F.rel 8),([116,104,105,115],F.rel 9),([114,101,116],F.rel 10),([114,101,115,117,108,116],F.rel 11),([104,111,109,101],prz18 F.ho F.ho.length),([111,119,110],prz18 F.ow F.ow.length),([109,97,105,110],[[F.mn]])]
def tabV (F:Fcs):VV:=if mayF F=true then .tup [.lst ((tabL F).map tbC) .no,.int .i64 0] else .tup [.lst [] .no,.int .i64 1]
theorem Wk_tb {l l':List (List VV)}{o:Own}{e:Int}(h:WkR l l'):Wk (.tup [.lst l o,.int .i64 e]) (.tup [.lst l' .no,.int .i64 e]):=
 Wk.tup rfl fun j x y hx hy=>by
  match j with
  |0=>simp at hx hy;subst hx;subst hy;exact h.wk
  |1=>simp at hx hy;subst hx;subst hy;exact Wk.refl _
  |j+2=>simp at hx
theorem wk_t1 {n:VV}{l l':List (List VV)}{o:Own}(h:WkR l l'):WkQ [n,.lst l o] [n,.lst l' .no]:=.cons (Wk.refl _) id (.cons h.wk (fun _=>rfl) .nil)
set_option maxHeartbeats 16000000 in
theorem RTab_S (F:Fcs)(hF:FSm F)(t:St):SRet Tryz.prog 9 [.agg (fcsC F)] t (tabV F) t:=by
 have wm:=fun s=>Fmay18_S F hF s
 obtain⟨a1,a2,a3,a4,a5,a6,a7,a8,_⟩:=id hF
 have hone:(fcsC F).all VV.one=true:=rfl
 have hcl:(fcsC F).length=21:=rfl
 have hca:(fcsC F).take 21=fcsC F:=rfl
 have g7:(intsL F.ow).length=F.ow.length:=intsL_len
 have g8:(intsL F.ho).length=F.ho.length:=intsL_len
 have HAT7:=Lib.hid (fun(i:Nat) (x:Int) (h:F.ow[i]?=some x)=>intsL_at h)
 have HAT8:=Lib.hid (fun(i:Nat) (x:Int) (h:F.ho[i]?=some x)=>intsL_at h)
 have hc6:(fcsC F)[6]?=some (.lst (intsL F.ow) .no):=rfl
 have hc7:(fcsC F)[7]?=some (.lst (intsL F.ho) .no):=rfl
 have hc8:(fcsC F)[8]?=some (.int .i64 F.mn):=rfl
 have hc9:(fcsC F)[9]?=some (.lst (rowsV (F.rel 0)) .no):=rfl
 have hc10:(fcsC F)[10]?=some (.lst (rowsV (F.rel 1)) .no):=rfl
 have hc11:(fcsC F)[11]?=some (.lst (rowsV (F.rel 2)) .no):=rfl
 have hc12:(fcsC F)[12]?=some (.lst (rowsV (F.rel 3)) .no):=rfl
 have hc13:(fcsC F)[13]?=some (.lst (rowsV (F.rel 4)) .no):=rfl
 have hc14:(fcsC F)[14]?=some (.lst (rowsV (F.rel 5)) .no):=rfl
 have hc15:(fcsC F)[15]?=some (.lst (rowsV (F.rel 6)) .no):=rfl
 have hc16:(fcsC F)[16]?=some (.lst (rowsV (F.rel 7)) .no):=rfl
 have hc17:(fcsC F)[17]?=some (.lst (rowsV (F.rel 8)) .no):=rfl
 have hc18:(fcsC F)[18]?=some (.lst (rowsV (F.rel 9)) .no):=rfl
 have hc19:(fcsC F)[19]?=some (.lst (rowsV (F.rel 10)) .no):=rfl
 have hc20:(fcsC F)[20]?=some (.lst (rowsV (F.rel 11)) .no):=rfl
 unfold tabV
 generalize hM:mayF F=mv at *
 generalize fcsC F=C at *
 generalize intsL F.ow=Ow at *
 generalize intsL F.ho=Ho at *
 cases mv
 ·simp only[Bool.false_eq_true,if_false]
  refine G_enter Tryz.func9 rfl Tryz.ntmps9 rfl fun Q hQ hQe=>?_
  (repeat'(first|refine Ctl ?_|((with_reducible refine Kof.use hK ?_);clear hK hE K E)|((with_reducible refine W_cond (fun h=>?_) (fun h=>?_))<;>(try(exfalso;assumption)))|((first|(with_reducible first|refine G_region fun K E hK hE=>?_|refine call_ret can18 (wm _) ?_)|((with_reducible refine W_fresh (fun b hb=>?_))))<;>(try simp(disch:=omega) only[go_sem,seval,hcl,hca, *]))))
  all_goals(refine W_ret res9 hQ ?_)
  all_goals exact⟨_,_,Wk_tb (WkR.refl _),z_fg,rfl,rfl⟩
 simp only[if_true]
 refine G_enter Tryz.func9 rfl Tryz.ntmps9 rfl fun Q hQ hQe=>?_
 (repeat'(first|refine Ctl ?_|((with_reducible refine Kof.use hK ?_);clear hK hE K E)|((with_reducible refine W_cond (fun h=>?_) (fun h=>?_))<;>(try(exfalso;assumption)))|((first|(with_reducible first|refine G_region fun K E hK hE=>?_|refine call_ret can18 (wm _) ?_)|((with_reducible refine W_fresh (fun b hb=>?_))))<;>(try simp(disch:=omega) only[go_sem,seval,hcl,hca,hc7,g8, *]))))
 obtain⟨b1,hb1⟩:∃z,z=b:=⟨_,rfl⟩
 subst hb1
 have HFg:Hid (Fg (t.set b1 (.obj 26 C)) t):=Lib.hid (Fg.of_set _ hb)
 have hSb:(t.set b1 (.obj 26 C)) b1=.obj 26 C:=St.set_same _ _ _
 generalize t.set b1 (.obj 26 C)=S at *
 clear hb
 have hfb:S b1≠.free:=by rw[hSb];simp
 refine G_loop (fun m env s'=>∃(i:Nat) (ow:Own),i≤F.ho.length∧m+i=F.ho.length∧OwnOk S ow i∧s'=S.own ow 23 1 i∧env 1=.ptr b1 0∧env 4=.lst (rwF (prz18 F.ho i)) ow∧env 5=.int .i64 i) F.ho.length ?_ ?_
 ·exact⟨_,Fg.refl _,0,.full,by omega,by omega,rfl,rfl,z_sl,(by rw[show rwF (prz18 F.ho 0)=[] from rfl];((try simp(disch:=assumption) only[go_sem,seval, *])<;>rfl)),z_sl⟩
 rintro m env s' ⟨i,ow,hi,hm,hO,rfl,e1,e4,e5⟩
 have hob:=hO.not hfb
 by_cases hlt:i<F.ho.length
 ·obtain⟨x,hx⟩:=uget hlt
  have hsx:=HAT8.out i x hx
  have HNX:=Lib.hid (prz18_succ hx)
  have hrl:(rwF (prz18 F.ho i)).length=i:=by rw[rwF_len,prz18_len]
  clear hx
  generalize rwF (prz18 F.ho i)=RW at *
  (repeat'(first|refine Ctl ?_|((with_reducible refine Kof.use hK ?_);clear hK hE K E)|((with_reducible refine W_cond (fun h=>?_) (fun h=>?_))<;>(try(exfalso;assumption)))|((first|(with_reducible refine G_region fun K E hK hE=>?_)|((with_reducible refine W_app (fun o2 ho=>?_));(try simp(disch:=assumption) only[disown_set,disown_own,ownok_o,ownok_m,List.length_map,List.length_cons,List.length_nil,Nat.zero_add,hcl,hc7,g8,hsx,hrl,disown_fl]at ho)))<;>(try simp(disch:=first|assumption|omega) only[go_sem,seval,hcl,hc7,g8,hsx,hrl,disown_fl, *]))))
  all_goals exact⟨_,Fg.refl _,m - 1,by omega,i+1,o2,by omega,by omega,ho,rfl,z_sl,(by rw[HNX.out];((try simp(disch:=assumption) only[go_sem,seval, *])<;>rfl)),z_sl⟩
 obtain rfl:i=F.ho.length:=by omega
 refine Kp_wkt 4 e4 rwF_wk.wk ?_
 refine Kp_forget (Fg.own hO) ?_
 have f1:(upd env 4 (.lst (rowsV (prz18 F.ho F.ho.length)) .no)) 1=.ptr b1 0:=by simp[upd,e1]
 have f5:(upd env 4 (.lst (rowsV (prz18 F.ho F.ho.length)) .no)) 5=.int .i64 F.ho.length:=by simp[upd,e5]
 have f4:(upd env 4 (.lst (rowsV (prz18 F.ho F.ho.length)) .no)) 4=.lst (rowsV (prz18 F.ho F.ho.length)) .no:=by simp[upd]
 generalize upd env 4 (.lst (rowsV (prz18 F.ho F.ho.length)) .no)=env2 at *
 clear e1 e4 e5 hO hob env hlt hi hm
 (repeat'(first|refine Ctl ?_|((with_reducible refine Kof.use hK ?_);clear hK hE K E)|((with_reducible refine W_cond (fun h=>?_) (fun h=>?_))<;>(try(exfalso;omega)))|(((with_reducible refine G_region fun K E hK hE=>?_))<;>(try simp(disch:=omega) only[go_sem,seval,hcl,hc6,hc7,g7,g8,disown_fl, *]))))
 refine G_loop (fun m env s'=>∃(i:Nat) (ow:Own),i≤F.ow.length∧m+i=F.ow.length∧OwnOk S ow i∧s'=S.own ow 23 1 i∧env 1=.ptr b1 0∧env 4=.lst (rowsV (prz18 F.ho F.ho.length)) .no∧env 6=.lst (rwF (prz18 F.ow i)) ow∧env 7=.int .i64 i) F.ow.length ?_ ?_
 ·exact⟨_,Fg.refl _,0,.full,by omega,by omega,rfl,rfl,z_sl,z_sl,(by rw[show rwF (prz18 F.ow 0)=[] from rfl];((try simp(disch:=assumption) only[go_sem,seval, *])<;>rfl)),z_sl⟩
 clear f1 f4 f5 env2
 rintro m env s' ⟨i,ow,hi,hm,hO,rfl,e1,e4,e6,e7⟩
 have hob:=hO.not hfb
 by_cases hlt:i<F.ow.length
 ·obtain⟨x,hx⟩:=uget hlt
  have hsx:=HAT7.out i x hx
  have HNX:=Lib.hid (prz18_succ hx)
  have hrl:(rwF (prz18 F.ow i)).length=i:=by rw[rwF_len,prz18_len]
  clear hx
  generalize rwF (prz18 F.ow i)=RW at *
  (repeat'(first|refine Ctl ?_|((with_reducible refine Kof.use hK ?_);clear hK hE K E)|((with_reducible refine W_cond (fun h=>?_) (fun h=>?_))<;>(try(exfalso;assumption)))|((first|(with_reducible refine G_region fun K E hK hE=>?_)|((with_reducible refine W_app (fun o2 ho=>?_));(try simp(disch:=assumption) only[disown_set,disown_own,ownok_o,ownok_m,List.length_map,List.length_cons,List.length_nil,Nat.zero_add,hcl,hc6,g7,hsx,hrl,disown_fl]at ho)))<;>(try simp(disch:=first|assumption|omega) only[go_sem,seval,hcl,hc6,g7,hsx,hrl,disown_fl, *]))))
  all_goals exact⟨_,Fg.refl _,m - 1,by omega,i+1,o2,by omega,by omega,ho,rfl,z_sl,z_sl,(by rw[HNX.out];((try simp(disch:=assumption) only[go_sem,seval, *])<;>rfl)),z_sl⟩
 obtain rfl:i=F.ow.length:=by omega
 refine Kp_wkt 6 e6 rwF_wk.wk ?_
 refine Kp_forget (Fg.own hO) ?_
 have f1:(upd env 6 (.lst (rowsV (prz18 F.ow F.ow.length)) .no)) 1=.ptr b1 0:=by simp[upd,e1]
 have f7:(upd env 6 (.lst (rowsV (prz18 F.ow F.ow.length)) .no)) 7=.int .i64 F.ow.length:=by simp[upd,e7]
 have f4:(upd env 6 (.lst (rowsV (prz18 F.ow F.ow.length)) .no)) 4=.lst (rowsV (prz18 F.ho F.ho.length)) .no:=by simp[upd,e4]
 have f6:(upd env 6 (.lst (rowsV (prz18 F.ow F.ow.length)) .no)) 6=.lst (rowsV (prz18 F.ow F.ow.length)) .no:=by simp[upd]
 generalize upd env 6 (.lst (rowsV (prz18 F.ow F.ow.length)) .no)=env2 at *
 clear e1 e4 e6 e7 hO hob env hlt hi hm
 (repeat'(first|refine Ctl ?_|((with_reducible refine Kof.use hK ?_);clear hK hE K E)|((with_reducible refine W_cond (fun h=>?_) (fun h=>?_))<;>(try(exfalso;omega)))|(((with_reducible refine G_region fun K E hK hE=>?_))<;>(try simp(disch:=omega) only[go_sem,seval,hcl,g7,g8,disown_fl,hc6,hc7,hc8,hc9,hc10,hc11,hc12,hc13,hc14,hc15,hc16,hc17,hc18,hc19,hc20, *]))))
 all_goals(refine W_ret res9 hQ ?_)
 exact⟨_,_,Wk_tb (l':=(tabL F).map tbC) (show WkR _ _ from .cons (wk_t1 (WkR.refl _)) (.cons (wk_t1 (WkR.refl _)) (.cons (wk_t1 (WkR.refl _)) (.cons (wk_t1 (WkR.refl _)) (.cons (wk_t1 (WkR.refl _)) (.cons (wk_t1 (WkR.refl _)) (.cons (wk_t1 (WkR.refl _)) (.cons (wk_t1 (WkR.refl _)) (.cons (wk_t1 (WkR.refl _)) (.cons (wk_t1 (WkR.refl _)) (.cons (wk_t1 (WkR.refl _)) (.cons (wk_t1 (WkR.refl _)) (.cons (wk_t1 (WkR.refl _)) (.cons (wk_t1 (WkR.refl _)) (.cons (wk_t1 (.cons (.cons (WkR.refl _).wk id .nil) .nil)) .nil))))))))))))))),HFg.out,rfl,rfl⟩
end Go.Proofs.YtgdbgfjhenobdaaGreatDoor
namespace Go.Proofs.YtgdbgfjhenobdaaGreatDoor
open Go.RowKit
def FcsOk (F:Fcs):Prop:=F.me.length≤140737488355328∧F.va.length≤140737488355328∧F.si.length≤140737488355328∧F.ca.length≤140737488355328∧F.fi.length≤140737488355328∧F.na.length≤140737488355328∧F.ow.length≤140737488355328∧F.ho.length≤140737488355328∧∀i,(F.rel i).length≤140737488355328∧∀r,r∈F.rel i→r.length≤140737488355328
section
variable {H : Type} {enc : TypeId × Value → H} {w : World}
theorem rd_strsF {fuel:Nat}{cs:List Value}{x:DataW H×List MemPlace}(h:DataW.trod enc Tryz.prog w 0 (fun _=>true) true fuel 22 cs=some x)(hw:Wt Tryz.prog 22 x.1) :
  ∃l:List (List UInt8),CellsR (GhW w) cs [.lst (strs l) .no]∧l.length≤140737488355328:=by
 obtain⟨xss,h1,h2,h3⟩:=rd_slice (Q:=fun xs=>∃s:List UInt8,xs=[.str s]∧s.length≤140737488355328) (sz:=1) Tryz.underlying22 (by kernel_rfl) (by omega) (by decide +kernel) h hw (fun n cs' y _ hy hwy=>by
  obtain⟨d,r0,l0⟩:=rd_str (GhW w) Tryz.underlying9 hy hwy
  exact⟨[.str d],r0,rfl,d,rfl,reach_le l0⟩)
 obtain⟨l,rfl,_⟩:=list_of (C:=fun s:List UInt8=>[VV.str s]) xss h2
 exact⟨l,h1,by rw[List.length_map]at h3;exact reach_le h3⟩
theorem rd_rowF {fuel:Nat}{cs:List Value}{x:DataW H×List MemPlace}(h:DataW.trod enc Tryz.prog w 0 (fun _=>true) true fuel 23 cs=some x)(hw:Wt Tryz.prog 23 x.1) :
  ∃r:List Int,CellsR (GhW w) cs [rowV r]∧r.length≤140737488355328:=by
 obtain⟨xss,h1,h2,h3⟩:=rd_slice (Q:=fun xs=>∃n:Int,xs=[.int .i64 n]∧True) (sz:=1) Tryz.underlying23 (by kernel_rfl) (by omega) (by decide +kernel) h hw (fun n cs' y _ hy _=>by
  obtain⟨k,hk,_⟩:=rd_i64 (GhW w) Tryz.underlying3 hy
  exact⟨[.int .i64 k],hk,rfl,k,rfl,trivial⟩)
 obtain⟨l,rfl,_⟩:=list_of (C:=fun n:Int=>[VV.int .i64 n]) xss h2
 exact⟨l,h1,by rw[List.length_map]at h3;exact reach_le h3⟩
theorem rd_rowsF {fuel:Nat}{cs:List Value}{x:DataW H×List MemPlace}(h:DataW.trod enc Tryz.prog w 0 (fun _=>true) true fuel 24 cs=some x)(hw:Wt Tryz.prog 24 x.1) :
  ∃l:List (List Int),CellsR (GhW w) cs [.lst (rowsV l) .no]∧l.length≤140737488355328∧∀r,r∈l→r.length≤140737488355328:=by
 obtain⟨xss,h1,h2,h3⟩:=rd_slice (Q:=fun xs=>∃r:List Int,xs=[rowV r]∧r.length≤140737488355328) (sz:=1) Tryz.underlying24 (by kernel_rfl) (by omega) (by decide +kernel) h hw (fun n cs' y _ hy hwy=>by
  obtain⟨r,hr1,hr2⟩:=rd_rowF hy hwy
  exact⟨[rowV r],hr1,rfl,r,rfl,hr2⟩)
 obtain⟨l,rfl,hl⟩:=list_of (C:=fun r:List Int=>[rowV r]) xss h2
 exact⟨l,h1,by rw[List.length_map]at h3;exact reach_le h3,hl⟩
theorem rd_fcs {fuel:Nat}{cs:List Value}{x:DataW H×List MemPlace}(h:DataW.trod enc Tryz.prog w 0 (fun _=>true) true fuel 26 cs=some x)(hw:Wt Tryz.prog 26 x.1) :
  ∃F:Fcs,CellsR (GhW w) cs (fcsC F)∧FcsOk F:=by
 obtain⟨n,hn,hl,hf⟩:=rd_fields Tryz.underlying26 (by kernel_rfl) (fieldsOk_spec (by decide +kernel)) h hw
 obtain⟨v0,y0,e0,t0,w0⟩:=hf 0 _ rfl
 obtain⟨v1,y1,e1,t1,w1⟩:=hf 1 _ rfl
 obtain⟨v2,y2,e2,t2,w2⟩:=hf 2 _ rfl
 obtain⟨v3,y3,e3,t3,w3⟩:=hf 3 _ rfl
 obtain⟨v4,y4,e4,t4,w4⟩:=hf 4 _ rfl
 obtain⟨v5,y5,e5,t5,w5⟩:=hf 5 _ rfl
 obtain⟨v6,y6,e6,t6,w6⟩:=hf 6 _ rfl
 obtain⟨v7,y7,e7,t7,w7⟩:=hf 7 _ rfl
 obtain⟨v8,y8,e8,t8,w8⟩:=hf 8 _ rfl
 obtain⟨v9,y9,e9,t9,w9⟩:=hf 9 _ rfl
 obtain⟨v10,y10,e10,t10,w10⟩:=hf 10 _ rfl
 obtain⟨v11,y11,e11,t11,w11⟩:=hf 11 _ rfl
 obtain⟨v12,y12,e12,t12,w12⟩:=hf 12 _ rfl
 obtain⟨v13,y13,e13,t13,w13⟩:=hf 13 _ rfl
 obtain⟨v14,y14,e14,t14,w14⟩:=hf 14 _ rfl
 obtain⟨v15,y15,e15,t15,w15⟩:=hf 15 _ rfl
 obtain⟨v16,y16,e16,t16,w16⟩:=hf 16 _ rfl
 obtain⟨v17,y17,e17,t17,w17⟩:=hf 17 _ rfl
 obtain⟨v18,y18,e18,t18,w18⟩:=hf 18 _ rfl
 obtain⟨v19,y19,e19,t19,w19⟩:=hf 19 _ rfl
 obtain⟨v20,y20,e20,t20,w20⟩:=hf 20 _ rfl
 obtain⟨me,r0,l0⟩:=rd_strsF t0 w0
 obtain⟨va,r1,l1⟩:=rd_strsF t1 w1
 obtain⟨si,r2,l2⟩:=rd_strsF t2 w2
 obtain⟨ca,r3,l3⟩:=rd_strsF t3 w3
 obtain⟨fi,r4,l4⟩:=rd_strsF t4 w4
 obtain⟨na,r5,l5⟩:=rd_strsF t5 w5
 obtain⟨ow,r6,l6⟩:=rd_rowF t6 w6
 obtain⟨ho,r7,l7⟩:=rd_rowF t7 w7
 obtain⟨mn,r8,_⟩:=rd_i64 (GhW w) Tryz.underlying3 t8
 obtain⟨q0,r9,l9⟩:=rd_rowsF t9 w9
 obtain⟨q1,r10,l10⟩:=rd_rowsF t10 w10
 obtain⟨q2,r11,l11⟩:=rd_rowsF t11 w11
 obtain⟨q3,r12,l12⟩:=rd_rowsF t12 w12
 obtain⟨q4,r13,l13⟩:=rd_rowsF t13 w13
 obtain⟨q5,r14,l14⟩:=rd_rowsF t14 w14
 obtain⟨q6,r15,l15⟩:=rd_rowsF t15 w15
 obtain⟨q7,r16,l16⟩:=rd_rowsF t16 w16
 obtain⟨q8,r17,l17⟩:=rd_rowsF t17 w17
 obtain⟨q9,r18,l18⟩:=rd_rowsF t18 w18
 obtain⟨q10,r19,l19⟩:=rd_rowsF t19 w19
 obtain⟨q11,r20,l20⟩:=rd_rowsF t20 w20
 refine⟨⟨me,va,si,ca,fi,na,ow,ho,mn,fun i=>([q0,q1,q2,q3,q4,q5,q6,q7,q8,q9,q10,q11]:List (List (List Int))).getD i []⟩,CellsR.of (by rw[hl];rfl) fun j y hy=>?_,l0,l1,l2,l3,l4,l5,l6,l7,fun i=>?_⟩
 ·simp only[fcsC]at hy
  match j with
  |0=>simp at hy;subst hy;exact⟨v0,e0,r0.get1⟩
  |1=>simp at hy;subst hy;exact⟨v1,e1,r1.get1⟩
  |2=>simp at hy;subst hy;exact⟨v2,e2,r2.get1⟩
  |3=>simp at hy;subst hy;exact⟨v3,e3,r3.get1⟩
  |4=>simp at hy;subst hy;exact⟨v4,e4,r4.get1⟩
  |5=>simp at hy;subst hy;exact⟨v5,e5,r5.get1⟩
  |6=>simp at hy;subst hy;exact⟨v6,e6,r6.get1⟩
  |7=>simp at hy;subst hy;exact⟨v7,e7,r7.get1⟩
  |8=>simp at hy;subst hy;exact⟨v8,e8,r8.get1⟩
  |9=>simp at hy;subst hy;exact⟨v9,e9,r9.get1⟩
  |10=>simp at hy;subst hy;exact⟨v10,e10,r10.get1⟩
  |11=>simp at hy;subst hy;exact⟨v11,e11,r11.get1⟩
  |12=>simp at hy;subst hy;exact⟨v12,e12,r12.get1⟩
  |13=>simp at hy;subst hy;exact⟨v13,e13,r13.get1⟩
  |14=>simp at hy;subst hy;exact⟨v14,e14,r14.get1⟩
  |15=>simp at hy;subst hy;exact⟨v15,e15,r15.get1⟩
  |16=>simp at hy;subst hy;exact⟨v16,e16,r16.get1⟩
  |17=>simp at hy;subst hy;exact⟨v17,e17,r17.get1⟩
  |18=>simp at hy;subst hy;exact⟨v18,e18,r18.get1⟩
  |19=>simp at hy;subst hy;exact⟨v19,e19,r19.get1⟩
  |20=>simp at hy;subst hy;exact⟨v20,e20,r20.get1⟩
  |j+21=>simp at hy
 ·match i with
  |0=>exact l9
  |1=>exact l10
  |2=>exact l11
  |3=>exact l12
  |4=>exact l13
  |5=>exact l14
  |6=>exact l15
  |7=>exact l16
  |8=>exact l17
  |9=>exact l18
  |10=>exact l19
  |11=>exact l20
  |i+12=>exact⟨by simp,by simp⟩
end
attribute [local go_sem] disown_fl owned_fl own_fl
def relL (rel:Nat→List (List Int)):List (List VV):=(List.range 12).map fun i=>[.lst (rowsV (rel i)) .no]
theorem relL_len {rel:Nat→List (List Int)}:(relL rel).length=12:=by simp[relL]
theorem relL_at {rel:Nat→List (List Int)}{i:Nat}(h:i<12):(relL rel)[i]?=some [.lst (rowsV (rel i)) .no]:=by
 unfold relL
 rw[List.getElem?_map,List.getElem?_range h]
 rfl
set_option maxHeartbeats 8000000 in
theorem Lsmall18_S (F:Fcs)(hF:FcsOk F)(t:St):SCalls Tryz.prog 4 [.agg (fcsC F)] t fun w u=>∃r:Bool,w=.ret (.bool r)∧u=t∧(r=true→FSm F):=by
 obtain⟨a1,a2,a3,a4,a5,a6,a7,a8,hrel⟩:=hF
 have g1:=strsf_len F.me
 have g2:=strsf_len F.va
 have g3:=strsf_len F.si
 have g4:=strsf_len F.ca
 have g5:=strsf_len F.fi
 have g6:=strsf_len F.na
 have g7:(intsL F.ow).length=F.ow.length:=intsL_len
 have g8:(intsL F.ho).length=F.ho.length:=intsL_len
 have HREL:=Lib.hid hrel
 clear hrel
 have HSM:Hid (FSm F=(F.me.length≤1024∧F.va.length≤1024∧F.si.length≤1024∧F.ca.length≤1024∧F.fi.length≤1024∧F.na.length≤1024∧F.ow.length≤1024∧F.ho.length≤1024∧∀i,i<12→(F.rel i).length≤400∧∀r,r∈F.rel i→r.length≤8)):=Lib.hid rfl
 generalize FSm F=SM at *
 obtain⟨me,va,si,ca,fi,na,ow,ho,mn,rel⟩:=F
 simp only[fcsC]at *
 generalize strs me=Me at *
 generalize strs va=Va at *
 generalize strs si=Si at *
 generalize strs ca=Ca at *
 generalize strs fi=Fi at *
 generalize strs na=Na at *
 generalize intsL ow=Ow at *
 generalize intsL ho=Ho at *
 have hrl:(relL rel).length=12:=relL_len
 have hrl12:Hid (relL rel=[[.lst (rowsV (rel 0)) .no],[.lst (rowsV (rel 1)) .no],[.lst (rowsV (rel 2)) .no],[.lst (rowsV (rel 3)) .no],[.lst (rowsV (rel 4)) .no],[.lst (rowsV (rel 5)) .no],[.lst (rowsV (rel 6)) .no],[.lst (rowsV (rel 7)) .no],[.lst (rowsV (rel 8)) .no],[.lst (rowsV (rel 9)) .no],[.lst (rowsV (rel 10)) .no],[.lst (rowsV (rel 11)) .no]]):=Lib.hid rfl
 refine G_enter Tryz.func4 rfl Tryz.ntmps4 rfl fun Q hQ hQe=>?_
 (repeat'(first|refine Ctl ?_|((with_reducible refine Kof.use hK ?_);clear hK hE K E)|((first|(with_reducible refine G_region fun K E hK hE=>?_)|((with_reducible refine W_fresh (fun b hb=>?_))))<;>(try simp(disch:=omega) only[go_sem,seval, *]))))
 obtain⟨b1,hb1⟩:∃z,z=b:=⟨_,rfl⟩
 subst hb1
 have HFB:=Lib.hid hb
 have q1:(t.set b1 (.obj 26 [.lst Me .no,.lst Va .no,.lst Si .no,.lst Ca .no,.lst Fi .no,.lst Na .no,.lst Ow .no,.lst Ho .no,.int .i64 mn,.lst (rowsV (rel 0)) .no,.lst (rowsV (rel 1)) .no,.lst (rowsV (rel 2)) .no,.lst (rowsV (rel 3)) .no,.lst (rowsV (rel 4)) .no,.lst (rowsV (rel 5)) .no,.lst (rowsV (rel 6)) .no,.lst (rowsV (rel 7)) .no,.lst (rowsV (rel 8)) .no,.lst (rowsV (rel 9)) .no,.lst (rowsV (rel 10)) .no,.lst (rowsV (rel 11)) .no])) b1=.obj 26 [.lst Me .no,.lst Va .no,.lst Si .no,.lst Ca .no,.lst Fi .no,.lst Na .no,.lst Ow .no,.lst Ho .no,.int .i64 mn,.lst (rowsV (rel 0)) .no,.lst (rowsV (rel 1)) .no,.lst (rowsV (rel 2)) .no,.lst (rowsV (rel 3)) .no,.lst (rowsV (rel 4)) .no,.lst (rowsV (rel 5)) .no,.lst (rowsV (rel 6)) .no,.lst (rowsV (rel 7)) .no,.lst (rowsV (rel 8)) .no,.lst (rowsV (rel 9)) .no,.lst (rowsV (rel 10)) .no,.lst (rowsV (rel 11)) .no]:=St.set_same _ _ _
 have HFg:Hid (Fg (t.set b1 (.obj 26 [.lst Me .no,.lst Va .no,.lst Si .no,.lst Ca .no,.lst Fi .no,.lst Na .no,.lst Ow .no,.lst Ho .no,.int .i64 mn,.lst (rowsV (rel 0)) .no,.lst (rowsV (rel 1)) .no,.lst (rowsV (rel 2)) .no,.lst (rowsV (rel 3)) .no,.lst (rowsV (rel 4)) .no,.lst (rowsV (rel 5)) .no,.lst (rowsV (rel 6)) .no,.lst (rowsV (rel 7)) .no,.lst (rowsV (rel 8)) .no,.lst (rowsV (rel 9)) .no,.lst (rowsV (rel 10)) .no,.lst (rowsV (rel 11)) .no])) t):=Lib.hid (Fg.of_set _ hb)
 generalize t.set b1 (.obj 26 [.lst Me .no,.lst Va .no,.lst Si .no,.lst Ca .no,.lst Fi .no,.lst Na .no,.lst Ow .no,.lst Ho .no,.int .i64 mn,.lst (rowsV (rel 0)) .no,.lst (rowsV (rel 1)) .no,.lst (rowsV (rel 2)) .no,.lst (rowsV (rel 3)) .no,.lst (rowsV (rel 4)) .no,.lst (rowsV (rel 5)) .no,.lst (rowsV (rel 6)) .no,.lst (rowsV (rel 7)) .no,.lst (rowsV (rel 8)) .no,.lst (rowsV (rel 9)) .no,.lst (rowsV (rel 10)) .no,.lst (rowsV (rel 11)) .no])=S at *
 clear hb
 refine L_loop (fun m env s'=>∃(i:Nat),i≤12∧m+i=12∧S=s'∧Hid (∀j,j<i→(rel j).length≤400∧∀r,r∈rel j→r.length≤8)∧env 1=.ptr b1 0∧env 3=.lst (relL rel) .full∧env 4=.int .i64 i) 12
  ⟨0,by omega,by omega,rfl,Lib.hid (fun j hj=>by omega),z_sl,(by rw[hrl12.out];((try simp(disch:=assumption) only[go_sem,seval, *])<;>rfl)),z_sl⟩ ?_
 rintro m env s' ⟨i,hi,hm,he0,HD,e1,e3,e4⟩
 subst he0
 by_cases hlt:i<12
 ·have sx:=relL_at (rel:=rel) hlt
  have hll:(rowsV (rel i)).length=(rel i).length:=rowsV_len
  have hlen:=(HREL.out i).1
  by_cases h4:400<(rel i).length
  ·(repeat'(first|refine Ctl ?_|((with_reducible refine Kof.use hK ?_);clear hK hE K E)|((with_reducible refine W_cond (fun h=>?_) (fun h=>?_))<;>(try(exfalso;omega)))|(((with_reducible refine G_region fun K E hK hE=>?_))<;>(try simp(disch:=omega) only[go_sem,seval,hrl,sx,hll, *]))))
   all_goals(refine W_ret res4 hQ ?_)
   all_goals exact⟨_,_,Wk.refl _,HFg.out,false,rfl,rfl,fun h=>by cases h⟩
  ·have H4:=Lib.hid h4
   (repeat'(first|refine Ctl ?_|((with_reducible refine Kof.use hK ?_);clear hK hE K E)|((with_reducible refine W_cond (fun h=>?_) (fun h=>?_))<;>(try(exfalso;omega)))|(((with_reducible refine G_region fun K E hK hE=>?_))<;>(try simp(disch:=omega) only[go_sem,seval,hrl,sx,hll, *]))))
   refine L_loop (fun m2 env s2=>∃(k:Nat),k≤(rel i).length∧m2+k=(rel i).length∧S=s2∧Hid (∀r,r∈(rel i).take k→r.length≤8)∧env 1=.ptr b1 0∧env 3=.lst (relL rel) .full∧env 4=.int .i64 i∧env 5=.int .i64 k) (rel i).length
    ⟨0,by omega,by omega,rfl,Lib.hid (fun r hr=>by simp at hr),z_sl,z_sl,z_sl,z_sl⟩ ?_
   clear e1 e3 e4 env
   rintro m2 env s2 ⟨k,hk,hm2,he0,HK,e1,e3,e4,e5⟩
   subst he0
   by_cases hkl:k<(rel i).length
   ·obtain⟨r,hr⟩:=uget hkl
    have sr:=rowsV_at hr
    have hrr:(intsL r).length=r.length:=intsL_len
    have hrb:=(HREL.out i).2 r (List.mem_of_getElem? hr)
    have HT:Hid (r.length≤8→∀x,x∈(rel i).take (k+1)→x.length≤8):=Lib.hid fun h x hx=>by
     rw[List.take_add_one,hr]at hx
     rcases List.mem_append.1 hx with h1|h1
     ·exact HK.out x h1
     ·simp at h1;subst h1;exact h
    clear hr
    by_cases h8:8<r.length
    ·(repeat'(first|refine Ctl ?_|((with_reducible refine Kof.use hK ?_);clear hK hE K E)|((with_reducible refine W_cond (fun h=>?_) (fun h=>?_))<;>(try(exfalso;first|assumption|omega)))|(((with_reducible refine G_region fun K E hK hE=>?_))<;>(try simp(disch:=omega) only[go_sem,seval,hrl,sx,hll,sr,hrr, *]))))
     all_goals(refine W_ret res4 hQ ?_)
     all_goals exact⟨_,_,Wk.refl _,HFg.out,false,rfl,rfl,fun h=>by cases h⟩
    ·have HN:=Lib.hid (HT.out (by omega))
     clear HT
     (repeat'(first|refine Ctl ?_|((with_reducible refine Kof.use hK ?_);clear hK hE K E)|((with_reducible refine W_cond (fun h=>?_) (fun h=>?_))<;>(try(exfalso;first|assumption|omega)))|(((with_reducible refine G_region fun K E hK hE=>?_))<;>(try simp(disch:=omega) only[go_sem,seval,hrl,sx,hll,sr,hrr, *]))))
     all_goals exact⟨m2 - 1,by omega,k+1,by omega,by omega,rfl,HN,z_sl,z_sl,z_sl,z_sl⟩
   ·have HN:Hid (∀j,j<i+1→(rel j).length≤400∧∀r,r∈rel j→r.length≤8):=Lib.hid fun j hj=>by
     by_cases e:j=i
     ·subst e
      have:=HK.out
      rw[List.take_of_length_le (by omega)]at this
      exact⟨by have:=H4.out;omega,this⟩
     ·exact HD.out j (by omega)
    (repeat'(first|refine Ctl ?_|((with_reducible refine Kof.use hK ?_);clear hK hE K E)|((with_reducible refine W_cond (fun h=>?_) (fun h=>?_))<;>(try(exfalso;assumption)))|(((with_reducible refine G_region fun K E hK hE=>?_))<;>(try simp(disch:=omega) only[go_sem,seval,hrl,sx,hll, *]))))
    all_goals exact⟨m - 1,by omega,i+1,by omega,by omega,rfl,HN,z_sl,z_sl,z_sl⟩
 ·obtain rfl:i=12:=by omega
  have q1':=q1
  by_cases c0:me.length+va.length<1024
  rotate_left
  ·(repeat'(first|refine Ctl ?_|((with_reducible refine Kof.use hK ?_);clear hK hE K E)|((with_reducible refine W_cond (fun h=>?_) (fun h=>?_))<;>(try(exfalso;assumption)))|((first|(with_reducible refine G_region fun K E hK hE=>?_)|((with_reducible refine W_gd (fun h=>?_) (fun h=>?_))<;>(try(exfalso;omega))))<;>(try simp(disch:=omega) only[go_sem,seval,hrl,g1,g2,g3,g4,g5,g6,g7,g8, *]))))
   all_goals(refine W_ret res4 hQ ?_)
   all_goals exact⟨_,_,Wk.refl _,HFg.out,false,rfl,rfl,fun h=>by cases h⟩
  by_cases c1:si.length<1024
  rotate_left
  ·(repeat'(first|refine Ctl ?_|((with_reducible refine Kof.use hK ?_);clear hK hE K E)|((with_reducible refine W_cond (fun h=>?_) (fun h=>?_))<;>(try(exfalso;assumption)))|((first|(with_reducible refine G_region fun K E hK hE=>?_)|((with_reducible refine W_gd (fun h=>?_) (fun h=>?_))<;>(try(exfalso;omega))))<;>(try simp(disch:=omega) only[go_sem,seval,hrl,g1,g2,g3,g4,g5,g6,g7,g8, *]))))
   all_goals(refine W_ret res4 hQ ?_)
   all_goals exact⟨_,_,Wk.refl _,HFg.out,false,rfl,rfl,fun h=>by cases h⟩
  by_cases c2:ca.length<1024
  rotate_left
  ·(repeat'(first|refine Ctl ?_|((with_reducible refine Kof.use hK ?_);clear hK hE K E)|((with_reducible refine W_cond (fun h=>?_) (fun h=>?_))<;>(try(exfalso;assumption)))|((first|(with_reducible refine G_region fun K E hK hE=>?_)|((with_reducible refine W_gd (fun h=>?_) (fun h=>?_))<;>(try(exfalso;omega))))<;>(try simp(disch:=omega) only[go_sem,seval,hrl,g1,g2,g3,g4,g5,g6,g7,g8, *]))))
   all_goals(refine W_ret res4 hQ ?_)
   all_goals exact⟨_,_,Wk.refl _,HFg.out,false,rfl,rfl,fun h=>by cases h⟩
  by_cases c3:fi.length<1024
  rotate_left
  ·(repeat'(first|refine Ctl ?_|((with_reducible refine Kof.use hK ?_);clear hK hE K E)|((with_reducible refine W_cond (fun h=>?_) (fun h=>?_))<;>(try(exfalso;assumption)))|((first|(with_reducible refine G_region fun K E hK hE=>?_)|((with_reducible refine W_gd (fun h=>?_) (fun h=>?_))<;>(try(exfalso;omega))))<;>(try simp(disch:=omega) only[go_sem,seval,hrl,g1,g2,g3,g4,g5,g6,g7,g8, *]))))
   all_goals(refine W_ret res4 hQ ?_)
   all_goals exact⟨_,_,Wk.refl _,HFg.out,false,rfl,rfl,fun h=>by cases h⟩
  by_cases c4:na.length<1024
  rotate_left
  ·(repeat'(first|refine Ctl ?_|((with_reducible refine Kof.use hK ?_);clear hK hE K E)|((with_reducible refine W_cond (fun h=>?_) (fun h=>?_))<;>(try(exfalso;assumption)))|((first|(with_reducible refine G_region fun K E hK hE=>?_)|((with_reducible refine W_gd (fun h=>?_) (fun h=>?_))<;>(try(exfalso;omega))))<;>(try simp(disch:=omega) only[go_sem,seval,hrl,g1,g2,g3,g4,g5,g6,g7,g8, *]))))
   all_goals(refine W_ret res4 hQ ?_)
   all_goals exact⟨_,_,Wk.refl _,HFg.out,false,rfl,rfl,fun h=>by cases h⟩
  by_cases c5:ow.length<1024
  rotate_left
  ·(repeat'(first|refine Ctl ?_|((with_reducible refine Kof.use hK ?_);clear hK hE K E)|((with_reducible refine W_cond (fun h=>?_) (fun h=>?_))<;>(try(exfalso;assumption)))|((first|(with_reducible refine G_region fun K E hK hE=>?_)|((with_reducible refine W_gd (fun h=>?_) (fun h=>?_))<;>(try(exfalso;omega))))<;>(try simp(disch:=omega) only[go_sem,seval,hrl,g1,g2,g3,g4,g5,g6,g7,g8, *]))))
   all_goals(refine W_ret res4 hQ ?_)
   all_goals exact⟨_,_,Wk.refl _,HFg.out,false,rfl,rfl,fun h=>by cases h⟩
  (repeat'(first|refine Ctl ?_|((with_reducible refine Kof.use hK ?_);clear hK hE K E)|((with_reducible refine W_cond (fun h=>?_) (fun h=>?_))<;>(try(exfalso;assumption)))|((first|(with_reducible refine G_region fun K E hK hE=>?_)|((with_reducible refine W_gd (fun h=>?_) (fun h=>?_))<;>(try(exfalso;omega))))<;>(try simp(disch:=omega) only[go_sem,seval,hrl,g1,g2,g3,g4,g5,g6,g7,g8, *]))))
  all_goals(refine W_ret res4 hQ ?_)
  all_goals exact⟨_,_,Wk.refl _,HFg.out,_,rfl,rfl,fun h=>by rw[HSM.out];have h7:=of_decide_eq_true h;exact⟨by omega,by omega,by omega,by omega,by omega,by omega,by omega,by omega,HD.out⟩⟩
end Go.Proofs.YtgdbgfjhenobdaaGreatDoor
