/- Walks of functions that the claim reaches, and plain facts of them. Conditions: those in the statements. -/
import Derived.Test.YtohnaepcgnbaiaaGreatDoorJjRuj
import Derived.Test.YtohnaepcgnbaiaaGreatDoorJjPkj
import Derived.Test.YtohnaepcgnbaiaaGreatDoorJjWa
set_option linter.unusedSimpArgs false
set_option linter.unusedVariables false
set_option maxRecDepth 100000
namespace Go.Proofs.YtohnaepcgnbaiaaGreatDoor
open Go.RowKit
theorem uget {α:Type}{l:List α}{i:Nat}(h:i<l.length):∃x,l[i]?=some x:=⟨_,List.getElem?_eq_getElem h⟩
theorem lst_eq {α:Type}{a b:List α}(hl:a.length=b.length)(h:∀i:Nat,i<a.length→a[i]?=b[i]?):a=b:=by
 apply List.ext_getElem?
 intro i
 by_cases hi:i<a.length
 ·exact h i hi
 ·rw[List.getElem?_eq_none (by omega),List.getElem?_eq_none (by omega)]
def RowsOk (l:List (List Int)):Prop:=l.length≤1000000000∧∀r,r∈l→r.length≤1000000000
theorem rwsC_atL {rows:List (List Int)}{i:Nat}{r:List Int}(h:rows[i]?=some r):(rwsC rows)[i]?=some [.lst (intsL r) .no]:=rwsC_at h
set_option maxHeartbeats 2000000 in
theorem SameInts_S (a b:List Int)(o1 o2:Own)(ha:a.length≤140737488355328)(hb:b.length≤140737488355328)(t:St):SRet Tryz.prog 37 [.lst (intsL a) o1,.lst (intsL b) o2] t (.bool (decide (a=b))) t:=by
 have la:(intsL a).length=a.length:=intsL_len
 have lb:(intsL b).length=b.length:=intsL_len
 by_cases hl:a.length=b.length
 ·have hli:((a.length:Int)=(b.length:Int))=True:=eq_true (by omega)
  have hlz:((b.length:Int)=(b.length:Int))=True:=eq_true rfl
  refine G_enter Tryz.func37 rfl Tryz.ntmps37 rfl fun Q hQ hQe=>?_
  (repeat'(first|refine Ctl ?_|((with_reducible refine Kof.use hK ?_);clear hK hE K E)|((with_reducible refine W_cond (fun h=>?_) (fun h=>?_))<;>(try(exfalso;assumption)))|(((with_reducible refine G_region fun K E hK hE=>?_))<;>(try simp(disch:=omega) only[go_sem,seval,la,lb,hl, *]))))
  refine G_loop (fun m env s'=>∃i:Nat,i≤a.length∧m+i=a.length∧s'=t∧Hid (∀j:Nat,j<i→a[j]?=b[j]?)∧env 0=.lst (intsL a) o1∧env 1=.lst (intsL b) o2∧env 5=.int .i64 i) a.length ?_ ?_
  ·exact⟨t,Fg.refl _,0,by omega,by omega,rfl,Lib.hid (fun j hj=>by omega),z_sl,z_sl,z_sl⟩
  ·rintro m env s' ⟨i,hi,hm,rfl,HE,e0,e1,e5⟩
   by_cases hlt:i<a.length
   ·obtain⟨c,hc⟩:=uget hlt
    obtain⟨d,hd⟩:=uget (l:=b) (i:=i) (by omega)
    have hsx:=intsL_at hc
    have hsy:=intsL_at hd
    have HC:=Lib.hid hc
    have HD:=Lib.hid hd
    clear hc hd
    by_cases hcd:c=d
    ·have HCD:=Lib.hid hcd
     have hcc:(c=d)=True:=eq_true hcd
     (repeat'(first|refine Ctl ?_|(with_reducible first|(refine Kof.use hK ?_;clear hK hE K E)|(refine Kof.use hKh ?_;clear hKh Kh)|refine G_plan 6 [] [0,1,2,3,4,5,6,7,8] hQe fun K E hK hE=>?_)|((with_reducible refine W_cond (fun h=>?_) (fun h=>?_))<;>(try(exfalso;first|assumption|omega)))|(((with_reducible first|refine G_region fun K E hK hE=>?_|refine P_fin fun Kh hKh=>?_))<;>(try simp(disch:=omega) only[go_sem,seval,la,lb,hl,hsx,hsy, *]))))
     refine⟨s',Fg.refl _,m - 1,by omega,i+1,by omega,by omega,rfl,Lib.hid (fun j hj=>?_),z_sl,z_sl,z_sl⟩
     by_cases hj2:j=i
     ·subst hj2;rw[HC.out,HD.out,HCD.out]
     ·exact HE.out j (by omega)
    ·have hcc:(c=d)=False:=eq_false hcd
     (repeat'(first|refine Ctl ?_|(with_reducible first|(refine Kof.use hK ?_;clear hK hE K E)|(refine Kof.use hKh ?_;clear hKh Kh)|refine G_plan 6 [] [0,1,2,3,4,5,6,7,8] hQe fun K E hK hE=>?_)|((with_reducible refine W_cond (fun h=>?_) (fun h=>?_))<;>(try(exfalso;first|assumption|omega)))|(((with_reducible first|refine G_region fun K E hK hE=>?_|refine P_fin fun Kh hKh=>?_))<;>(try simp(disch:=omega) only[go_sem,seval,la,lb,hl,hsx,hsy, *]))))
     all_goals(refine W_ret res37 hQ ?_)
     all_goals(refine⟨_,_,Wk.of_eq ?_,?_,rfl,rfl⟩)
     ·rw[decide_eq_false (fun h=>hcd (by have:=HC.out;rw[h,HD.out]at this;injection this with this;exact this.symm))]
     ·(exact z_fg)
   ·(repeat'(first|refine Ctl ?_|((with_reducible refine Kof.use hK ?_);clear hK hE K E)|((with_reducible refine W_cond (fun h=>?_) (fun h=>?_))<;>(try(exfalso;omega)))|(((with_reducible refine G_region fun K E hK hE=>?_))<;>(try simp(disch:=omega) only[go_sem,seval,la,lb,hl, *]))))
    all_goals(refine W_ret res37 hQ ?_)
    all_goals(refine⟨_,_,Wk.of_eq ?_,?_,rfl,rfl⟩)
    ·rw[decide_eq_true (lst_eq hl (fun j hj=>HE.out j (by omega)))]
    ·(exact z_fg)
 ·have hli:((a.length:Int)=(b.length:Int))=False:=eq_false (by omega)
  refine G_enter Tryz.func37 rfl Tryz.ntmps37 rfl fun Q hQ hQe=>?_
  (repeat'(first|refine Ctl ?_|((with_reducible refine Kof.use hK ?_);clear hK hE K E)|((with_reducible refine W_cond (fun h=>?_) (fun h=>?_))<;>(try(exfalso;assumption)))|(((with_reducible refine G_region fun K E hK hE=>?_))<;>(try simp(disch:=omega) only[go_sem,seval,la,lb, *]))))
  all_goals(refine W_ret res37 hQ ?_)
  all_goals(refine⟨_,_,Wk.of_eq ?_,?_,rfl,rfl⟩)
  ·rw[decide_eq_false (fun h=>hl (by rw[h]))]
  ·(exact z_fg)
set_option maxHeartbeats 4000000 in
theorem SameRows_S (a b:List (List Int))(o1 o2:Own)(ha:RowsOk a)(hb:RowsOk b)(t:St):SRet Tryz.prog 12 [.lst (rwsC a) o1,.lst (rwsC b) o2] t (.bool (decide (a=b))) t:=by
 have hl1:(rwsC a).length=a.length:=rwsC_len
 have hl2:(rwsC b).length=b.length:=rwsC_len
 obtain⟨ha1,ha2⟩:=ha
 obtain⟨hb1,hb2⟩:=hb
 by_cases hlen:a.length=b.length
 ·generalize hR:decide (a=b)=R
  have HR:=Lib.hid hR
  clear hR
  refine G_enter Tryz.func12 rfl Tryz.ntmps12 rfl fun Q hQ hQe=>?_
  (repeat'(first|refine Ctl ?_|((with_reducible refine Kof.use hK ?_);clear hK hE K E)|((with_reducible refine W_cond (fun h=>?_) (fun h=>?_))<;>(try(exfalso;assumption)))|(((with_reducible refine G_region fun K E hK hE=>?_))<;>(try simp(disch:=omega) only[go_sem,seval,hl1,hl2,hlen, *]))))
  refine L_loop (fun m env s'=>∃(i:Nat),i≤b.length∧m+i=b.length∧Hid (a.take i=b.take i)∧s'=t∧env 0=.lst (rwsC a) o1∧env 1=.lst (rwsC b) o2∧env 5=.int .i64 i) b.length
   ⟨0,by omega,by omega,Lib.hid rfl,rfl,z_sl,z_sl,z_sl⟩ ?_
  rintro m env s' ⟨i,hi,hm,HH,rfl,e0,e1,e5⟩
  by_cases h2:i<b.length
  ·obtain⟨x,hx⟩:∃x,a[i]?=some x:=⟨_,List.getElem?_eq_getElem (by omega)⟩
   obtain⟨y,hy⟩:∃y,b[i]?=some y:=⟨_,List.getElem?_eq_getElem h2⟩
   have sx:=rwsC_atL hx
   have sy:=rwsC_atL hy
   have w1:=fun s=>SameInts_S x y .no .no (by have:=ha2 x (List.mem_of_getElem? hx);omega) (by have:=hb2 y (List.mem_of_getElem? hy);omega) s
   have t1:a.take (i+1)=a.take i++[x]:=by rw[List.take_add_one,hx];rfl
   have t2:b.take (i+1)=b.take i++[y]:=by rw[List.take_add_one,hy];rfl
   have HT:x=y→a.take (i+1)=b.take (i+1):=fun e=>by rw[t1,t2,HH.out,e]
   have HN:¬ x=y→a≠b:=fun e=>by rintro rfl;exact e (by rw[hx]at hy;injection hy)
   clear t1 t2 hx hy
   by_cases e:x=y
   ·have HT2:=Lib.hid (HT e)
    rw[show decide (x=y)=true by simp[e]]at w1
    clear HT HN e
    (repeat'(first|refine Ctl ?_|(with_reducible first|(refine Kof.use hK ?_;clear hK hE K E)|(refine Kof.use hKh ?_;clear hKh Kh)|(refine Kof.use hKb (P_next ?_);clear hKb Kb)|refine G_plan 6 [([0,1,2,3,4,5,6,7],8,[[]])] [9] hQe fun K E hK hE=>?_)|((with_reducible refine W_cond (fun h=>?_) (fun h=>?_))<;>(try(exfalso;assumption)))|(((with_reducible first|refine G_region fun K E hK hE=>?_|refine call_ret can37 (w1 _) ?_|refine P_heads fun Kh hKh=>?_|refine P_fin fun Kh hKh=>?_|refine P_each fun Kb hKb=>?_))<;>(try simp(disch:=omega) only[go_sem,seval,hl1,hl2,sx,sy,hlen, *]))))
    all_goals exact⟨m - 1,by omega,i+1,by omega,by omega,HT2,rfl,z_sl,z_sl,z_sl⟩
   ·have hR:R=false:=by rw[← HR.out];simp[HN e]
    subst hR
    rw[show decide (x=y)=false by simp[e]]at w1
    clear HT HN e
    (repeat'(first|refine Ctl ?_|(with_reducible first|(refine Kof.use hK ?_;clear hK hE K E)|(refine Kof.use hKh ?_;clear hKh Kh)|(refine Kof.use hKb (P_next ?_);clear hKb Kb)|refine G_plan 6 [([0,1,2,3,4,5,6,7],8,[[]])] [9] hQe fun K E hK hE=>?_)|((with_reducible refine W_cond (fun h=>?_) (fun h=>?_))<;>(try(exfalso;assumption)))|(((with_reducible first|refine G_region fun K E hK hE=>?_|refine call_ret can37 (w1 _) ?_|refine P_heads fun Kh hKh=>?_|refine P_fin fun Kh hKh=>?_|refine P_each fun Kb hKb=>?_))<;>(try simp(disch:=omega) only[go_sem,seval,hl1,hl2,sx,sy,hlen, *]))))
    all_goals(refine W_ret res12 hQ ?_)
    all_goals(refine⟨_,_,Wk.of_eq ?_,?_,rfl,rfl⟩)
    all_goals first|rfl|(exact z_fg)
  ·have hR:R=true:=by
    have h3:=HH.out
    rw[List.take_of_length_le (by omega),List.take_of_length_le (by omega)]at h3
    rw[← HR.out];simp[h3]
   subst hR
   (repeat'(first|refine Ctl ?_|((with_reducible refine Kof.use hK ?_);clear hK hE K E)|((with_reducible refine W_cond (fun h=>?_) (fun h=>?_))<;>(try(exfalso;assumption)))|(((with_reducible refine G_region fun K E hK hE=>?_))<;>(try simp(disch:=omega) only[go_sem,seval,hl1,hl2,hlen, *]))))
   all_goals(refine W_ret res12 hQ ?_)
   all_goals(refine⟨_,_,Wk.of_eq ?_,?_,rfl,rfl⟩)
   all_goals first|rfl|(exact z_fg)
 ·have hR:decide (a=b)=false:=by
   have:a≠b:=fun e=>hlen (by rw[e])
   simp[this]
  rw[hR]
  have hln:((a.length:Int)=(b.length:Int))=False:=eq_false (by omega)
  clear hR
  refine G_enter Tryz.func12 rfl Tryz.ntmps12 rfl fun Q hQ hQe=>?_
  (repeat'(first|refine Ctl ?_|((with_reducible refine Kof.use hK ?_);clear hK hE K E)|((with_reducible refine W_cond (fun h=>?_) (fun h=>?_))<;>(try(exfalso;assumption)))|(((with_reducible refine G_region fun K E hK hE=>?_))<;>(try simp(disch:=omega) only[go_sem,seval,hl1,hl2,hln, *]))))
  all_goals(refine W_ret res12 hQ ?_)
  all_goals(refine⟨_,_,Wk.of_eq ?_,?_,rfl,rfl⟩)
  all_goals first|rfl|(exact z_fg)
theorem num_ex:∀(L:List (List Nat×Nat)),(L.map (·.1)).flatten.Nodup→(∀p,p∈L→p.2<2 ^ p.1.length)→∃x:Nat→Bool,∀p,p∈L→numA p.1 x=p.2
 |[],_,_=>⟨fun _=>false,fun p h=>by simp at h⟩
 |q::L,hn,hl=>by
  rw[List.map_cons,List.flatten_cons,List.nodup_append]at hn
  obtain⟨h1,h2,h3⟩:=hn
  obtain⟨x,hx⟩:=num_ex L h2 fun p hp=>hl p (List.mem_cons_of_mem _ hp)
  refine⟨asgV q.1 q.2 x,fun p hp=>?_⟩
  rcases List.mem_cons.1 hp with rfl|hp
  ·rw[numA_asg h1,Nat.mod_eq_of_lt (hl p (List.mem_cons_self ..))]
  ·rw[← hx p hp]
   refine numA_congr fun v hv=>asgV_out fun hq=>?_
   exact h3 v hq v (List.mem_flatten.2 ⟨p.1,List.mem_map.2 ⟨p,hp,rfl⟩,hv⟩) rfl
theorem tup_mem {n:Nat}{ds:List (List UInt8×Nat)}{at_:List (List Nat)}(hD:DOk n ds at_){ks:List Nat}(hks:∀k,k∈ks→k<ds.length)(hnd:ks.Nodup){g:(Nat→Bool)→Bool}(hg:DepF (varsOf at_ ks) g){r:List Int} :
  r∈tupR (treeT n g) at_ ks↔∃x,g x=true∧r=ks.map fun k=>((numA (at_.getD k []) x:Nat):Int):=by
 have hlt:=varsOf_lt hD hks
 have hI:InV ((ks.map fun k=>at_.getD k []).flatten) (treeT n g):=treeT_inV (S:=varsOf at_ ks) hlt hg
 have hN:((ks.map fun k=>at_.getD k []).flatten).Nodup:=varsOf_nd hD hnd hks
 have hh:Hang n g:=hg.hang hlt
 constructor
 ·intro h
  simp only[tupR,List.mem_map]at h
  obtain⟨m,hm,rfl⟩:=h
  have h2:=(sat_rows (n:=n) (t:=treeT n g) treeT_ok hI hN (r:=splitW (wdsOf at_ ks) m)).1 (by rw[wdsOf_eq];exact List.mem_map.2 ⟨m,hm,rfl⟩)
  obtain⟨x,hx,e⟩:=h2
  rw[treeT_ev hh]at hx
  refine⟨x,hx,?_⟩
  rw[rowU,e,List.map_map,List.map_map]
  rfl
 ·rintro⟨x,hx,rfl⟩
  have h2:=(sat_rows (n:=n) (t:=treeT n g) treeT_ok hI hN (r:=(ks.map fun k=>at_.getD k []).map fun a=>numA a x)).2 ⟨x,by rw[treeT_ev hh];exact hx,rfl⟩
  obtain⟨m,hm,e⟩:=List.mem_map.1 h2
  refine List.mem_map.2 ⟨m,hm,?_⟩
  rw[rowU,wdsOf_eq,e,List.map_map,List.map_map]
  rfl
theorem occ_tree {n:Nat}{S:List Nat}{g:(Nat→Bool)→Bool}(hs:∀v,v∈S→v<n)(hg:DepF S g):∀v,occT v (treeT n g)=true→v∈S:=fun v h=>occ_inV (treeT_inV hs hg) h
theorem SCalls.wk {P:Program}{f:FuncId}{xs ys:List VV}{s:St}{Q:SEnd→St→Prop}(h:SCalls P f ys s Q)(hl:xs.length=ys.length)(hw:∀(j:Nat) (x y:VV),xs[j]?=some x→ys[j]?=some y→Wk x y):SCalls P f xs s Q:=by
 intro w0 G w vs hS hR
 refine h w0 G w vs hS ⟨hR.1.trans hl,fun j v y hv hy=>?_⟩
 have hj:j<xs.length:=by rw[hl];exact(List.getElem?_eq_some_iff.1 hy).1
 exact hw j _ y (List.getElem?_eq_getElem hj) hy G v (hR.2 j v _ hv (List.getElem?_eq_getElem hj))
theorem Wk.rowsG {l l':List (List VV)}{o:Own}(hl:l'.length=l.length)
  (hw:∀(i:Nat) (x':List VV),l'[i]?=some x'→∃x,l[i]?=some x∧x'.length=x.length∧∀(j:Nat) (y':VV),x'[j]?=some y'→∃y,x[j]?=some y∧Wk y y'∧(y.one=true→y'.one=true)):Wk (.lst l o) (.lst l' .no):=fun G v h=>by
 generalize hq:VV.lst l o=q at h
 cases h with
 |emp a cap o2 ho=>
  injection hq with hq1 hq2;subst hq1;subst hq2
  obtain rfl:l'=[]:=List.eq_nil_of_length_eq_zero hl
  exact .emp _ _ _ (.inl rfl)
 |lst b' off len cap sz' xs' o f hl2 hc' hz h1' hK hR' ho'=>
  injection hq with hq1 hq2;subst hq1;subst hq2
  refine .lst b' off len cap sz' l' _ f (hl.trans hl2) hc' (fun x hx=>?_) (fun x hx y hy=>?_) hK (fun i j x y hx hy=>?_) (.inl rfl)
  ·obtain⟨i,hi⟩:=List.getElem?_of_mem hx
   obtain⟨x0,h0,h2,_⟩:=hw i x hi
   rw[← hz x0 (List.mem_of_getElem? h0),h2]
  ·obtain⟨i,hi⟩:=List.getElem?_of_mem hx
   obtain⟨j,hj⟩:=List.getElem?_of_mem hy
   obtain⟨x0,h0,_,h2⟩:=hw i x hi
   obtain⟨y0,h3,_,h5⟩:=h2 j y hj
   exact h5 (h1' x0 (List.mem_of_getElem? h0) y0 (List.mem_of_getElem? h3))
  ·obtain⟨x0,h0,_,h2⟩:=hw i x hx
   obtain⟨y0,h3,h4,_⟩:=h2 j y hy
   exact h4 G _ (hR' i j x0 y0 h0 h3)
 |_=>cases hq
def rwsF (rows:List (List Int))(o:Own):List (List VV):=rows.map fun r=>[.lst (intsL r) o]
theorem rwsF_wk (rows:List (List Int))(o o2:Own):Wk (.lst (rwsF rows o) o2) (.lst (rwsC rows) .no):=by
 refine Wk.rowsG (by simp[rwsF,rwsC]) fun i x' hx=>?_
 simp only[rwsC,List.getElem?_map]at hx
 obtain⟨r,hr,rfl⟩:=Option.map_eq_some_iff.1 hx
 refine⟨[.lst (intsL r) o],by simp[rwsF,hr],rfl,fun j y' hy=>?_⟩
 cases j with
 |zero=>
  simp at hy
  subst hy
  exact⟨_,rfl,Wk.lst _ _,fun _=>rfl⟩
 |succ j=>simp at hy
theorem SameRowsF_S (a b:List (List Int))(o1 o2 o3:Own)(ha:RowsOk a)(hb:RowsOk b)(t:St):SRet Tryz.prog 12 [.lst (rwsC a) o1,.lst (rwsF b o2) o3] t (.bool (decide (a=b))) t:=by
 refine SCalls.wk (SameRows_S a b o1 .no ha hb t) rfl fun j x y hx hy=>?_
 match j with
 |0=>simp at hx hy;subst hx;subst hy;exact Wk.refl _
 |1=>simp at hx hy;subst hx;subst hy;exact rwsF_wk _ _ _
 |j+2=>simp at hx
theorem varsOf_two (at_:List (List Nat))(a b:Nat):varsOf at_ [a,b]=at_.getD a []++at_.getD b []:=by simp[varsOf]
theorem btwF_dep (va:List Nat)(lo hi:Nat):DepF va (btwF va lo hi):=fun x y e=>by
 simp only[btwF,numA_congr fun v hv=>e v hv]
theorem OpFC.congr {f:FuncId}{xs:List VV}{s:St}{K:OB}{n B N:Nat}{ns:List Tr}{g g':(Nat→Bool)→Bool}(h:OpFC f xs s K n B ns N g)(hg:∀x,g x=g' x):OpFC f xs s K n B ns N g':=by
 rw[← funext hg];exact h
def szD (x y:Nat):Nat→Nat
 |2=>1+y
 |_=>1+x
theorem dsT_at {x y d:Nat}(h:d<3):(dsT x y)[d]?=some ([65+UInt8.ofNat d],szD x y d):=by
 match d,h with
 |0,_=>rfl
 |1,_=>rfl
 |2,_=>rfl
structure Law (s u:St) (K:OB) (q c:Nat) (ns:List Tr) (x y:Nat) (o:List (List Nat)) (N:Nat):Prop where
 C:CMem u K q c 12 16384 ns (dsT x y) o
 D:DOk 12 (dsT x y) o
 L:o.map (·.length)=[widthN (1+x),widthN (1+x),widthN (1+y)]
 xy:x<16∧y<16
 n:CntN ns N
 fr:∀z,s z≠.free→u z=s z∧¬ K.has z
theorem Law.of {s:St}{x y:Nat}{z:BegA}(h:ThreeR s x y z)(hx:x<16)(hy:y<16):∃o,Law s z.1 z.2.1 z.2.2.1 z.2.2.2 [.lf false,.lf true] x y o 2:=by
 obtain⟨o,hD,hL,hC,hF⟩:=h
 exact⟨o,hC,hD,hL,⟨hx,hy⟩,⟨_,Nat.le_refl _,fun t h=>h⟩,hF⟩
section
variable {s u : St} {K : OB} {q c : Nat} {ns : List Tr} {x y : Nat} {o : List (List Nat)} {N : Nat}
theorem Law.step (h:Law s u K q c ns x y o N){N':Nat}{g:(Nat→Bool)→Bool}{a:IteA}(k:OpF u K 12 16384 ns N' g a):Law s a.1 a.2.1 q c a.2.2 x y o N':=
 ⟨h.C.keep k.m k.k,h.D,h.L,h.xy,k.cnt,fun z hz=>by
  obtain⟨e1,e2⟩:=h.fr z hz
  refine⟨by rw[← e1];exact k.k.out z (by rw[e1];exact hz) e2,fun e3=>?_⟩
  rcases k.k.nw z e3 with e|e
  ·exact e2 e
  ·rw[e1]at e;exact hz e⟩
theorem Law.more (h:Law s u K q c ns x y o N){u':St}(hk:∀z,u z≠.free→u' z=u z):Law s u' K q c ns x y o N:=by
 obtain⟨n1,n2,n3,n4⟩:=h.C.nq
 refine⟨⟨h.C.om.keep fun z hz=>hk z (h.C.om.live hz),(hk _ n3).trans h.C.qo,(hk _ n4).trans h.C.co⟩,h.D,h.L,h.xy,h.n,fun z hz=>?_⟩
 obtain⟨e1,e2⟩:=h.fr z hz
 exact⟨(hk z (by rw[e1];exact hz)).trans e1,e2⟩
theorem Law.from (h:Law s u K q c ns x y o N){s':St}(hk:∀z,s' z≠.free→s z=s' z):Law s' u K q c ns x y o N:=
 ⟨h.C,h.D,h.L,h.xy,h.n,fun z hz=>by
  have e:=hk z hz
  obtain⟨e1,e2⟩:=h.fr z (by rw[e];exact hz)
  exact⟨e1.trans e,e2⟩⟩
theorem Law.mono (h:Law s u K q c ns x y o N){N':Nat}(hN:N≤N'):Law s u K q c ns x y o N':=⟨h.C,h.D,h.L,h.xy,h.n.mono hN,h.fr⟩
theorem Law.fg (h:Law s u K q c ns x y o N):Fg u s:=fun z=>by
 by_cases hz:s z=.free
 ·exact .inl hz
 ·exact .inr (h.fr z hz).1.symm
theorem Law.oat (h:Law s u K q c ns x y o N){d:Nat}(hd:d<3):o[d]?=some (o.getD d []):=by
 have hol:o.length=3:=by have:=congrArg List.length h.L;simpa using this
 rw[List.getD_eq_getElem?_getD,List.getElem?_eq_getElem (by omega)];rfl
theorem Law.wid (h:Law s u K q c ns x y o N){d:Nat}(hd:d<3):(o.getD d []).length=widthN (szD x y d)∧(o.getD d []).length≤4∧1≤szD x y d∧szD x y d≤16∧szD x y d≤2 ^ (o.getD d []).length:=by
 have h1:(o.map (·.length))[d]?=some (o.getD d []).length:=by rw[List.getElem?_map,h.oat hd];rfl
 rw[h.L]at h1
 obtain⟨hx,hy⟩:=h.xy
 have a1:=wid_lt hx
 have a2:=wid_pow hx
 have a3:=wid_lt hy
 have a4:=wid_pow hy
 match d,hd with
 |0,_=>
  simp at h1
  have h2:(o.getD 0 []).length=widthN (1+x):=h1.symm
  rw[h2]
  simp only[szD]
  exact⟨trivial,by omega,by omega,by omega,a2⟩
 |1,_=>
  simp at h1
  have h2:(o.getD 1 []).length=widthN (1+x):=h1.symm
  rw[h2]
  simp only[szD]
  exact⟨trivial,by omega,by omega,by omega,a2⟩
 |2,_=>
  simp at h1
  have h2:(o.getD 2 []).length=widthN (1+y):=h1.symm
  rw[h2]
  simp only[szD]
  exact⟨trivial,by omega,by omega,by omega,a4⟩
theorem Law.tup (h:Law s u K q c ns x y o N){g:(Nat→Bool)→Bool}(hm:treeT 12 g∈ns)(ks:List Nat)(ow:Own)(hks:∀k,k∈ks→k<3)(hl:ks.length≤3)(hnd:ks.Nodup)(hg:DepF (varsOf o ks) g){most:Nat}(hmo:most≤16384){rows:List (List Int)}(hr:sortR (tupR (treeT 12 g) o ks)=rows)(hc:rows.length≤most) :
  SRet Tryz.prog 36 [.ptr c 0,.int .i64 (ixF 12 ns g:Nat),.lst (natsL ks) ow,.int .i64 most] u (.tup [.lst (rwsC rows) .no,.int .i64 0]) u:=by
 have hks2:∀k,k∈ks→k<(dsT x y).length:=hks
 have hv:∀(l:List Nat),(∀k,k∈l→k<3)→(varsOf o l).length≤4 * l.length:=by
  intro l
  induction l with
  |nil=>intro _;simp[varsOf]
  |cons k l ih=>
   intro hl
   have:=ih fun k hk=>hl k (List.mem_cons_of_mem _ hk)
   have h2:=(h.wid (hl k (List.mem_cons_self ..))).2.1
   have e:varsOf o (k::l)=o.getD k []++varsOf o l:=by simp[varsOf]
   rw[e,List.length_append,List.length_cons]
   omega
 have hv4:=hv ks hks
 have hlen:(tupR (treeT 12 g) o ks).length≤most:=by
  have e1:=((List.perm_ext_iff_of_nodup (sortR_rising (tupR (treeT 12 g) o ks)).nodup (tupR_nodup _ _ _)).2 fun r=>sortR_mem).length_eq
  rw[← e1,hr]
  exact hc
 rw[← hr]
 exact Ctuples_S h.C h.D (by omega) ks ow hks2 (by omega) hnd hm (occ_tree (varsOf_lt h.D hks2) hg) (by omega) hmo hlen
end
def SubR (ns:List Tr)(R:Tr)(m:Nat):Prop:=∃U:List Tr,U.length≤m∧∀t,t∈subsT R→t∈ns∨t∈U
theorem FitN.ofR {ns:List Tr}{R:Tr}{N m B:Nat}(h:CntN ns N)(hR:SubR ns R m)(hB:N+m≤B):FitN ns R B:=fun X hX hs=>by
 obtain⟨U,h1,h2⟩:=h
 obtain⟨S,h3,h4⟩:=hR
 have:=nodup_le (Y:=U++S) hX fun x hx=>by
  rw[List.mem_append]
  rcases hs x hx with h|h
  ·exact .inl (h2 x h)
  ·rcases h4 x h with h|h
   ·exact .inl (h2 x h)
   ·exact .inr h
 rw[List.length_append]at this
 omega
theorem CntN.extR {ns ns':List Tr}{R:Tr}{N m:Nat}(h:CntN ns N)(hR:SubR ns R m)(he:ExtN ns ns' R):CntN ns' (N+m):=by
 obtain⟨U,h1,h2⟩:=h
 obtain⟨S,h3,h4⟩:=hR
 refine⟨U++S,by rw[List.length_append];omega,fun t ht=>?_⟩
 rw[List.mem_append]
 rcases he.new t ht with h|h
 ·exact .inl (h2 t h)
 ·rcases h4 t h with h|h
  ·exact .inl (h2 t h)
  ·exact .inr h
theorem SubR.one {n:Nat}{ns:List Tr}(hN:NsOk n ns){v:Nat}{l h:Tr}(hl:l∈ns)(hh:h∈ns):SubR ns (mkT v l h) 1:=by
 refine⟨[mkT v l h],by simp,fun t ht=>?_⟩
 unfold mkT at ht ⊢
 split at ht
 ·exact .inl (hN.subs hl ht)
 ·rename_i e
  rw[if_neg e]
  simp only[subsT,List.mem_cons,List.mem_append]at ht
  rcases ht with rfl|ht|ht
  ·exact .inr (by simp)
  ·exact .inl (hN.subs hl ht)
  ·exact .inl (hN.subs hh ht)
def cubF (l:List (Nat×Bool))(x:Nat→Bool):Bool:=l.all fun p=>x p.1 == p.2
theorem cubF_cons {v:Nat}{b:Bool}{l:List (Nat×Bool)}{x:Nat→Bool}:cubF ((v,b)::l) x=((x v == b) && cubF l x):=by simp[cubF]
theorem cubF_dep {S:List Nat}{l:List (Nat×Bool)}(h:∀p,p∈l→p.1∈S):DepF S (cubF l):=fun x y e=>by
 unfold cubF
 induction l with
 |nil=>rfl
 |cons p l ih=>
  rw[List.all_cons,List.all_cons,ih fun q hq=>h q (List.mem_cons_of_mem _ hq),e _ (h p (List.mem_cons_self ..))]
theorem cubF_ext {l l':List (Nat×Bool)}(h:∀p,p∈l↔p∈l')(x:Nat→Bool):cubF l x=cubF l' x:=by
 rw[Bool.eq_iff_iff]
 simp only[cubF,List.all_eq_true]
 exact⟨fun a p hp=>a p ((h p).2 hp),fun a p hp=>a p ((h p).1 hp)⟩
theorem cubF_app {l l':List (Nat×Bool)}{x:Nat→Bool}:cubF (l++l') x=(cubF l x && cubF l' x):=by simp[cubF]
theorem cubF_step {v:Nat}{b:Bool}{l:List (Nat×Bool)}:(fun x:Nat→Bool=>if x v=true then(if b=true then cubF l else fun _=>false) x else(if b=true then fun _=>false else cubF l) x)=cubF ((v,b)::l):=by
 funext x
 rw[cubF_cons]
 cases b<;>cases x v<;>simp
theorem cubF_zip {n:Nat}{x:Nat→Bool}:∀(vs:List Nat) (i:Nat),n / 2 ^ i<2 ^ vs.length→cubF (zipB n i vs) x=decide (numA vs x=n / 2 ^ i)
 |[],i,h=>by
  simp only[List.length_nil,Nat.pow_zero]at h
  have e:n / 2 ^ i=0:=Nat.lt_one_iff.1 h
  rw[e]
  rfl
 |v::vs,i,h=>by
  have e1:n / 2 ^ i=(n.testBit i).toNat+2 * (n / 2 ^ (i+1)):=by
   rw[Nat.testBit_eq_decide_div_mod_eq,Nat.pow_succ,← Nat.div_div_eq_div_mul]
   rcases Nat.mod_two_eq_zero_or_one (n / 2 ^ i)with e|e<;>simp[e]<;>omega
  have ih:=cubF_zip (n:=n) (x:=x) vs (i+1) (by
   rw[List.length_cons,Nat.pow_succ]at h
   omega)
  rw[Bool.eq_iff_iff,decide_eq_true_iff]
  simp only[zipB,cubF_cons,ih,Bool.and_eq_true,beq_iff_eq,decide_eq_true_eq,numA]
  rw[e1]
  generalize n / 2 ^ (i+1)=m
  generalize numA vs x=A
  cases x v<;>cases n.testBit i<;>simp<;>omega
section
variable {s : St} {K : OB} {n B N m : Nat} {ns : List Tr} {f g : (Nat → Bool) → Bool}
end
theorem Nmk_F1 {s:St}{K:OB}{n B N v:Nat}{ns:List Tr}{f g:(Nat→Bool)→Bool}{S:List Nat}(hO:OMem s K n B ns)(hf:DepF S f)(hg:DepF S g)(hS:∀w,w∈S→v<w∧w<n)(hv:v<n)(mf:treeT n f∈ns)(mg:treeT n g∈ns)(hc:CntN ns N)(hB:N+1≤B) :
  OpFC 79 [.ptr K.s.p 0,.int .i64 v,.int .i64 (ixF n ns f:Nat),.int .i64 (ixF n ns g:Nat)] s K n B ns (N+1) (fun x=>if x v=true then g x else f x):=by
 have ok:∀{h:(Nat→Bool)→Bool},DepF S h→OkT n (v+1) (treeT n h):=fun {h} hd=>by
  have hk:n - (n - (v+1))=v+1:=by omega
  have h1:OkT n (v+1) (treeF n (n - (v+1)) h):=by
   have:=treeF_ok (n:=n) (k:=n - (v+1)) (g:=h) (by omega)
   rwa [hk]at this
  have h2:treeT n h=treeF n (n - (v+1)) h:=treeT_eq h1 fun x=>treeF_ev x (by omega) fun x y e=>hd x y fun w hw=>e w (by have:=hS w hw;omega) (hS w hw).2
  rw[h2];exact h1
 have hT:mkT v (treeT n f) (treeT n g)=treeT n fun x=>if x v=true then g x else f x:=by
  refine(treeT_eq (mkT_ok (Nat.zero_le v) hv (ok hf) (ok hg)) fun x=>?_).symm
  rw[mkT_ev,treeT_ev (hf.hang fun w hw=>(hS w hw).2),treeT_ev (hg.hang fun w hw=>(hS w hw).2)]
 have hone:=SubR.one hO.st.ok (v:=v) mf mg
 have w:=Nmk_S hO.st mf mg (ok hf) (ok hg) hv (.ofR hc hone hB)
 rw[hT]at w hone
 refine SCalls.mono (h:=w) ?_
 rintro w u ⟨⟨u,K',ns'⟩,rfl,rfl,h1,h2,h3⟩
 exact⟨(u,⟨K',K.o,K.c⟩,ns'),rfl,rfl,hO.mk h1 h2 h3,h2.pre,h2.mem,hc.extR hone h2,h3.toO⟩
def wantZ (W:List (Nat×Bool)):List (Int×Bool):=W.map fun p=>((p.1:Int),p.2)
theorem wantZ_none {v:Nat}{W:List (Nat×Bool)}(h:v∉W.map (·.1)):lkZ (v:Int) (wantZ W)=none:=by
 rw[lkZ_none]
 intro h2
 simp only[wantZ,List.map_map,List.mem_map,Function.comp]at h2
 obtain⟨p,hp,e⟩:=h2
 have e2:p.1=v:=by omega
 exact h (e2 ▸ List.mem_map_of_mem hp)
theorem wantZ_add {v:Nat}{b:Bool}{W:List (Nat×Bool)}(h:v∉W.map (·.1)):ptZ (v:Int) b (wantZ W)=wantZ (W++[(v,b)]):=by
 rw[ptZ_new (wantZ_none h)]
 simp[wantZ]
theorem wantZ_some {v:Nat}{b:Bool}:∀{W:List (Nat×Bool)},(W.map (·.1)).Nodup→(v,b)∈W→lkZ (v:Int) (wantZ W)=some b
 |[],_,h=>by cases h
 |p::W,hn,h=>by
  rw[List.map_cons,List.nodup_cons]at hn
  have ih:=wantZ_some (v:=v) (b:=b) hn.2
  simp only[wantZ,List.map_cons,lkZ]at ih ⊢
  rcases List.mem_cons.1 h with rfl|h
  ·rw[if_pos rfl]
  ·have hne:v≠p.1:=fun e=>hn.1 (e ▸ List.mem_map_of_mem h)
   rw[if_neg (by omega),ih h]
theorem zipB_keys {n:Nat}:∀{i:Nat} {vs:List Nat},(zipB n i vs).map (·.1)=vs
 |_,[]=>rfl
 |i,v::vs=>by simp only[zipB,List.map_cons,zipB_keys]
theorem zipB_len {n i:Nat}{vs:List Nat}:(zipB n i vs).length=vs.length:=by
 have:=congrArg List.length (zipB_keys (n:=n) (i:=i) (vs:=vs))
 simpa using this
theorem zipB_at {n v:Nat}:∀{i j:Nat} {vs:List Nat},vs[j]?=some v→(zipB n i vs)[j]?=some (v,n.testBit (i+j))
 |i,j,[],h=>by simp at h
 |i,0,w::vs,h=>by simp at h;subst h;rfl
 |i,j+1,w::vs,h=>by
  simp only[zipB,List.getElem?_cons_succ]at h ⊢
  rw[zipB_at h,show i+1+j=i+(j+1) by omega]
def tupQ (at_:List (List Nat))(Q:List (Nat×Nat)):List (Nat×Bool):=Q.flatMap fun p=>zipB p.2 0 (at_.getD p.1 [])
def offQ (at_:List (List Nat))(Q:List (Nat×Nat))(i:Nat):Nat:=(tupQ at_ (Q.take i)).length
theorem tupQ_split {at_:List (List Nat)}{Q:List (Nat×Nat)}{i k n:Nat}(h:Q[i]?=some (k,n)):tupQ at_ Q=tupQ at_ (Q.take i)++(zipB n 0 (at_.getD k [])++tupQ at_ (Q.drop (i+1))):=by
 have h1:=(List.getElem?_eq_some_iff.1 h)
 obtain⟨hi,e⟩:=h1
 conv=>lhs;rw[← List.take_append_drop i Q,List.drop_eq_getElem_cons hi,e]
 simp only[tupQ,List.flatMap_append,List.flatMap_cons]
theorem offQ_next {at_:List (List Nat)}{Q:List (Nat×Nat)}{i k n:Nat}(h:Q[i]?=some (k,n)):offQ at_ Q (i+1)=offQ at_ Q i+(at_.getD k []).length:=by
 unfold offQ
 rw[List.take_add_one,h]
 simp only[tupQ,Option.toList_some,List.flatMap_append,List.flatMap_cons,List.flatMap_nil,List.append_nil,List.length_append,zipB_len]
theorem offQ_at {at_:List (List Nat)}{Q:List (Nat×Nat)}{i j k n v:Nat}(h:Q[i]?=some (k,n))(hj:(at_.getD k [])[j]?=some v):(tupQ at_ Q)[offQ at_ Q i+j]?=some (v,n.testBit j):=by
 have hl:=(List.getElem?_eq_some_iff.1 hj).1
 rw[tupQ_split h,offQ,List.getElem?_append_right (by omega),Nat.add_sub_cancel_left,List.getElem?_append_left (by rw[zipB_len];exact hl),zipB_at hj,Nat.zero_add]
theorem offQ_end {at_:List (List Nat)}{Q:List (Nat×Nat)}:offQ at_ Q Q.length=(tupQ at_ Q).length:=by rw[offQ,List.take_length]
theorem tupQ_keys {at_:List (List Nat)}:∀{ks vals:List Nat},vals.length=ks.length→(tupQ at_ (ks.zip vals)).map (·.1)=varsOf at_ ks
 |[],_,_=>rfl
 |k::ks,[],h=>by simp at h
 |k::ks,v::vals,h=>by
  have ih:=tupQ_keys (at_:=at_) (ks:=ks) (vals:=vals) (by simpa using h)
  simp only[tupQ,List.zip_cons_cons,List.flatMap_cons,List.map_append,zipB_keys,varsOf]at ih ⊢
  rw[ih]
def tupF (at_:List (List Nat))(ks vals:List Nat)(x:Nat→Bool):Bool:=(ks.zip vals).all fun p=>decide (numA (at_.getD p.1 []) x=p.2)
theorem tupQ_ev {at_:List (List Nat)}{x:Nat→Bool}:∀{Q:List (Nat×Nat)},(∀p,p∈Q→p.2<2 ^ (at_.getD p.1 []).length)→cubF (tupQ at_ Q) x=Q.all fun p=>decide (numA (at_.getD p.1 []) x=p.2)
 |[],_=>rfl
 |p::Q,h=>by
  have ih:=tupQ_ev (at_:=at_) (x:=x) (Q:=Q) fun q hq=>h q (List.mem_cons_of_mem _ hq)
  have h1:=cubF_zip (n:=p.2) (x:=x) (at_.getD p.1 []) 0 (by rw[Nat.pow_zero,Nat.div_one];exact h p (List.mem_cons_self ..))
  rw[Nat.pow_zero,Nat.div_one]at h1
  rw[List.all_cons,← ih,← h1,← cubF_app]
  rfl
theorem tupF_dep (at_:List (List Nat)){ks vals:List Nat}:DepF (varsOf at_ ks) (tupF at_ ks vals):=fun x y e=>by
 unfold tupF
 rw[Bool.eq_iff_iff]
 simp only[List.all_eq_true]
 have key:∀p,p∈ks.zip vals→numA (at_.getD p.1 []) x=numA (at_.getD p.1 []) y:=fun p hp=>numA_congr fun v hv=>e v (List.mem_flatMap.2 ⟨p.1,(List.of_mem_zip (a:=p.1) (b:=p.2) hp).1,hv⟩)
 exact⟨fun h p hp=>by rw[← key p hp];exact h p hp,fun h p hp=>by rw[key p hp];exact h p hp⟩
theorem riseN (V:List Nat)(hn:V.Nodup):∃SL:List Nat,riseZ (V.map fun(k:Nat)=>(k:Int))=SL.map (fun(k:Nat)=>(k:Int))∧SL.Perm V∧SL.Pairwise (·<·):=by
 have hp:=riseZ_perm (V.map fun(k:Nat)=>(k:Int))
 have hw:=riseZ_pw (V.map fun(k:Nat)=>(k:Int))
 generalize riseZ (V.map fun(k:Nat)=>(k:Int))=Z at *
 have hz:(Z.map Int.toNat).map (fun(k:Nat)=>(k:Int))=Z:=by
  rw[List.map_map]
  conv=>rhs;rw[← List.map_id Z]
  apply List.map_congr_left
  intro z hz
  obtain⟨k,_,rfl⟩:=List.mem_map.1 (hp.mem_iff.1 hz)
  rfl
 have hq:(Z.map Int.toNat).Perm V:=by
  have h1:=hp.map Int.toNat
  rw[List.map_map]at h1
  have e:V.map (Int.toNat ∘ fun(k:Nat)=>(k:Int))=V:=by
   conv=>rhs;rw[← List.map_id V]
   apply List.map_congr_left
   intro k _
   rfl
  rwa [e]at h1
 refine⟨Z.map Int.toNat,hz.symm,hq,?_⟩
 have hnd:(Z.map Int.toNat).Nodup:=hq.nodup_iff.2 hn
 rw[← hz,List.pairwise_map]at hw
 refine(hw.and hnd).imp fun {a b} h=>?_
 have:=h.1
 have:=h.2
 omega
def cubL (SL:List Nat)(P:List (Nat×Bool)):List (Nat×Bool):=SL.map fun v=>(v,(lkZ (v:Int) (wantZ P)).getD false)
theorem cubL_ev {SL:List Nat}{P:List (Nat×Bool)}(hP:(P.map (·.1)).Nodup)(hS:SL.Perm (P.map (·.1)))(x:Nat→Bool):cubF (cubL SL P) x=cubF P x:=by
 refine cubF_ext (fun p=>?_) x
 simp only[cubL,List.mem_map]
 constructor
 ·rintro⟨v,hv,rfl⟩
  obtain⟨p,hp,rfl⟩:=List.mem_map.1 (hS.mem_iff.1 hv)
  rw[wantZ_some (b:=p.2) hP hp]
  exact hp
 ·intro hp
  exact⟨p.1,hS.mem_iff.2 (List.mem_map_of_mem hp),by rw[wantZ_some (b:=p.2) hP hp];rfl⟩
structure VarT (s:St) (bm:Nat) (u:St) (x:VV) (W:List (Nat×Bool)):Prop where
 m:u bm=.map (mpZ encB (wantZ W))
 bf:s bm=.free
 r:(W=[]∧x=.raw (.slice none 0 0))∨(W≠[]∧∃g,g≠bm∧s g=.free∧u g=.row 3 1 (ints (W.map fun p=>(p.1:Int)))∧x=.mrw g W.length)
 fr:∀z,s z≠.free→u z=s z
theorem VarT.put0 {s:St}{bm:Nat}{u:St}{x:VV}{v:Nat}{b:Bool}{bM:Nat}{M:Cell}(h:VarT s bm u x [])(hM:(u.set bm M) bM=.free)(he:M=.map (mpZ encB (wantZ [(v,b)]))):VarT s bm ((u.set bm M).set bM (.row 3 1 [.int .i64 (v:Int)])) (.mrw bM 1) [(v,b)]:=by
 have hne:bM≠bm:=fun e=>by rw[e,St.set_same,he]at hM;cases hM
 rw[St.set_other _ _ hne]at hM
 have hs:s bM=.free:=Classical.byContradiction fun h2=>h2 ((h.fr bM h2).symm.trans hM)
 refine⟨by rw[St.set_other _ _ (Ne.symm hne),St.set_same,he],h.bf,.inr ⟨by simp,bM,hne,hs,by rw[St.set_same];rfl,rfl⟩,fun z hz=>?_⟩
 have n1:=(nef hs hz).1
 have n2:=(nef h.bf hz).1
 rw[St.set_other _ _ n1,St.set_other _ _ n2,h.fr z hz]
theorem VarT.put {s:St}{bm g n:Nat}{u:St}{x:VV}{W:List (Nat×Bool)}{v:Nat}{b:Bool}{bM:Nat}{M:Cell}{xs:List VV}(h:VarT s bm u x W)(hg:g≠bm)(hgs:s g=.free)(hM:((u.set bm M).set g .free) bM=.free)(he:M=.map (mpZ encB (wantZ (W++[(v,b)]))))(hx:xs=ints ((W++[(v,b)]).map fun p=>(p.1:Int)))(hn:n=(W++[(v,b)]).length) :
  VarT s bm (((u.set bm M).set g .free).set bM (.row 3 1 xs)) (.mrw bM n) (W++[(v,b)]):=by
 have hne:bM≠bm:=fun e=>by rw[e,St.set_other _ _ (Ne.symm hg),St.set_same,he]at hM;cases hM
 have hs:s bM=.free:=by
  by_cases e:bM=g
  ·rw[e];exact hgs
  ·rw[St.set_other _ _ e,St.set_other _ _ hne]at hM
   exact Classical.byContradiction fun h2=>h2 ((h.fr bM h2).symm.trans hM)
 refine⟨by rw[St.set_other _ _ (Ne.symm hne),St.set_other _ _ (Ne.symm hg),St.set_same,he],h.bf,.inr ⟨by simp,bM,hne,hs,by rw[St.set_same,hx],by rw[hn]⟩,fun z hz=>?_⟩
 rw[St.set_other _ _ (nef hs hz).1,St.set_other _ _ (nef hgs hz).1,St.set_other _ _ (nef h.bf hz).1,h.fr z hz]
structure VarS (s:St) (bm:Nat) (u:St) (x:VV) (W:List (Nat×Bool)) (Z:List Int):Prop where
 m:u bm=.map (mpZ encB (wantZ W))
 r:(x=.raw (.slice none 0 0)∧ints Z=[])∨∃g,g≠bm∧s g=.free∧u g=.row 3 1 (ints Z)∧x=.mrw g (ints Z).length
 fr:∀z,s z≠.free→u z=s z
theorem VarT.sort {s:St}{bm:Nat}{u:St}{x:VV}{W:List (Nat×Bool)}(h:VarT s bm u x W)(hl:W.length≤100000) :
  SCalls Tryz.prog 82 [x] u fun w u'=>∃a:St,w=.ret (.tup [])∧u'=a∧VarS s bm a x W (riseZ ((W.map (·.1)).map fun(k:Nat)=>(k:Int))):=by
 rcases h.r with ⟨hW,hx⟩|⟨hW,g,g1,g2,g3,hx⟩
 ·subst hW hx
  refine SCalls.mono (h:=Isort0_S u) ?_
  rintro w u' ⟨rfl,rfl⟩
  exact⟨_,rfl,rfl,h.m,.inl ⟨rfl,by simp[riseZ,ints]⟩,h.fr⟩
 ·subst hx
  have e:(W.map fun p=>(p.1:Int))=(W.map (·.1)).map fun(k:Nat)=>(k:Int):=by simp
  rw[e]at g3
  have hlen:((W.map (·.1)).map fun(k:Nat)=>(k:Int)).length=W.length:=by simp
  have w:=Isort_S u g 3 ((W.map (·.1)).map fun(k:Nat)=>(k:Int)) (by rw[hlen];omega) g3
  rw[hlen]at w
  refine SCalls.mono (h:=w) ?_
  rintro w u' ⟨rfl,rfl⟩
  refine⟨_,rfl,rfl,?_,.inr ⟨g,g1,g2,St.set_same _ _ _,?_⟩,fun z hz=>?_⟩
  ·rw[St.set_other _ _ (Ne.symm g1)];exact h.m
  ·rw[show (ints (riseZ ((W.map (·.1)).map fun(k:Nat)=>(k:Int)))).length=W.length by simp only[ints,List.length_map,riseZ_len]]
  ·rw[St.set_other _ _ (nef g2 hz).1];exact h.fr z hz
theorem Kp_frzV {P:Program}{N:Nat}{D:List Deferred}{c:Code}{k:List Itm}{Q:Pst}{env:Env}{s u:St}{bm:Nat}{x:VV}{W:List (Nat×Bool)}{Z:List Int}(t:Nat)(h:VarS s bm u x W Z)(ht:env t=x)
  (hk:∀u',u' bm=.map (mpZ encB (wantZ W))→(∀z,s z≠.free→u' z=s z)→Kp P N D (.code c::k) Q .norm (upd env t (.lst (intsL Z) .no)) u'):Kp P N D (.code c::k) Q .norm env u:=by
 rcases h.r with ⟨hx,hZ⟩|⟨g,g1,g2,g3,hx⟩
 ·have e:intsL Z=[]:=by
   have:Z=[]:=by cases Z with|nil=>rfl|cons a l=>simp[ints]at hZ
   rw[this];rfl
  have hk2:=hk u h.m h.fr
  rw[e]at hk2
  exact Kp_wkt t (ht.trans hx) Wk.rawnil hk2
 ·refine Kp_frzR t g _ g3 (ht.trans hx) rfl ?_
  rw[ints_frz]
  refine hk _ ?_ fun z hz=>?_
  ·rw[St.set_other _ _ (Ne.symm g1)];exact h.m
  ·rw[St.set_other _ _ (nef g2 hz).1];exact h.fr z hz
attribute [-go_sem] p_and p_or p_shl p_shr
structure TupI (s:St) (K:OB) (q c n B:Nat) (ns:List Tr) (ds:List (List UInt8×Nat)) (at_:List (List Nat)) (CL:List (Nat×Bool)) (N i:Nat) (s':St) (K':OB) (ns':List Tr):Prop where
 m:CMem s' K' q c n B ns' ds at_
 kp:OKeep s s' K K'
 pre:∃l,ns'=ns++l
 mem:treeT n (cubF (CL.drop i))∈ns'
 cnt:CntN ns' (N+(CL.length - i))
theorem TupI.next {s:St}{K:OB}{q c n B:Nat}{ns:List Tr}{ds:List (List UInt8×Nat)}{at_:List (List Nat)}{CL:List (Nat×Bool)}{N i:Nat}{s':St}{K':OB}{ns':List Tr}{a:IteA}{v:Nat}{b:Bool}
  (I:TupI s K q c n B ns ds at_ CL N (i+1) s' K' ns') (hv:CL[i]?=some (v,b)) (h1:OpF s' K' n B ns' (N+(CL.length - (i+1))+1) (cubF (CL.drop i)) a):TupI s K q c n B ns ds at_ CL N i a.1 a.2.1 a.2.2:=by
 have hl:=(List.getElem?_eq_some_iff.1 hv).1
 refine⟨I.m.keep h1.m h1.k,I.kp.trans h1.k,pre_trans I.pre h1.pre,h1.mem,h1.cnt.mono (by omega)⟩
theorem TupI.mk1 {s:St}{K:OB}{q c n B:Nat}{ns:List Tr}{ds:List (List UInt8×Nat)}{at_:List (List Nat)}{CL:List (Nat×Bool)}{N i:Nat}{s':St}{K':OB}{ns':List Tr}{v:Nat}{b:Bool}
  (I:TupI s K q c n B ns ds at_ CL N (i+1) s' K' ns') (hv:CL[i]?=some (v,b)) (hp:(CL.map (·.1)).Pairwise (·<·)) (hlt:∀p,p∈CL→p.1<n) (hB:N+CL.length≤B) :
  OpFC 79 [.ptr K'.s.p 0,.int .i64 v,.int .i64 (if b=true then 0 else(ixF n ns' (cubF (CL.drop (i+1))):Nat)),.int .i64 (if b=true then(ixF n ns' (cubF (CL.drop (i+1))):Nat)else 0)] s' K' n B ns' (N+(CL.length - (i+1))+1) (cubF (CL.drop i)):=by
 obtain⟨hl,e⟩:=List.getElem?_eq_some_iff.1 hv
 have hd:CL.drop i=(v,b)::CL.drop (i+1):=by rw[List.drop_eq_getElem_cons hl,e]
 have c0:=I.m.om.c0.1
 have hS:∀w,w∈(CL.drop (i+1)).map (·.1)→v<w∧w<n:=fun w hw=>by
  have h1:=hp.sublist ((List.drop_sublist i CL).map (·.1))
  rw[hd,List.map_cons,List.pairwise_cons]at h1
  obtain⟨p,hp2,rfl⟩:=List.mem_map.1 hw
  exact⟨h1.1 _ hw,hlt p (List.mem_of_mem_drop hp2)⟩
 have hvn:=hlt _ (List.mem_of_getElem? hv)
 have hdep:DepF ((CL.drop (i+1)).map (·.1)) (cubF (CL.drop (i+1))):=cubF_dep fun p hp2=>List.mem_map_of_mem hp2
 have hst:=cubF_step (v:=v) (b:=b) (l:=CL.drop (i+1))
 rw[← hd]at hst
 cases b with
 |true=>
  have w:=Nmk_F1 I.m.om (f:=fun _=>false) (g:=cubF (CL.drop (i+1))) (v:=v) (S:=(CL.drop (i+1)).map (·.1)) (fun _ _ _=>rfl) hdep hS hvn c0.1 I.mem I.cnt (by omega)
  simp only[if_true]at hst
  rw[hst,c0.2]at w
  exact w
 |false=>
  have w:=Nmk_F1 I.m.om (f:=cubF (CL.drop (i+1))) (g:=fun _=>false) (v:=v) (S:=(CL.drop (i+1)).map (·.1)) hdep (fun _ _ _=>rfl) hS hvn I.mem c0.1 I.cnt (by omega)
  simp only[Bool.false_eq_true,if_false]at hst
  rw[hst,c0.2]at w
  exact w
set_option maxHeartbeats 16000000 in
theorem Ctuple_S {s:St}{KK:OB}{q c n B N:Nat}{ns:List Tr}{ds:List (List UInt8×Nat)}{at_:List (List Nat)}(hC:CMem s KK q c n B ns ds at_)(hD:DOk n ds at_)(ks vals:List Nat)(ow ow2:Own)(hks:∀k,k∈ks→k<ds.length)(hl:ks.length≤32)(hnd:ks.Nodup)(hvl:vals.length=ks.length)
  (hvs:∀(i k v:Nat) (x:List UInt8×Nat),ks[i]?=some k→vals[i]?=some v→ds[k]?=some x→v<x.2) (hc:CntN ns N) (hB:N+(varsOf at_ ks).length≤B) :
  OpFC 52 [.ptr c 0,.lst (natsL ks) ow,.lst (natsL vals) ow2] s KK n B ns (N+(varsOf at_ ks).length) (tupF at_ ks vals):=by
 have wv:=Cvars_S hC hD ks ow hks hl
 rw[if_pos hnd]at wv
 have hVN:=varsOf_nd hD hnd hks
 have hVL:=varsOf_lt hD hks
 have hln:(natsL ks).length=ks.length:=natsL_len
 have hln2:(natsL vals).length=ks.length:=by rw[natsL_len,hvl]
 obtain⟨P,hP⟩:∃P,P=tupQ at_ (ks.zip vals):=⟨_,rfl⟩
 have hPk:P.map (·.1)=varsOf at_ ks:=by rw[hP];exact tupQ_keys hvl
 have hPl:P.length=(varsOf at_ ks).length:=by rw[← hPk,List.length_map]
 have hzl:(ks.zip vals).length=ks.length:=by rw[List.length_zip,hvl,Nat.min_self]
 have hQat:∀i k v,ks[i]?=some k→vals[i]?=some v→(ks.zip vals)[i]?=some (k,v):=fun i k v h1 h2=>by
  rw[List.getElem?_zip_eq_some]
  exact⟨h1,h2⟩
 have hfit:∀i k v,ks[i]?=some k→vals[i]?=some v→v<2 ^ (at_.getD k []).length∧(at_.getD k []).length≤30:=fun i k v h1 h2=>by
  obtain⟨nm,sz,l,g1,g2,g3,g4,g5,g6,g7⟩:=hD.get (hks k (List.mem_of_getElem? h1))
  have e:at_.getD k []=l:=by rw[List.getD_eq_getElem?_getD,g2];rfl
  have:=hvs i k v _ h1 h2 g1
  have h4:=hD.w k _ _ g1 g2
  rw[e]
  exact⟨Nat.lt_of_lt_of_le this h4.2.1,g6⟩
 have hev:cubF P=tupF at_ ks vals:=by
  funext x
  rw[hP]
  refine tupQ_ev fun p hp=>?_
  obtain⟨i,hi,e⟩:=List.mem_iff_getElem.1 hp
  have h1:(ks.zip vals)[i]?=some p:=by rw[List.getElem?_eq_getElem hi,e]
  rw[List.getElem?_zip_eq_some]at h1
  exact(hfit i _ _ h1.1 h1.2).1
 have hlv30:(varsOf at_ ks).length≤960:=by
  have:∀l:List Nat,(∀k,k∈l→k<ds.length)→(varsOf at_ l).length≤30 * l.length:=by
   intro l
   induction l with
   |nil=>intro _;simp[varsOf]
   |cons k l ih=>
    intro h
    have h1:=ih fun k hk=>h k (List.mem_cons_of_mem _ hk)
    have h2:=(hD.getD (h k (List.mem_cons_self ..))).2.1
    have e:varsOf at_ (k::l)=at_.getD k []++varsOf at_ l:=by simp[varsOf]
    rw[e,List.length_append,List.length_cons]
    omega
  have:=this ks hks
  omega
 have hrow:∀i,i<ks.length→∃(k v:Nat) (nm:List UInt8) (sz:Nat),ks[i]?=some k∧(natsL ks)[i]?=some [.int .i64 (k:Int)]∧(natsL vals)[i]?=some [.int .i64 (v:Int)]∧(domsC ds)[k]?=some [.str nm,.int .i64 ((sz:Nat):Int)]∧v<sz∧(atC at_)[k]?=some [.lst (natsL (at_.getD k [])) .no]∧v<2 ^ (at_.getD k []).length∧(at_.getD k []).length≤30∧(ks.zip vals)[i]?=some (k,v):=fun i hi=>by
  have h1:=List.getElem?_eq_getElem hi
  have h2:=List.getElem?_eq_getElem (l:=vals) (i:=i) (by omega)
  obtain⟨nm,sz,l,g1,g2,g3,g4,g5,g6,g7⟩:=hD.get (hks _ (List.mem_of_getElem? h1))
  have e:at_.getD ks[i] []=l:=by rw[List.getD_eq_getElem?_getD,g2];rfl
  obtain⟨f1,f2⟩:=hfit i _ _ h1 h2
  exact⟨_,_,nm,sz,h1,natsL_at h1,natsL_at h2,domsC_at g1,hvs i _ _ _ h1 h2 g1,by rw[e];exact atC_at g2,f1,f2,hQat i _ _ h1 h2⟩
 obtain⟨SL,hr1,hr2,hr3⟩:=riseN _ hVN
 have hco:=hC.co
 have hcf:s c≠.free:=by rw[hco];simp
 have HC:=Lib.hid hC
 have HROW:=Lib.hid hrow
 have HPK:=Lib.hid hPk
 have HP:=Lib.hid hP
 have HEV:=Lib.hid hev
 have HVN:=Lib.hid hVN
 have HVL:=Lib.hid hVL
 have HR:=Lib.hid (And.intro hr1 (And.intro hr2 hr3))
 have HCN:=Lib.hid (And.intro hc hB)
 have HZL:=Lib.hid hzl
 have HPL:=Lib.hid hPl
 clear hC hD hks hnd hvl hvs hc hB hVN hVL hP hPk hPl hzl hQat hfit hev hrow hr1 hr2 hr3
 obtain⟨D,hDD⟩:∃D,D=domsC ds:=⟨_,rfl⟩
 obtain⟨A,hAA⟩:∃A,A=atC at_:=⟨_,rfl⟩
 rw[← hAA,← hDD]at hco
 have HAA:=Lib.hid hAA
 have HDD:=Lib.hid hDD
 clear hAA hDD
 obtain⟨VK,hVK⟩:∃V,V=natsL ks:=⟨_,rfl⟩
 obtain⟨VV2,hVV2⟩:∃V,V=natsL vals:=⟨_,rfl⟩
 obtain⟨VW,hVW⟩:∃V,V=natsL (varsOf at_ ks):=⟨_,rfl⟩
 rw[← hVK]at wv hln ⊢
 rw[← hVV2]at hln2 ⊢
 rw[← hVW]at wv
 have HVK:=Lib.hid hVK
 have HVV:=Lib.hid hVV2
 unfold OpFC
 clear hVK hVV2 hVW
 refine G_enter Tryz.func52 rfl Tryz.ntmps52 rfl fun Q hQ hQe=>?_
 (repeat'(first|(with_reducible refine Kp_atQ 6 ?_)|refine Ctl ?_|((with_reducible refine Kof.use hK ?_);clear hK hE K E)|((with_reducible refine W_cond (fun h=>?_) (fun h=>?_))<;>(try(exfalso;assumption)))|((first|(with_reducible first|refine G_region fun K E hK hE=>?_|refine call_ret can41 (wv) ?_)|((with_reducible refine W_fresh (fun b hb=>?_))))<;>(try simp(disch:=omega) only[go_sem,seval,hln,hln2, *]))))
 unfold StopQ
 obtain⟨bm,hbm⟩:∃z,z=b:=⟨_,rfl⟩
 subst hbm
 refine Kp_rawnil 11 (z_sl) ?_
 have V0:VarT s bm (s.set bm (.map [])) (.raw (.slice none 0 0)) []:=⟨St.set_same _ _ _,hb,.inl ⟨rfl,rfl⟩,fun z hz=>St.set_other _ _ (nef hb hz).1⟩
 have HV0:=Lib.hid V0
 have HB:=Lib.hid hb
 clear V0 wv
 (repeat'(first|refine Ctl ?_|((with_reducible refine Kof.use hK ?_);clear hK hE K E)|(((with_reducible refine G_region fun K E hK hE=>?_))<;>(try simp(disch:=omega) only[go_sem,seval,hln, *]))))
 refine G_loop (fun m env s'=>∃(i:Nat) (x:VV),i≤ks.length∧m+i=ks.length∧Hid (VarT s bm s' x (P.take (offQ at_ (ks.zip vals) i)))∧env 0=.ptr c 0∧env 2=.lst VV2 ow2∧env 10=.mp bm∧env 11=x∧env 40=.lst VK ow∧env 41=.int .i64 ks.length∧env 42=.int .i64 i) ks.length ?_ ?_
 ·exact⟨_,Fg.refl _,0,_,by omega,by omega,HV0,z_sl,z_sl,z_sl,z_sl,z_sl,z_sl,z_sl⟩
 clear HV0
 rintro m env u ⟨i,x,hi,hmi,HV,e0,e2,e10,e11,e40,e41,e42⟩
 by_cases h2:i<ks.length
 ·obtain⟨k,v,nm,sz,q1,q2,q3,q4,q5,q6,q7,q8,q9⟩:=HROW.out i h2
  rw[← HVK.out]at q2
  rw[← HVV.out]at q3
  rw[← HDD.out]at q4
  rw[← HAA.out]at q6
  have huco:u c=.obj 132 [.ptr q 0,.lst D .no,.lst A .no]:=(HV.out.fr c hcf).trans hco
  have hwl:(natsL (at_.getD k [])).length=(at_.getD k []).length:=natsL_len
  have wb:=fun s=>Bput_S s v (at_.getD k []).length (by omega) q7
  have hbl:(bitsL v (at_.getD k []).length).length=(at_.getD k []).length:=bitsL_len
  have hnx:=offQ_next (at_:=at_) q9
  have c1:¬ (v:Int)<0:=by omega
  have c2:¬ ((sz:Nat):Int)≤(v:Int):=by omega
  have hinn:∀j,j<(at_.getD k []).length→∃vj:Nat,(natsL (at_.getD k []))[j]?=some [.int .i64 (vj:Int)]∧(bitsL v (at_.getD k []).length)[j]?=some [.bool (v.testBit j)]∧P[offQ at_ (ks.zip vals) i+j]?=some (vj,v.testBit j):=fun j hj=>by
   have h1:=List.getElem?_eq_getElem hj
   exact⟨_,natsL_at h1,bitsL_at hj,by rw[HP.out];exact offQ_at q9 h1⟩
  have HNX:=Lib.hid hnx
  have HIN:=Lib.hid hinn
  clear hnx hinn q1 q5 q7 q9
  generalize hVA:natsL (at_.getD k [])=VA at *
  generalize hBL:bitsL v (at_.getD k []).length=BL at *
  generalize hwv:(at_.getD k []).length=w at *
  clear hVA hBL hwv
  have HV0:Hid (VarT s bm u x (P.take (offQ at_ (ks.zip vals) i+0))):=HV
  clear HV
  (repeat'(first|refine Ctl ?_|(with_reducible first|(refine Kof.use hK ?_;clear hK hE K E)|(refine Kof.use hKh ?_;clear hKh Kh)|(refine Kof.use hKb (P_next ?_);clear hKb Kb)|refine G_plan 9 [] [0,1,2,3,4,5,6,7,8,9,10,11,12,13,14,15,16,17,18,19] hQe fun K E hK hE=>?_|refine G_plan 11 [([0,1,2,3,4,5,6,7,8,9,10,11],12,[[]])] [13,14,15,16,17] hQe fun K E hK hE=>?_)|((with_reducible refine W_cond (fun h=>?_) (fun h=>?_))<;>(try(exfalso;assumption)))|(((with_reducible first|refine G_region fun K E hK hE=>?_|refine call_ret can81 (wb _) ?_|refine P_heads fun Kh hKh=>?_|refine P_fin fun Kh hKh=>?_|refine P_each fun Kb hKb=>?_))<;>(try simp(disch:=omega) only[go_sem,seval,q2,q3,q4,q6,c1,c2,hwl,hbl, *]))))
  refine G_loop (fun m2 env s'=>∃(j:Nat) (x:VV),j≤w∧m2+j=w∧Hid (VarT s bm s' x (P.take (offQ at_ (ks.zip vals) i+j)))∧env 0=.ptr c 0∧env 2=.lst VV2 ow2∧env 10=.mp bm∧env 11=x∧env 13=.int .i64 k∧env 40=.lst VK ow∧env 41=.int .i64 ks.length∧env 42=.int .i64 i∧env 83=.lst BL .no∧env 84=.int .i64 w∧env 85=.int .i64 j) w ?_ ?_
  ·exact⟨_,Fg.refl _,0,_,by omega,by omega,HV0,z_sl,z_sl,z_sl,z_sl,z_sl,z_sl,z_sl,z_sl,z_sl,z_sl,z_sl⟩
  clear HV0 e0 e2 e10 e11 e40 e41 e42 huco x
  rintro m2 env u ⟨j,x,hj,hmj,HV,e0,e2,e10,e11,e13,e40,e41,e42,e83,e84,e85⟩
  have huco:u c=.obj 132 [.ptr q 0,.lst D .no,.lst A .no]:=(HV.out.fr c hcf).trans hco
  have hum:=HV.out.m
  have hcb:c≠bm:=fun e=>hcf (e ▸ HB.out)
  by_cases h3:j<w
  ·obtain⟨vj,p1,p2,p3⟩:=HIN.out j h3
   generalize v.testBit j=bj at *
   have htk:P.take (offQ at_ (ks.zip vals) i+(j+1))=P.take (offQ at_ (ks.zip vals) i+j)++[(vj,bj)]:=by
    rw[← Nat.add_assoc,List.take_add_one,p3];rfl
   have hni:vj∉(P.take (offQ at_ (ks.zip vals) i+j)).map (·.1):=fun hm=>by
    have h5:List.Sublist ((P.take (offQ at_ (ks.zip vals) i+(j+1))).map (·.1)) (P.map (·.1)):=(List.take_sublist _ _).map _
    rw[HPK.out]at h5
    have h6:=HVN.out.sublist h5
    rw[htk,List.map_append,List.nodup_append]at h6
    exact h6.2.2 _ hm _ (by simp) rfl
   have hpt:=wantZ_add (b:=bj) hni
   have hWl:(P.take (offQ at_ (ks.zip vals) i+j)).length≤1000:=by
    rw[List.length_take,HPL.out];omega
   have HTK:=Lib.hid htk
   clear htk hni p3
   generalize P.take (offQ at_ (ks.zip vals) i+j)=W at *
   have hne2:bm≠c:=Ne.symm hcb
   rcases HV.out.r with ⟨hW,hx⟩|⟨hW,g,g1,g2,g3,hx⟩
   ·subst hW hx
    simp only[List.nil_append]at hpt HTK
    have HH:=Lib.hid (And.intro HV.out hpt)
    generalize hZ0:wantZ []=Z0 at *
    generalize hZ1:wantZ [(vj,bj)]=Z1 at *
    have HZ:=Lib.hid hZ1
    clear hZ1 HV hZ0
    (repeat'(first|refine Ctl ?_|((with_reducible refine Kof.use hK ?_);clear hK hE K E)|((with_reducible refine W_cond (fun h=>?_) (fun h=>?_))<;>(try(exfalso;assumption)))|((first|(with_reducible refine G_region fun K E hK hE=>?_)|((with_reducible refine W_app0 (fun bM hM=>?_))))<;>(try simp(disch:=omega) only[go_sem,seval,p1,p2,q6,hpt, *]))))
    all_goals exact⟨_,Fg.refl _,m2 - 1,by omega,j+1,_,by omega,by omega,Lib.hid (by rw[HTK.out];exact HH.out.1.put0 hM (by rw[HZ.out])),z_sl,z_sl,z_sl,z_sl,z_sl,z_sl,z_sl,z_sl,z_sl,z_sl,z_sl⟩
   ·subst hx
    have hxl:(ints (W.map fun p=>(p.1:Int))).length=W.length:=by simp[ints]
    have hxa:ints ((W++[(vj,bj)]).map fun p=>(p.1:Int))=ints (W.map fun p=>(p.1:Int))++[.int .i64 (vj:Int)]:=by simp[ints]
    have hwa:(W++[(vj,bj)]).length=W.length+1:=by simp
    have hgc:g≠c:=fun e=>hcf (e ▸ g2)
    have hgc2:c≠g:=Ne.symm hgc
    have hgb2:bm≠g:=Ne.symm g1
    have HH:=Lib.hid (And.intro HV.out (And.intro hpt (And.intro hxa (And.intro hwa g2))))
    generalize hZ0:wantZ W=Z0 at *
    generalize hZ1:wantZ (W++[(vj,bj)])=Z1 at *
    have HZ:=Lib.hid hZ1
    clear hZ1 HV hZ0 hxa hwa hW
    generalize hXS:ints (W.map fun p=>(p.1:Int))=XS at *
    generalize hwl3:W.length=wl at *
    have HXS:=Lib.hid hXS
    have HWL:=Lib.hid hwl3
    clear hXS hwl3
    (repeat'(first|refine Ctl ?_|((with_reducible refine Kof.use hK ?_);clear hK hE K E)|((with_reducible refine W_cond (fun h=>?_) (fun h=>?_))<;>(try(exfalso;assumption)))|((first|(with_reducible refine G_region fun K E hK hE=>?_)|((with_reducible refine W_appM (fun bM hM=>?_))))<;>(try simp(disch:=omega) only[go_sem,seval,p1,p2,q6,hpt,Nat.mul_one,hxl, *]))))
    all_goals exact⟨_,Fg.refl _,m2 - 1,by omega,j+1,_,by omega,by omega,Lib.hid (by rw[HTK.out];exact HH.out.1.put g1 HH.out.2.2.2.2 hM (by rw[HZ.out]) HH.out.2.2.1.symm HH.out.2.2.2.1.symm),z_sl,z_sl,z_sl,z_sl,z_sl,z_sl,z_sl,z_sl,z_sl,z_sl,z_sl⟩
  ·have hjw:j=w:=by omega
   subst hjw
   have hv:=HV.out
   rw[← HNX.out]at hv
   have HV2:=Lib.hid hv
   clear HV hv hum
   (repeat'(first|refine Ctl ?_|((with_reducible refine Kof.use hK ?_);clear hK hE K E)|((with_reducible refine W_cond (fun h=>?_) (fun h=>?_))<;>(try(exfalso;assumption)))|(((with_reducible refine G_region fun K E hK hE=>?_))<;>(try simp(disch:=omega) only[go_sem,seval,hbl, *]))))
   all_goals exact⟨_,Fg.refl _,m - 1,by omega,i+1,_,by omega,by omega,HV2,z_sl,z_sl,z_sl,z_sl,z_sl,z_sl,z_sl⟩
 ·have hie:i=ks.length:=by omega
  have hv:=HV.out
  rw[hie,← HZL.out,offQ_end,← HP.out,List.take_length]at hv
  have ws:=hv.sort (by rw[HPL.out];omega)
  rw[HPK.out,HR.out.1]at ws
  clear HV hv
  (repeat'(first|refine Ctl ?_|((with_reducible refine Kof.use hK ?_);clear hK hE K E)|((with_reducible refine W_cond (fun h=>?_) (fun h=>?_))<;>(try(exfalso;omega)))|(((with_reducible refine G_region fun K E hK hE=>?_))<;>(try simp(disch:=omega) only[go_sem,seval,hln, *]))))
  refine call_ex can82 ws (fun a h=>?_)
  have HS:=Lib.hid h
  clear h ws
  simp only[go_sem,seval]
  (repeat'(first|(with_reducible refine Kp_atQ 20 ?_)|refine Ctl ?_|((with_reducible refine Kof.use hK ?_);clear hK hE K E)))
  unfold StopQ
  refine Kp_frzV 11 HS.out (z_sl) fun uF hum hfr=>?_
  clear HS
  have hSN:intsL (SL.map fun(k:Nat)=>(k:Int))=natsL SL:=(natsL_ints SL).symm
  rw[hSN]
  have hSl:(natsL SL).length=SL.length:=natsL_len
  have hSL9:SL.length≤960:=by rw[HR.out.2.1.length_eq];exact hlv30
  have hC:=HC.out
  have hCF:CMem uF KK q c n B ns ds at_:=by
   obtain⟨n1,n2,n3,n4⟩:=hC.nq
   exact⟨hC.om.keep fun z hz=>hfr z (hC.om.live hz),(hfr _ n3).trans hC.qo,(hfr _ n4).trans hC.co⟩
  have hk0:OKeep s uF KK KK:=⟨rfl,rfl,rfl,fun z hz=>.inl hz,fun z hz _=>hfr z hz⟩
  have hbK:¬ KK.has bm:=fun h=>hC.om.live h HB.out
  obtain⟨CL,hCL⟩:∃CL,CL=cubL SL P:=⟨_,rfl⟩
  have hCLk:CL.map (·.1)=SL:=by rw[hCL,cubL,List.map_map];exact List.map_id _
  have hCLl:CL.length=SL.length:=by rw[← hCLk,List.length_map]
  have hPn:(P.map (·.1)).Nodup:=by rw[HPK.out];exact HVN.out
  have hev2:cubF CL=tupF at_ ks vals:=by
   rw[← HEV.out,hCL]
   funext x
   exact cubL_ev hPn (by rw[HPK.out];exact HR.out.2.1) x
  have hat:∀i (v:Nat),SL[i]?=some v→(natsL SL)[i]?=some [VV.int .i64 (v:Int)]∧CL[i]?=some (v,(lkZ (v:Int) (wantZ P)).getD false):=fun i v h=>⟨natsL_at h,by rw[hCL,cubL,List.getElem?_map,h];rfl⟩
  have hpw:(CL.map (·.1)).Pairwise (·<·):=by rw[hCLk];exact HR.out.2.2
  have hlt:∀p,p∈CL→p.1<n:=fun p hp=>HVL.out _ (HR.out.2.1.mem_iff.1 (by rw[← hCLk];exact List.mem_map_of_mem hp))
  have hBB:N+CL.length≤B:=by rw[hCLl,HR.out.2.1.length_eq];exact HCN.out.2
  have c0:=hC.om.c0.2
  have hI0:TupI uF KK q c n B ns ds at_ CL N SL.length uF KK ns:=⟨hCF,.refl _ _,⟨[],by simp⟩,by rw[← hCLl,List.drop_length];exact c0.1,by rw[hCLl,Nat.sub_self];exact HCN.out.1⟩
  have h18:ixF n ns (cubF (CL.drop SL.length))=1:=by rw[← hCLl,List.drop_length];exact c0.2
  have HI0:=Lib.hid hI0
  have HK0:=Lib.hid hk0
  have HBK:=Lib.hid hbK
  have HEV2:=Lib.hid hev2
  have HAT:=Lib.hid hat
  have HMK:=Lib.hid (And.intro hpw (And.intro hlt hBB))
  have HLN:=Lib.hid (hCLl.trans HR.out.2.1.length_eq)
  have HUM:=Lib.hid hum
  clear hC hCF hk0 hbK hCL hCLk hCLl hPn hev2 hat hpw hlt hBB c0 hI0 hSN HR HROW HPK HP HEV HVN HVL HZL HPL HVK HVV HCN hlv30
  generalize natsL SL=VS at *
  generalize hsl:SL.length=sl at *
  have HSL:=Lib.hid hsl
  clear hsl
  obtain⟨WZ,hWZ⟩:∃WZ,WZ=wantZ P:=⟨_,rfl⟩
  rw[← hWZ]at hum HUM HAT
  clear hWZ
  (repeat'(first|refine Ctl ?_|((with_reducible refine Kof.use hK ?_);clear hK hE K E)|(((with_reducible refine G_region fun K E hK hE=>?_))<;>(try simp(disch:=omega) only[go_sem,seval,hSl, *]))))
  refine G_loop (fun m env s'=>∃(K':OB) (ns':List Tr),m≤sl∧Hid (TupI uF KK q c n B ns ds at_ CL N m s' K' ns')∧s' bm=.map (mpZ encB WZ)∧env 0=.ptr c 0∧env 10=.mp bm∧env 11=.lst VS .no∧env 18=.int .i64 (ixF n ns' (cubF (CL.drop m)):Nat)∧env 19=.int .i64 ((m:Int) - 1)) sl ?_ ?_
  ·exact⟨_,Fg.refl _,KK,ns,by omega,HI0,hum,z_sl,z_sl,z_sl,by(rw[h18];((try simp(disch:=assumption) only[go_sem,seval, *])<;>rfl)),z_sl⟩
  clear HI0 h18 hum e0 e2 e10 e11 e40 e41 e42
  rintro m env s' ⟨K',ns',hm,HI,hsb,e0,e10,e11,e18,e19⟩
  have I:=HI.out
  have hbK':¬ K'.has bm:=fun h=>by
   rcases I.kp.nw bm h with h|h
   ·exact HBK.out h
   ·have:=HUM.out;rw[h]at this;cases this
  cases m with
  |succ i=>
   obtain⟨v,hv⟩:∃v,SL[i]?=some v:=⟨_,List.getElem?_eq_getElem (by rw[HSL.out];omega)⟩
   obtain⟨hx,hCLi⟩:=HAT.out i v hv
   obtain⟨d,cc,ho⟩:=I.m.om.op
   have wq:=Qops_S s' q K'.o K'.s.p I.m.qo
   have wst:=Ostore_S s' K'.o K'.s.p d cc ho
   have hco':=I.m.co
   have wm:=I.mk1 hCLi HMK.out.1 HMK.out.2.1 HMK.out.2.2
   have e:(((i+1:Nat):Int) - 1)=(i:Int):=by omega
   rw[e]at e19
   have hnxt:=fun(a:IteA) h=>I.next (a:=a) hCLi h
   have HNXT:=Lib.hid hnxt
   have HBK':=Lib.hid hbK'
   unfold OpFC at wm
   have hc0:(0:Int)≤(i:Int):=by omega
   clear I HI ho hv hnxt hbK' e hCLi
   generalize ixF n ns' (cubF (CL.drop (i+1)))=kz at *
   generalize hlk:(lkZ (v:Int) WZ).getD false=bv at *
   cases bv with
   |true=>
    simp only[if_true]at wm
    (repeat'(first|refine Ctl ?_|((with_reducible refine Kof.use hK ?_);clear hK hE K E)|((with_reducible refine W_cond (fun h=>?_) (fun h=>?_))<;>(try(exfalso;assumption)))|(((with_reducible first|refine G_region fun K E hK hE=>?_|refine call_ret can39 (wq) ?_|refine call_ret can57 (wst) ?_))<;>(try simp(disch:=omega) only[go_sem,seval,hSl,hx,hlk, *]))))
    refine call_ex can79 wm (fun a h=>?_)
    obtain⟨u2,K2,ns2⟩:=a
    have I2:=Lib.hid (HNXT.out _ h)
    have hbm2:u2 bm=.map (mpZ encB WZ):=(h.k.out bm (by rw[hsb];simp) HBK'.out).trans hsb
    clear h wm HNXT
    dsimp only at hbm2 I2 ⊢
    simp only[go_sem,seval]
    (repeat'(first|refine Ctl ?_|((with_reducible refine Kof.use hK ?_);clear hK hE K E)|((with_reducible refine W_cond (fun h=>?_) (fun h=>?_))<;>(try(exfalso;assumption)))|(((with_reducible refine G_region fun K E hK hE=>?_))<;>(try simp(disch:=omega) only[go_sem,seval, *]))))
    all_goals exact⟨_,Fg.refl _,i,by omega,K2,ns2,by omega,I2,hbm2,z_sl,z_sl,z_sl,z_sl,z_sl⟩
   |false=>
    simp only[Bool.false_eq_true,if_false]at wm
    (repeat'(first|refine Ctl ?_|((with_reducible refine Kof.use hK ?_);clear hK hE K E)|((with_reducible refine W_cond (fun h=>?_) (fun h=>?_))<;>(try(exfalso;assumption)))|(((with_reducible first|refine G_region fun K E hK hE=>?_|refine call_ret can39 (wq) ?_|refine call_ret can57 (wst) ?_))<;>(try simp(disch:=omega) only[go_sem,seval,hSl,hx,hlk, *]))))
    refine call_ex can79 wm (fun a h=>?_)
    obtain⟨u2,K2,ns2⟩:=a
    have I2:=Lib.hid (HNXT.out _ h)
    have hbm2:u2 bm=.map (mpZ encB WZ):=(h.k.out bm (by rw[hsb];simp) HBK'.out).trans hsb
    clear h wm HNXT
    dsimp only at hbm2 I2 ⊢
    simp only[go_sem,seval]
    (repeat'(first|refine Ctl ?_|((with_reducible refine Kof.use hK ?_);clear hK hE K E)|((with_reducible refine W_cond (fun h=>?_) (fun h=>?_))<;>(try(exfalso;assumption)))|(((with_reducible refine G_region fun K E hK hE=>?_))<;>(try simp(disch:=omega) only[go_sem,seval, *]))))
    all_goals exact⟨_,Fg.refl _,i,by omega,K2,ns2,by omega,I2,hbm2,z_sl,z_sl,z_sl,z_sl,z_sl⟩
  |zero=>
   have e:(((0:Nat):Int) - 1)=-1:=rfl
   rw[e]at e19
   have hmem:=I.mem
   have hcnt:=I.cnt
   rw[List.drop_zero,HEV2.out]at hmem
   rw[List.drop_zero,HEV2.out]at e18
   rw[Nat.sub_zero,HLN.out]at hcnt
   have HRR:Hid (OpF s KK n B ns (N+(varsOf at_ ks).length) (tupF at_ ks vals) (s',K',ns')):=Lib.hid ⟨I.m.om,I.pre,hmem,hcnt,HK0.out.trans I.kp⟩
   clear I HI hmem hcnt
   (repeat'(first|refine Ctl ?_|((with_reducible refine Kof.use hK ?_);clear hK hE K E)|((with_reducible refine W_cond (fun h=>?_) (fun h=>?_))<;>(try(exfalso;assumption)))|(((with_reducible refine G_region fun K E hK hE=>?_))<;>(try simp(disch:=omega) only[go_sem,seval, *]))))
   all_goals(refine W_ret res52 hQ ?_)
   all_goals exact⟨_,_,Wk.refl _,Fg.refl _,mkA3 (K',ns') rfl HRR.out⟩
end Go.Proofs.YtohnaepcgnbaiaaGreatDoor
namespace Go.Proofs.YtohnaepcgnbaiaaGreatDoor
open Go.RowKit
attribute [-go_sem] p_and p_or p_shl p_shr
end Go.Proofs.YtohnaepcgnbaiaaGreatDoor
namespace Go.Proofs.YtohnaepcgnbaiaaGreatDoor
open Go.RowKit
theorem disown_fl {s:St}:s.disown .full=s:=rfl
theorem owned_fl {s:St}{T sz n:Nat}:Owned s .full T sz n=(n=0):=rfl
theorem own_fl {s:St}{T sz n:Nat}:s.own .full T sz n=s:=rfl
attribute [local go_sem] disown_fl owned_fl own_fl
end Go.Proofs.YtohnaepcgnbaiaaGreatDoor
