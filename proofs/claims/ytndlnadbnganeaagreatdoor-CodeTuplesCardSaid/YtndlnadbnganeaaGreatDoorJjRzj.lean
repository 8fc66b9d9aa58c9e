/- Walks of functions that the claim reaches, and plain facts of them. Conditions: those in the statements. -/
import Derived.Test.YtndlnadbnganeaaGreatDoorJjRwj
set_option linter.unusedSimpArgs false
set_option linter.unusedVariables false
set_option maxRecDepth 100000
namespace Go.Proofs.YtndlnadbnganeaaGreatDoor
open Go.RowKit
def dsT (x y:Nat):List (List UInt8×Nat):=[([65],1+x),([66],1+x),([67],1+y)]
def dsI (x y:Nat):List Dm:=[([65],1+(x:Int)),([66],1+(x:Int)),([67],1+(y:Int))]
def odT:List (List UInt8):=[[65,95,66,95,67],[65,42,66,42,67],[67,95,65,42,66],[66,42,67,95,65],[67,42,66,42,65],[67,95,66,95,65]]
theorem ixD_nm {p:List UInt8}:∀{ds ds':List Dm} {i:Nat},ds.map (·.1)=ds'.map (·.1)→ixD p ds i=ixD p ds' i
 |[],[],i,_=>rfl
 |[],_::_,i,h=>by cases h
 |_::_,[],i,h=>by cases h
 |d::r,d'::r',i,h=>by
  simp only[List.map_cons,List.cons.injEq]at h
  simp only[ixD,h.1,ixD_nm h.2]
theorem grpF_nm {ds ds':List Dm}(h:ds.map (·.1)=ds'.map (·.1)):∀{ps:List (List UInt8)} {l sn:List Nat},grpF ds ps l sn=grpF ds' ps l sn
 |[],l,sn=>rfl
 |p::r,l,sn=>by simp only[grpF,ixD_nm h,grpF_nm h (ps:=r)]
theorem plF_nm {ds ds':List Dm}{wd:List Nat}(h:ds.map (·.1)=ds'.map (·.1)):∀{gs:List (List UInt8)} {o:List (List Nat)} {nx:Nat} {sn:List Nat},plF ds wd gs o nx sn=plF ds' wd gs o nx sn
 |[],o,nx,sn=>rfl
 |g::r,o,nx,sn=>by
  simp only[plF,grpF_nm h]
  cases grpF ds' (splitC 42 g) [] sn with
  |none=>rfl
  |some p=>exact plF_nm h (gs:=r)
def chkT (u v k:Nat):Bool:=
 match finF 3 (plF (dsI 0 0) [u,u,v] (splitC 95 (odT.getD k [])) (List.replicate 3 []) 0 [])with
 |.error _=>false
 |.ok o=>(decide (o.map (·.length)=[u,u,v]) && o.all fun l=>l.all fun v=>decide (v<12)) && decide o.flatten.Nodup
set_option maxRecDepth 1000000 in
theorem chk_all:((List.range 5).all fun x=>(List.range 5).all fun y=>(List.range 6).all fun k=>chkT x y k)=true:=by kernel_rfl
theorem chk_one {x y k:Nat}(hx:x<5)(hy:y<5)(hk:k<6):chkT x y k=true:=by
 have h:=chk_all
 rw[List.all_eq_true]at h
 have h1:=h x (List.mem_range.2 hx)
 rw[List.all_eq_true]at h1
 have h2:=h1 y (List.mem_range.2 hy)
 rw[List.all_eq_true]at h2
 exact h2 k (List.mem_range.2 hk)
theorem wid_all:((List.range 16).all fun x=>decide (widthN (1+x)<5))=true:=by kernel_rfl
theorem wid_lt {x:Nat}(h:x<16):widthN (1+x)<5:=by
 have h1:=wid_all
 rw[List.all_eq_true]at h1
 simpa using h1 x (List.mem_range.2 h)
theorem wid_pow {x:Nat}(h:x<16):1+x≤2 ^ widthN (1+x):=by
 have:=halvF_pow 62 x (by omega)
 unfold widthN
 rw[Nat.add_sub_cancel_left]
 omega
theorem wdT (x y:Nat):wdL (dsI x y)=[widthN (1+x),widthN (1+x),widthN (1+y)]:=by
 have e:∀z:Nat,((1:Int)+(z:Int)).toNat=1+z:=fun z=>by omega
 simp only[wdL,dsI,List.map_cons,List.map_nil,e]
theorem odT_ne {k:Nat}(h:k<6):odT.getD k []≠[]:=by
 have:((List.range 6).all fun k=>decide (odT.getD k []≠[]))=true:=by kernel_rfl
 rw[List.all_eq_true]at this
 simpa using this k (List.mem_range.2 h)
theorem mayT {x y:Nat}(hx:x<16)(hy:y<16):mayDs (dsI x y)=true:=by
 have n1:nameB [65]=true:=by kernel_rfl
 have n2:nameB [66]=true:=by kernel_rfl
 have n3:nameB [67]=true:=by kernel_rfl
 have a1:=wid_lt hx
 have a2:=wid_lt hy
 unfold mayDs
 rw[wdT]
 simp only[Bool.and_eq_true,decide_eq_true_eq]
 refine⟨?_,by simp;omega,by simp[dsI]⟩
 have d1:∀z:Nat,z<16→decide ((1:Int)≤1+(z:Int))=true:=fun z hz=>by simp;omega
 have d2:∀z:Nat,z<16→decide ((1:Int)+(z:Int)≤1073741824)=true:=fun z hz=>by simp;omega
 simp only[dsI,okDs,okD,d1 x hx,d1 y hy,d2 x hx,d2 y hy,n1,n2,n3,Bool.and_true,Bool.true_and,List.nil_append,List.cons_append]
 rfl
theorem three_ok {x y k:Nat}(hx:x<16)(hy:y<16)(hk:k<6):∃o,newF 12 (dsI x y) (odT.getD k [])=.ok o∧DOk 12 (dsT x y) o∧o.map (·.length)=[widthN (1+x),widthN (1+x),widthN (1+y)]:=by
 have a1:=wid_lt hx
 have a2:=wid_lt hy
 have p1:=wid_pow hx
 have p2:=wid_pow hy
 have h3:=chk_one a1 a2 hk
 have hm:=mayT hx hy
 have e:newF 12 (dsI x y) (odT.getD k [])=finF 3 (plF (dsI 0 0) [widthN (1+x),widthN (1+x),widthN (1+y)] (splitC 95 (odT.getD k [])) (List.replicate 3 []) 0 []):=by
  unfold newF
  rw[if_pos ⟨hm,by rw[wdT];simp;omega⟩]
  unfold placeF
  rw[if_pos hm,wdT,if_neg (odT_ne hk),plF_nm (ds:=dsI x y) (ds':=dsI 0 0) rfl]
  rfl
 rw[e]
 unfold chkT at h3
 generalize finF 3 (plF (dsI 0 0) [widthN (1+x),widthN (1+x),widthN (1+y)] (splitC 95 (odT.getD k [])) (List.replicate 3 []) 0 [])=R at h3
 cases R with
 |error e=>cases h3
 |ok o=>
  simp only[Bool.and_eq_true,decide_eq_true_eq,List.all_eq_true]at h3
  obtain⟨⟨h1,h2⟩,h4⟩:=h3
  refine⟨o,rfl,⟨?_,h2,h4,fun d z l hz hl=>?_,by simp[dsT]⟩,h1⟩
  ·have:=congrArg List.length h1
   simpa [dsT]using this
  ·have hl2:(o.map (·.length))[d]?=some l.length:=by rw[List.getElem?_map,hl];rfl
   rw[h1]at hl2
   match d with
   |0=>simp[dsT]at hz hl2;subst hz;rw[← hl2];exact⟨by simp,p1,by simp;omega,by omega⟩
   |1=>simp[dsT]at hz hl2;subst hz;rw[← hl2];exact⟨by simp,p1,by simp;omega,by omega⟩
   |2=>simp[dsT]at hz hl2;subst hz;rw[← hl2];exact⟨by simp,p2,by simp;omega,by omega⟩
   |d+3=>simp[dsT]at hz
theorem dsT_C (x y:Nat):domsI (dsI x y)=domsC (dsT x y):=by
 simp only[domsI,dsI,domsC,dsT,List.map_cons,List.map_nil,Int.natCast_add,Int.natCast_one]
theorem and15 (a:Int):∃x:Nat,x<16∧vint .and .i64 a 15=some (.int .i64 (x:Int)):=by
 have h:=and_low (w:=4) (by omega) a
 have e:IntKind.i64.wrap (((2 ^ 4:Nat):Int) - 1)=15:=by decide
 rw[e]at h
 exact⟨_,addP_lt 4 a,h⟩
theorem and255 (a:Int):∃x:Nat,x<256∧vint .and .i64 a 255=some (.int .i64 (x:Int)):=by
 have h:=and_low (w:=8) (by omega) a
 have e:IntKind.i64.wrap (((2 ^ 8:Nat):Int) - 1)=255:=by decide
 rw[e]at h
 exact⟨_,addP_lt 8 a,h⟩
attribute [-go_sem] p_and p_or p_shl p_shr
theorem Wk.tupM {xs:List (List VV)}{o:Own}{a c:VV}:Wk (.tup [a,.lst xs o,c]) (.tup [a,.lst xs .no,c]):=
 .tup rfl fun j x y hx hy=>by
  match j with
  |0=>simp at hx hy;subst hx;subst hy;exact .refl _
  |1=>simp at hx hy;subst hx;subst hy;exact .lst _ _
  |2=>simp at hx hy;subst hx;subst hy;exact .refl _
  |j+3=>simp at hx
theorem od_at {k:Nat}(h:k<6):(strs odT)[k]?=some [.str (odT.getD k [])]:=by
 match k,h with
 |0,_=>rfl
 |1,_=>rfl
 |2,_=>rfl
 |3,_=>rfl
 |4,_=>rfl
 |5,_=>rfl
def ThreeR (s:St)(x y:Nat)(z:BegA):Prop:=∃o,DOk 12 (dsT x y) o∧o.map (·.length)=[widthN (1+x),widthN (1+x),widthN (1+y)]∧CMem z.1 z.2.1 z.2.2.1 z.2.2.2 12 16384 [.lf false,.lf true] (dsT x y) o∧∀w,s w≠.free→z.1 w=s w∧¬ z.2.1.has w
set_option maxHeartbeats 8000000 in
theorem Cthree_S (s:St)(a a2 od:Int):∃x y:Nat,x<16∧y<16∧vint .and .i64 a 15=some (.int .i64 (x:Int))∧vint .and .i64 a2 15=some (.int .i64 (y:Int)) ∧
  SCalls Tryz.prog 10 [.agg [.int .i64 a,.int .i64 a2],.int .i64 od] s fun w u=>∃z:BegA,w=.ret (.tup [.ptr z.2.2.2 0,.lst (domsC (dsT x y)) .no,.bool true])∧u=z.1∧ThreeR s x y z:=by
 obtain⟨x,hx,ex⟩:=and15 a
 obtain⟨y,hy,ey⟩:=and15 a2
 obtain⟨k0,hk0,ek⟩:=and255 od
 refine⟨x,y,hx,hy,ex,ey,?_⟩
 obtain⟨k,hk⟩:∃k,k=k0 % 6:=⟨_,rfl⟩
 have hk6:k<6:=by omega
 have hrem:((k0:Int)).tmod 6=(k:Int):=by rw[hk,Int.tmod_eq_emod_of_nonneg (Int.natCast_nonneg _)];omega
 have hidx:=od_at hk6
 obtain⟨OD,hOD⟩:∃OD,OD=odT.getD k []:=⟨_,rfl⟩
 rw[← hOD]at hidx
 simp only[strs,odT,List.map_cons,List.map_nil]at hidx
 obtain⟨o,h1,h2,h3⟩:=three_ok hx hy hk6
 have hodl:(odT.getD k []).length≤10000:=by
  have:((List.range 6).all fun k=>decide ((odT.getD k []).length≤10000))=true:=by kernel_rfl
  rw[List.all_eq_true]at this
  simpa using this k (List.mem_range.2 hk6)
 have wb:=fun(u:St) (ow:Own)=>Cbegun_S u 12 (by omega) (dsI x y) ow (odT.getD k []) (by simp[dsI]) (by simp[dsI]) (fun d hd=>by simp[dsI]at hd;rcases hd with rfl|rfl|rfl<;>simp) hodl
 rw[h1,← hOD]at wb
 simp only[newV]at wb
 have hdd:=dsT_C x y
 have e0:domsI (dsI x y)=[[.str [65],.int .i64 (1+(x:Int))],[.str [66],.int .i64 (1+(x:Int))],[.str [67],.int .i64 (1+(y:Int))]]:=rfl
 have hR:=fun(s:St) (z:BegA) (h:(∀(o':List (List Nat)) (dsN:List (List UInt8×Nat)),(Except.ok o:Except Int (List (List Nat)))=.ok o'→domsI (dsI x y)=domsC dsN→CMem z.1 z.2.1 z.2.2.1 z.2.2.2 12 16384 [.lf false,.lf true] dsN o')∧∀w,s w≠.free→z.1 w=s w∧¬ z.2.1.has w)=>show ThreeR s x y z from ⟨o,h2,h3,h.1 o _ rfl hdd,h.2⟩
 rw[← hdd]
 have HRR:=Lib.hid hR
 have WB:=Lib.hid wb
 have HX:=Lib.hid (And.intro hx hy)
 clear h1 h2 h3 hodl hdd hR wb hk hk0 hOD
 refine G_enter Tryz.func10 rfl Tryz.ntmps10 rfl fun Q hQ hQe=>?_
 (repeat'(first|refine Ctl ?_|((with_reducible refine Kof.use hK ?_);clear hK hE K E)|((first|(with_reducible refine G_region fun K E hK hE=>?_)|((with_reducible refine W_fresh (fun b hb=>?_))))<;>(try simp(disch:=omega) only[go_sem,seval,ex,ey,ek,hrem,hidx, *]))))
 have wb:=WB.out (s.set b (.obj 22 [.int .i64 a,.int .i64 a2])) .full
 rw[e0]at wb
 have hsb:∀w,s w≠.free→(s.set b (.obj 22 [.int .i64 a,.int .i64 a2])) w=s w:=fun w hw=>St.set_other _ _ (nef hb hw).1
 refine call_ex can25 wb (fun z h=>?_)
 have hz:=HRR.out _ z h
 obtain⟨u,KK,q,c⟩:=z
 obtain⟨o2,t1,t2,t3,t4⟩:=hz
 have hT:ThreeR s x y (u,KK,q,c):=⟨o2,t1,t2,t3,fun w hw=>⟨(t4 w (by rw[hsb w hw];exact hw)).1.trans (hsb w hw),(t4 w (by rw[hsb w hw];exact hw)).2⟩⟩
 have HT:=Lib.hid hT
 clear h wb t1 t2 t3 t4 hT hsb
 dsimp only
 simp only[go_sem,seval]
 (repeat'(first|refine Ctl ?_|((with_reducible refine Kof.use hK ?_);clear hK hE K E)|(((with_reducible refine G_region fun K E hK hE=>?_))<;>(try simp(disch:=omega) only[go_sem,seval, *]))))
 all_goals(refine W_ret res10 hQ ?_)
 exact⟨_,_,Wk.tupM,Fg.refl _,mkA (KK,q,c) rfl HT.out⟩
end Go.Proofs.YtndlnadbnganeaaGreatDoor
namespace Go.Proofs.YtndlnadbnganeaaGreatDoor
open Go.RowKit
theorem uget {α:Type}{l:List α}{i:Nat}(h:i<l.length):∃x,l[i]?=some x:=⟨_,List.getElem?_eq_getElem h⟩
theorem lst_eq {α:Type}{a b:List α}(hl:a.length=b.length)(h:∀i:Nat,i<a.length→a[i]?=b[i]?):a=b:=by
 apply List.ext_getElem?
 intro i
 by_cases hi:i<a.length
 ·exact h i hi
 ·rw[List.getElem?_eq_none (by omega),List.getElem?_eq_none (by omega)]
def RowsOk (l:List (List Int)):Prop:=l.length≤1000000000∧∀r,r∈l→r.length≤1000000000
theorem rwsC_atL {rows:List (List Int)}{i:Nat}{r:List Int}(h:rows[i]?=some r):(rwsC rows)[i]?=some [.lst (intsL r) .no]:=rwsC_at h
set_option maxHeartbeats 2000000 in
theorem SameInts_S (a b:List Int)(o1 o2:Own)(ha:a.length≤140737488355328)(hb:b.length≤140737488355328)(t:St):SRet Tryz.prog 22 [.lst (intsL a) o1,.lst (intsL b) o2] t (.bool (decide (a=b))) t:=by
 have la:(intsL a).length=a.length:=intsL_len
 have lb:(intsL b).length=b.length:=intsL_len
 by_cases hl:a.length=b.length
 ·have hli:((a.length:Int)=(b.length:Int))=True:=eq_true (by omega)
  have hlz:((b.length:Int)=(b.length:Int))=True:=eq_true rfl
  refine G_enter Tryz.func22 rfl Tryz.ntmps22 rfl fun Q hQ hQe=>?_
  (repeat'(first|refine Ctl ?_|((with_reducible refine Kof.use hK ?_);clear hK hE K E)|((with_reducible refine W_cond (fun h=>?_) (fun h=>?_))<;>(try(exfalso;assumption)))|(((with_reducible refine G_region fun K E hK hE=>?_))<;>(try simp(disch:=omega) only[go_sem,seval,la,lb,hl, *]))))
  refine G_loop (fun m env s'=>∃i:Nat,i≤a.length∧m+i=a.length∧s'=t∧Hid (∀j:Nat,j<i→a[j]?=b[j]?)∧env 0=.lst (intsL a) o1∧env 1=.lst (intsL b) o2∧env 5=.int .i64 i) a.length ?_ ?_
  ·exact⟨t,Fg.refl _,0,by omega,by omega,rfl,Lib.hid (fun j hj=>by omega),z_sl,z_sl,z_sl⟩
  ·rintro m env s' ⟨i,hi,hm,rfl,HE,e0,e1,e5⟩
   by_cases hlt:i<a.length
   ·obtain⟨c,hc⟩:=uget hlt
    obtain⟨d,hd⟩:=uget (l:=b) (i:=i) (by omega)
    have hsx:=intsL_at hc
    have hsy:=intsL_at hd
    have HC:=Lib.hid hc
    have HD:=Lib.hid hd
    clear hc hd
    by_cases hcd:c=d
    ·have HCD:=Lib.hid hcd
     have hcc:(c=d)=True:=eq_true hcd
     (repeat'(first|refine Ctl ?_|(with_reducible first|(refine Kof.use hK ?_;clear hK hE K E)|(refine Kof.use hKh ?_;clear hKh Kh)|refine G_plan 6 [] [0,1,2,3,4,5,6,7,8] hQe fun K E hK hE=>?_)|((with_reducible refine W_cond (fun h=>?_) (fun h=>?_))<;>(try(exfalso;first|assumption|omega)))|(((with_reducible first|refine G_region fun K E hK hE=>?_|refine P_fin fun Kh hKh=>?_))<;>(try simp(disch:=omega) only[go_sem,seval,la,lb,hl,hsx,hsy, *]))))
     refine⟨s',Fg.refl _,m - 1,by omega,i+1,by omega,by omega,rfl,Lib.hid (fun j hj=>?_),z_sl,z_sl,z_sl⟩
     by_cases hj2:j=i
     ·subst hj2;rw[HC.out,HD.out,HCD.out]
     ·exact HE.out j (by omega)
    ·have hcc:(c=d)=False:=eq_false hcd
     (repeat'(first|refine Ctl ?_|(with_reducible first|(refine Kof.use hK ?_;clear hK hE K E)|(refine Kof.use hKh ?_;clear hKh Kh)|refine G_plan 6 [] [0,1,2,3,4,5,6,7,8] hQe fun K E hK hE=>?_)|((with_reducible refine W_cond (fun h=>?_) (fun h=>?_))<;>(try(exfalso;first|assumption|omega)))|(((with_reducible first|refine G_region fun K E hK hE=>?_|refine P_fin fun Kh hKh=>?_))<;>(try simp(disch:=omega) only[go_sem,seval,la,lb,hl,hsx,hsy, *]))))
     all_goals(refine W_ret res22 hQ ?_)
     all_goals(refine⟨_,_,Wk.of_eq ?_,?_,rfl,rfl⟩)
     ·rw[decide_eq_false (fun h=>hcd (by have:=HC.out;rw[h,HD.out]at this;injection this with this;exact this.symm))]
     ·(exact z_fg)
   ·(repeat'(first|refine Ctl ?_|((with_reducible refine Kof.use hK ?_);clear hK hE K E)|((with_reducible refine W_cond (fun h=>?_) (fun h=>?_))<;>(try(exfalso;omega)))|(((with_reducible refine G_region fun K E hK hE=>?_))<;>(try simp(disch:=omega) only[go_sem,seval,la,lb,hl, *]))))
    all_goals(refine W_ret res22 hQ ?_)
    all_goals(refine⟨_,_,Wk.of_eq ?_,?_,rfl,rfl⟩)
    ·rw[decide_eq_true (lst_eq hl (fun j hj=>HE.out j (by omega)))]
    ·(exact z_fg)
 ·have hli:((a.length:Int)=(b.length:Int))=False:=eq_false (by omega)
  refine G_enter Tryz.func22 rfl Tryz.ntmps22 rfl fun Q hQ hQe=>?_
  (repeat'(first|refine Ctl ?_|((with_reducible refine Kof.use hK ?_);clear hK hE K E)|((with_reducible refine W_cond (fun h=>?_) (fun h=>?_))<;>(try(exfalso;assumption)))|(((with_reducible refine G_region fun K E hK hE=>?_))<;>(try simp(disch:=omega) only[go_sem,seval,la,lb, *]))))
  all_goals(refine W_ret res22 hQ ?_)
  all_goals(refine⟨_,_,Wk.of_eq ?_,?_,rfl,rfl⟩)
  ·rw[decide_eq_false (fun h=>hl (by rw[h]))]
  ·(exact z_fg)
set_option maxHeartbeats 4000000 in
theorem SameRows_S (a b:List (List Int))(o1 o2:Own)(ha:RowsOk a)(hb:RowsOk b)(t:St):SRet Tryz.prog 14 [.lst (rwsC a) o1,.lst (rwsC b) o2] t (.bool (decide (a=b))) t:=by
 have hl1:(rwsC a).length=a.length:=rwsC_len
 have hl2:(rwsC b).length=b.length:=rwsC_len
 obtain⟨ha1,ha2⟩:=ha
 obtain⟨hb1,hb2⟩:=hb
 by_cases hlen:a.length=b.length
 ·generalize hR:decide (a=b)=R
  have HR:=Lib.hid hR
  clear hR
  refine G_enter Tryz.func14 rfl Tryz.ntmps14 rfl fun Q hQ hQe=>?_
  (repeat'(first|refine Ctl ?_|((with_reducible refine Kof.use hK ?_);clear hK hE K E)|((with_reducible refine W_cond (fun h=>?_) (fun h=>?_))<;>(try(exfalso;assumption)))|(((with_reducible refine G_region fun K E hK hE=>?_))<;>(try simp(disch:=omega) only[go_sem,seval,hl1,hl2,hlen, *]))))
  refine L_loop (fun m env s'=>∃(i:Nat),i≤b.length∧m+i=b.length∧Hid (a.take i=b.take i)∧s'=t∧env 0=.lst (rwsC a) o1∧env 1=.lst (rwsC b) o2∧env 5=.int .i64 i) b.length
   ⟨0,by omega,by omega,Lib.hid rfl,rfl,z_sl,z_sl,z_sl⟩ ?_
  rintro m env s' ⟨i,hi,hm,HH,rfl,e0,e1,e5⟩
  by_cases h2:i<b.length
  ·obtain⟨x,hx⟩:∃x,a[i]?=some x:=⟨_,List.getElem?_eq_getElem (by omega)⟩
   obtain⟨y,hy⟩:∃y,b[i]?=some y:=⟨_,List.getElem?_eq_getElem h2⟩
   have sx:=rwsC_atL hx
   have sy:=rwsC_atL hy
   have w1:=fun s=>SameInts_S x y .no .no (by have:=ha2 x (List.mem_of_getElem? hx);omega) (by have:=hb2 y (List.mem_of_getElem? hy);omega) s
   have t1:a.take (i+1)=a.take i++[x]:=by rw[List.take_add_one,hx];rfl
   have t2:b.take (i+1)=b.take i++[y]:=by rw[List.take_add_one,hy];rfl
   have HT:x=y→a.take (i+1)=b.take (i+1):=fun e=>by rw[t1,t2,HH.out,e]
   have HN:¬ x=y→a≠b:=fun e=>by rintro rfl;exact e (by rw[hx]at hy;injection hy)
   clear t1 t2 hx hy
   by_cases e:x=y
   ·have HT2:=Lib.hid (HT e)
    rw[show decide (x=y)=true by simp[e]]at w1
    clear HT HN e
    (repeat'(first|refine Ctl ?_|(with_reducible first|(refine Kof.use hK ?_;clear hK hE K E)|(refine Kof.use hKh ?_;clear hKh Kh)|(refine Kof.use hKb (P_next ?_);clear hKb Kb)|refine G_plan 6 [([0,1,2,3,4,5,6,7],8,[[]])] [9] hQe fun K E hK hE=>?_)|((with_reducible refine W_cond (fun h=>?_) (fun h=>?_))<;>(try(exfalso;assumption)))|(((with_reducible first|refine G_region fun K E hK hE=>?_|refine call_ret can22 (w1 _) ?_|refine P_heads fun Kh hKh=>?_|refine P_fin fun Kh hKh=>?_|refine P_each fun Kb hKb=>?_))<;>(try simp(disch:=omega) only[go_sem,seval,hl1,hl2,sx,sy,hlen, *]))))
    all_goals exact⟨m - 1,by omega,i+1,by omega,by omega,HT2,rfl,z_sl,z_sl,z_sl⟩
   ·have hR:R=false:=by rw[← HR.out];simp[HN e]
    subst hR
    rw[show decide (x=y)=false by simp[e]]at w1
    clear HT HN e
    (repeat'(first|refine Ctl ?_|(with_reducible first|(refine Kof.use hK ?_;clear hK hE K E)|(refine Kof.use hKh ?_;clear hKh Kh)|(refine Kof.use hKb (P_next ?_);clear hKb Kb)|refine G_plan 6 [([0,1,2,3,4,5,6,7],8,[[]])] [9] hQe fun K E hK hE=>?_)|((with_reducible refine W_cond (fun h=>?_) (fun h=>?_))<;>(try(exfalso;assumption)))|(((with_reducible first|refine G_region fun K E hK hE=>?_|refine call_ret can22 (w1 _) ?_|refine P_heads fun Kh hKh=>?_|refine P_fin fun Kh hKh=>?_|refine P_each fun Kb hKb=>?_))<;>(try simp(disch:=omega) only[go_sem,seval,hl1,hl2,sx,sy,hlen, *]))))
    all_goals(refine W_ret res14 hQ ?_)
    all_goals(refine⟨_,_,Wk.of_eq ?_,?_,rfl,rfl⟩)
    all_goals first|rfl|(exact z_fg)
  ·have hR:R=true:=by
    have h3:=HH.out
    rw[List.take_of_length_le (by omega),List.take_of_length_le (by omega)]at h3
    rw[← HR.out];simp[h3]
   subst hR
   (repeat'(first|refine Ctl ?_|((with_reducible refine Kof.use hK ?_);clear hK hE K E)|((with_reducible refine W_cond (fun h=>?_) (fun h=>?_))<;>(try(exfalso;assumption)))|(((with_reducible refine G_region fun K E hK hE=>?_))<;>(try simp(disch:=omega) only[go_sem,seval,hl1,hl2,hlen, *]))))
   all_goals(refine W_ret res14 hQ ?_)
   all_goals(refine⟨_,_,Wk.of_eq ?_,?_,rfl,rfl⟩)
   all_goals first|rfl|(exact z_fg)
 ·have hR:decide (a=b)=false:=by
   have:a≠b:=fun e=>hlen (by rw[e])
   simp[this]
  rw[hR]
  have hln:((a.length:Int)=(b.length:Int))=False:=eq_false (by omega)
  clear hR
  refine G_enter Tryz.func14 rfl Tryz.ntmps14 rfl fun Q hQ hQe=>?_
  (repeat'(first|refine Ctl ?_|((with_reducible refine Kof.use hK ?_);clear hK hE K E)|((with_reducible refine W_cond (fun h=>?_) (fun h=>?_))<;>(try(exfalso;assumption)))|(((with_reducible refine G_region fun K E hK hE=>?_))<;>(try simp(disch:=omega) only[go_sem,seval,hl1,hl2,hln, *]))))
  all_goals(refine W_ret res14 hQ ?_)
  all_goals(refine⟨_,_,Wk.of_eq ?_,?_,rfl,rfl⟩)
  all_goals first|rfl|(exact z_fg)
theorem num_ex:∀(L:List (List Nat×Nat)),(L.map (·.1)).flatten.Nodup→(∀p,p∈L→p.2<2 ^ p.1.length)→∃x:Nat→Bool,∀p,p∈L→numA p.1 x=p.2
 |[],_,_=>⟨fun _=>false,fun p h=>by simp at h⟩
 |q::L,hn,hl=>by
  rw[List.map_cons,List.flatten_cons,List.nodup_append]at hn
  obtain⟨h1,h2,h3⟩:=hn
  obtain⟨x,hx⟩:=num_ex L h2 fun p hp=>hl p (List.mem_cons_of_mem _ hp)
  refine⟨asgV q.1 q.2 x,fun p hp=>?_⟩
  rcases List.mem_cons.1 hp with rfl|hp
  ·rw[numA_asg h1,Nat.mod_eq_of_lt (hl p (List.mem_cons_self ..))]
  ·rw[← hx p hp]
   refine numA_congr fun v hv=>asgV_out fun hq=>?_
   exact h3 v hq v (List.mem_flatten.2 ⟨p.1,List.mem_map.2 ⟨p,hp,rfl⟩,hv⟩) rfl
theorem tup_mem {n:Nat}{ds:List (List UInt8×Nat)}{at_:List (List Nat)}(hD:DOk n ds at_){ks:List Nat}(hks:∀k,k∈ks→k<ds.length)(hnd:ks.Nodup){g:(Nat→Bool)→Bool}(hg:DepF (varsOf at_ ks) g){r:List Int} :
  r∈tupR (treeT n g) at_ ks↔∃x,g x=true∧r=ks.map fun k=>((numA (at_.getD k []) x:Nat):Int):=by
 have hlt:=varsOf_lt hD hks
 have hI:InV ((ks.map fun k=>at_.getD k []).flatten) (treeT n g):=treeT_inV (S:=varsOf at_ ks) hlt hg
 have hN:((ks.map fun k=>at_.getD k []).flatten).Nodup:=varsOf_nd hD hnd hks
 have hh:Hang n g:=hg.hang hlt
 constructor
 ·intro h
  simp only[tupR,List.mem_map]at h
  obtain⟨m,hm,rfl⟩:=h
  have h2:=(sat_rows (n:=n) (t:=treeT n g) treeT_ok hI hN (r:=splitW (wdsOf at_ ks) m)).1 (by rw[wdsOf_eq];exact List.mem_map.2 ⟨m,hm,rfl⟩)
  obtain⟨x,hx,e⟩:=h2
  rw[treeT_ev hh]at hx
  refine⟨x,hx,?_⟩
  rw[rowU,e,List.map_map,List.map_map]
  rfl
 ·rintro⟨x,hx,rfl⟩
  have h2:=(sat_rows (n:=n) (t:=treeT n g) treeT_ok hI hN (r:=(ks.map fun k=>at_.getD k []).map fun a=>numA a x)).2 ⟨x,by rw[treeT_ev hh];exact hx,rfl⟩
  obtain⟨m,hm,e⟩:=List.mem_map.1 h2
  refine List.mem_map.2 ⟨m,hm,?_⟩
  rw[rowU,wdsOf_eq,e,List.map_map,List.map_map]
  rfl
theorem occ_tree {n:Nat}{S:List Nat}{g:(Nat→Bool)→Bool}(hs:∀v,v∈S→v<n)(hg:DepF S g):∀v,occT v (treeT n g)=true→v∈S:=fun v h=>occ_inV (treeT_inV hs hg) h
theorem SCalls.wk {P:Program}{f:FuncId}{xs ys:List VV}{s:St}{Q:SEnd→St→Prop}(h:SCalls P f ys s Q)(hl:xs.length=ys.length)(hw:∀(j:Nat) (x y:VV),xs[j]?=some x→ys[j]?=some y→Wk x y):SCalls P f xs s Q:=by
 intro w0 G w vs hS hR
 refine h w0 G w vs hS ⟨hR.1.trans hl,fun j v y hv hy=>?_⟩
 have hj:j<xs.length:=by rw[hl];exact(List.getElem?_eq_some_iff.1 hy).1
 exact hw j _ y (List.getElem?_eq_getElem hj) hy G v (hR.2 j v _ hv (List.getElem?_eq_getElem hj))
theorem Wk.rowsG {l l':List (List VV)}{o:Own}(hl:l'.length=l.length)
  (hw:∀(i:Nat) (x':List VV),l'[i]?=some x'→∃x,l[i]?=some x∧x'.length=x.length∧∀(j:Nat) (y':VV),x'[j]?=some y'→∃y,x[j]?=some y∧Wk y y'∧(y.one=true→y'.one=true)):Wk (.lst l o) (.lst l' .no):=fun G v h=>by
 generalize hq:VV.lst l o=q at h
 cases h with
 |emp a cap o2 ho=>
  injection hq with hq1 hq2;subst hq1;subst hq2
  obtain rfl:l'=[]:=List.eq_nil_of_length_eq_zero hl
  exact .emp _ _ _ (.inl rfl)
 |lst b' off len cap sz' xs' o f hl2 hc' hz h1' hK hR' ho'=>
  injection hq with hq1 hq2;subst hq1;subst hq2
  refine .lst b' off len cap sz' l' _ f (hl.trans hl2) hc' (fun x hx=>?_) (fun x hx y hy=>?_) hK (fun i j x y hx hy=>?_) (.inl rfl)
  ·obtain⟨i,hi⟩:=List.getElem?_of_mem hx
   obtain⟨x0,h0,h2,_⟩:=hw i x hi
   rw[← hz x0 (List.mem_of_getElem? h0),h2]
  ·obtain⟨i,hi⟩:=List.getElem?_of_mem hx
   obtain⟨j,hj⟩:=List.getElem?_of_mem hy
   obtain⟨x0,h0,_,h2⟩:=hw i x hi
   obtain⟨y0,h3,_,h5⟩:=h2 j y hj
   exact h5 (h1' x0 (List.mem_of_getElem? h0) y0 (List.mem_of_getElem? h3))
  ·obtain⟨x0,h0,_,h2⟩:=hw i x hx
   obtain⟨y0,h3,h4,_⟩:=h2 j y hy
   exact h4 G _ (hR' i j x0 y0 h0 h3)
 |_=>cases hq
def rwsF (rows:List (List Int))(o:Own):List (List VV):=rows.map fun r=>[.lst (intsL r) o]
theorem rwsF_wk (rows:List (List Int))(o o2:Own):Wk (.lst (rwsF rows o) o2) (.lst (rwsC rows) .no):=by
 refine Wk.rowsG (by simp[rwsF,rwsC]) fun i x' hx=>?_
 simp only[rwsC,List.getElem?_map]at hx
 obtain⟨r,hr,rfl⟩:=Option.map_eq_some_iff.1 hx
 refine⟨[.lst (intsL r) o],by simp[rwsF,hr],rfl,fun j y' hy=>?_⟩
 cases j with
 |zero=>
  simp at hy
  subst hy
  exact⟨_,rfl,Wk.lst _ _,fun _=>rfl⟩
 |succ j=>simp at hy
theorem SameRowsF_S (a b:List (List Int))(o1 o2 o3:Own)(ha:RowsOk a)(hb:RowsOk b)(t:St):SRet Tryz.prog 14 [.lst (rwsC a) o1,.lst (rwsF b o2) o3] t (.bool (decide (a=b))) t:=by
 refine SCalls.wk (SameRows_S a b o1 .no ha hb t) rfl fun j x y hx hy=>?_
 match j with
 |0=>simp at hx hy;subst hx;subst hy;exact Wk.refl _
 |1=>simp at hx hy;subst hx;subst hy;exact rwsF_wk _ _ _
 |j+2=>simp at hx
def samF (va vb:List Nat)(sz:Nat)(x:Nat→Bool):Bool:=decide (numA va x<sz) && decide (numA va x=numA vb x)
theorem samF_dep (va vb:List Nat)(sz:Nat):DepF (va++vb) (samF va vb sz):=fun x y e=>by
 simp only[samF,numA_congr fun v hv=>e v (List.mem_append_left _ hv),numA_congr fun v hv=>e v (List.mem_append_right va hv)]
theorem varsOf_two (at_:List (List Nat))(a b:Nat):varsOf at_ [a,b]=at_.getD a []++at_.getD b []:=by simp[varsOf]
theorem eq_rows {n a a2 sz:Nat}{ds:List (List UInt8×Nat)}{at_:List (List Nat)}(hD:DOk n ds at_)(ha:a<ds.length)(hb:a2<ds.length)(hne:a≠a2)(s1:sz≤2 ^ (at_.getD a []).length)(s2:sz≤2 ^ (at_.getD a2 []).length) :
  sortR (tupR (treeT n (samF (at_.getD a []) (at_.getD a2 []) sz)) at_ [a,a2])=(List.range sz).map fun(v:Nat)=>[(v:Int),(v:Int)]:=by
 symm
 have hks:∀k,k∈[a,a2]→k<ds.length:=fun k hk=>by simp at hk;rcases hk with rfl|rfl<;>assumption
 have hnd:[a,a2].Nodup:=by simp[hne]
 have hg:DepF (varsOf at_ [a,a2]) (samF (at_.getD a []) (at_.getD a2 []) sz):=by rw[varsOf_two];exact samF_dep _ _ _
 refine sortR_uniq ?_ fun r=>?_
 ·unfold Rising
  rw[List.pairwise_map]
  refine List.Pairwise.imp (fun {x y} h=>?_) List.pairwise_lt_range
  simp only[cmpZ]
  rw[if_pos (by omega)]
  decide
 ·rw[tup_mem hD hks hnd hg]
  simp only[List.mem_map,List.mem_range,List.map_cons,List.map_nil]
  constructor
  ·rintro⟨v,hv,rfl⟩
   have hN:=varsOf_nd hD hnd hks
   obtain⟨x,hx⟩:=num_ex [(at_.getD a [],v),(at_.getD a2 [],v)] (by simpa [varsOf]using hN) (fun p hp=>by
    simp at hp
    rcases hp with rfl|rfl
    ·exact Nat.lt_of_lt_of_le hv s1
    ·exact Nat.lt_of_lt_of_le hv s2)
   have e1:=hx _ (List.mem_cons_self ..)
   have e2:=hx _ (List.mem_cons_of_mem _ (List.mem_cons_self ..))
   dsimp only at e1 e2
   refine⟨x,?_,by rw[e1,e2]⟩
   simp only[samF,e1,e2,Bool.and_eq_true,decide_eq_true_eq]
   exact⟨hv,trivial⟩
  ·rintro⟨x,hx,rfl⟩
   simp only[samF,Bool.and_eq_true,decide_eq_true_eq]at hx
   exact⟨_,hx.1,by rw[← hx.2]⟩
set_option maxHeartbeats 8000000 in
theorem Cawake_S (s:St):SRet Tryz.prog 12 [] s (.bool true) s:=by
 obtain⟨x,y,hx,hy,ex,ey,w3⟩:=Cthree_S s 3 3 1
 have e3:vint .and .i64 3 15=some (.int .i64 3):=by rfl
 have hx3:x=3:=by rw[e3]at ex;injection ex with ex;injection ex with _ ex;omega
 have hy3:y=3:=by rw[e3]at ey;injection ey with ey;injection ey with _ ey;omega
 subst hx3 hy3
 clear hx hy ex ey e3
 refine G_enter Tryz.func12 rfl Tryz.ntmps12 rfl fun Q hQ hQe=>?_
 (repeat'(first|refine Ctl ?_|((with_reducible refine Kof.use hK ?_);clear hK hE K E)|(((with_reducible refine G_region fun K E hK hE=>?_))<;>(try simp(disch:=omega) only[go_sem,seval, *]))))
 refine call_ex can10 w3 (fun z h=>?_)
 obtain⟨u1,KK,q,c⟩:=z
 obtain⟨o,hD,hL,hC,hF⟩:=h
 dsimp only at hC hF ⊢
 have hol:o.length=3:=by have:=congrArg List.length hL;simpa using this
 have hla:∀k,k<3→(o.getD k []).length=2:=fun k hk=>by
  have h1:(o.map (·.length))[k]?=some (o.getD k []).length:=by
   rw[List.getElem?_map,List.getD_eq_getElem?_getD,List.getElem?_eq_getElem (by omega)];rfl
  rw[hL]at h1
  have hw:widthN (1+3)=2:=by rfl
  rw[hw]at h1
  match k,hk with
  |0,_=>simp at h1;exact h1.symm
  |1,_=>simp at h1;exact h1.symm
  |2,_=>simp at h1;exact h1.symm
 have hat:∀k,k<3→o[k]?=some (o.getD k []):=fun k hk=>by rw[List.getD_eq_getElem?_getD,List.getElem?_eq_getElem (by omega)];rfl
 have hcn:CntN [.lf false,.lf true] 2:=⟨_,Nat.le_refl _,fun t h=>h⟩
 have we:=Ceq_S (a:=0) (a2:=1) (N:=2) hC hD rfl rfl (hat 0 (by omega)) (hat 1 (by omega)) (by rw[hla 0 (by omega),hla 1 (by omega)]) (by decide) hcn (by rw[hla 0 (by omega)];decide)
 have hrow:=eq_rows (n:=12) (sz:=4) hD (a:=0) (a2:=1) (by simp[dsT]) (by simp[dsT]) (by decide) (by rw[hla 0 (by omega)];decide) (by rw[hla 1 (by omega)];decide)
 have hks:∀k,k∈[0,1]→k<(dsT 3 3).length:=fun k hk=>by simp at hk;rcases hk with rfl|rfl<;>simp[dsT]
 have hv4:(varsOf o [0,1]).length=4:=by rw[varsOf_two,List.length_append,hla 0 (by omega),hla 1 (by omega)]
 have hg:DepF (varsOf o [0,1]) (samF (o.getD 0 []) (o.getD 1 []) 4):=by rw[varsOf_two];exact samF_dep _ _ _
 have hoc:=occ_tree (n:=12) (varsOf_lt hD hks) hg
 have hlen:(tupR (treeT 12 (samF (o.getD 0 []) (o.getD 1 []) 4)) o [0,1]).length≤9:=by
  have e1:=((List.perm_ext_iff_of_nodup (sortR_rising (tupR (treeT 12 (samF (o.getD 0 []) (o.getD 1 []) 4)) o [0,1])).nodup (tupR_nodup _ _ _)).2 fun r=>sortR_mem).length_eq
  rw[← e1,hrow]
  simp
 have wt:=fun(u:St) (KK':OB) (ns:List Tr) (h1:CMem u KK' q c 12 16384 ns (dsT 3 3) o) (h2:treeT 12 (samF (o.getD 0 []) (o.getD 1 []) 4)∈ns)=>Ctuples_S h1 hD (by omega) [0,1] .full hks (by simp) (by decide) h2 hoc (by omega) (most:=9) (by omega) hlen
 rw[hrow]at wt
 have hkeep:=fun(u:St) (K':OB) (ns:List Tr) (h1:OMem u K' 12 16384 ns) (h2:OKeep u1 u KK K')=>hC.keep h1 h2
 have WT:=Lib.hid wt
 have HKEEP:=Lib.hid hkeep
 have HF:=Lib.hid hF
 have hsame:=fun(u:St)=>SameRowsF_S ((List.range 4).map fun(v:Nat)=>[(v:Int),(v:Int)]) [[0,0],[1,1],[2,2],[3,3]] .no .full .full ⟨by simp,fun r hr=>by simp at hr;obtain⟨v,_,rfl⟩:=hr;simp⟩ ⟨by simp,fun r hr=>by simp at hr;rcases hr with rfl|rfl|rfl|rfl<;>simp⟩ u
 have hd:decide ((List.range 4).map (fun(v:Nat)=>[(v:Int),(v:Int)])=[[0,0],[1,1],[2,2],[3,3]])=true:=by decide
 rw[hd]at hsame
 have HS:=Lib.hid hsame
 unfold OpFC at we
 clear hrow hks hv4 hg hoc hlen wt hkeep hF hsame hd hC hD hL hol hla hat hcn w3
 simp only[go_sem,seval]
 (repeat'(first|refine Ctl ?_|((with_reducible refine Kof.use hK ?_);clear hK hE K E)|((with_reducible refine W_cond (fun h=>?_) (fun h=>?_))<;>(try(exfalso;assumption)))|(((with_reducible refine G_region fun K E hK hE=>?_))<;>(try simp(disch:=omega) only[go_sem,seval, *]))))
 refine call_ex can15 we (fun a h=>?_)
 obtain⟨u2,K2,ns2⟩:=a
 have hm:=h.m
 have hk:=h.k
 have hmem:=h.mem
 dsimp only at hm hk hmem
 have wt:SRet Tryz.prog 13 [.ptr c 0,.int .i64 ((ixF 12 ns2 fun x=>decide (numA (o.getD 0 []) x<4) && decide (numA (o.getD 0 []) x=numA (o.getD 1 []) x):Nat):Int),.lst [[.int .i64 0],[.int .i64 1]] .full,.int .i64 9] u2 _ u2:=WT.out u2 K2 ns2 (HKEEP.out u2 K2 ns2 hm hk) hmem
 have hs:=HS.out u2
 have hfg:Fg u2 s:=fun z=>by
  by_cases hz:s z=.free
  ·exact .inl hz
  ·obtain⟨e1,e2⟩:=HF.out z hz
   exact .inr (by rw[← e1];exact(hk.out z (by rw[e1];exact hz) e2).symm)
 have HFG:=Lib.hid hfg
 simp only[rwsF,intsL,List.map_cons,List.map_nil]at hs
 clear h hm hk hmem hfg we
 dsimp only
 generalize (ixF 12 ns2 fun x=>decide (numA (o.getD 0 []) x<4) && decide (numA (o.getD 0 []) x=numA (o.getD 1 []) x))=kz at *
 generalize rwsC ((List.range 4).map fun(v:Nat)=>[(v:Int),(v:Int)])=RC at *
 simp only[go_sem,seval]
 (repeat'(first|refine Ctl ?_|((with_reducible refine Kof.use hK ?_);clear hK hE K E)|(((with_reducible first|refine G_region fun K E hK hE=>?_|refine call_ret can13 (wt) ?_|refine call_ret can14 (hs) ?_))<;>(try simp(disch:=omega) only[go_sem,seval, *]))))
 all_goals(refine W_ret res12 hQ ?_)
 exact⟨_,_,Wk.refl _,HFG.out,rfl,rfl⟩
theorem btwF_dep (va:List Nat)(lo hi:Nat):DepF va (btwF va lo hi):=fun x y e=>by
 simp only[btwF,numA_congr fun v hv=>e v hv]
theorem varsOf_one (at_:List (List Nat))(a:Nat):varsOf at_ [a]=at_.getD a []:=by simp[varsOf]
def rngL (lo hi:Nat):List (List Int):=(List.range (hi+1 - lo)).map fun(i:Nat)=>[((lo+i:Nat):Int)]
theorem rng_rows {n a lo hi:Nat}{ds:List (List UInt8×Nat)}{at_:List (List Nat)}(hD:DOk n ds at_)(ha:a<ds.length)(s1:hi<2 ^ (at_.getD a []).length) :
  sortR (tupR (treeT n (btwF (at_.getD a []) lo hi)) at_ [a])=rngL lo hi:=by
 symm
 have hks:∀k,k∈[a]→k<ds.length:=fun k hk=>by simp at hk;rw[hk];exact ha
 have hnd:[a].Nodup:=by simp
 have hg:DepF (varsOf at_ [a]) (btwF (at_.getD a []) lo hi):=by rw[varsOf_one];exact btwF_dep _ _ _
 refine sortR_uniq ?_ fun r=>?_
 ·unfold Rising rngL
  rw[List.pairwise_map]
  refine List.Pairwise.imp (fun {x y} h=>?_) List.pairwise_lt_range
  simp only[cmpZ]
  rw[if_pos (by omega)]
  decide
 ·rw[tup_mem hD hks hnd hg]
  simp only[rngL,List.mem_map,List.mem_range,List.map_cons,List.map_nil]
  constructor
  ·rintro⟨v,hv,rfl⟩
   have hN:=varsOf_nd hD hnd hks
   obtain⟨x,hx⟩:=num_ex [(at_.getD a [],lo+v)] (by simpa [varsOf]using hN) (fun p hp=>by
    rw[List.mem_singleton]at hp
    subst hp
    dsimp only
    omega)
   have e1:=hx _ (List.mem_cons_self ..)
   dsimp only at e1
   refine⟨x,?_,by rw[e1]⟩
   simp only[btwF,e1,Bool.and_eq_true,decide_eq_true_eq]
   omega
  ·rintro⟨x,hx,rfl⟩
   simp only[btwF,Bool.and_eq_true,decide_eq_true_eq]at hx
   exact⟨numA (at_.getD a []) x - lo,by omega,by rw[show lo+(numA (at_.getD a []) x - lo)=numA (at_.getD a []) x by omega]⟩
theorem OpFC.congr {f:FuncId}{xs:List VV}{s:St}{K:OB}{n B N:Nat}{ns:List Tr}{g g':(Nat→Bool)→Bool}(h:OpFC f xs s K n B ns N g)(hg:∀x,g x=g' x):OpFC f xs s K n B ns N g':=by
 rw[← funext hg];exact h
def szD (x y:Nat):Nat→Nat
 |2=>1+y
 |_=>1+x
theorem dsT_at {x y d:Nat}(h:d<3):(dsT x y)[d]?=some ([65+UInt8.ofNat d],szD x y d):=by
 match d,h with
 |0,_=>rfl
 |1,_=>rfl
 |2,_=>rfl
structure Law (s u:St) (K:OB) (q c:Nat) (ns:List Tr) (x y:Nat) (o:List (List Nat)) (N:Nat):Prop where
 C:CMem u K q c 12 16384 ns (dsT x y) o
 D:DOk 12 (dsT x y) o
 L:o.map (·.length)=[widthN (1+x),widthN (1+x),widthN (1+y)]
 xy:x<16∧y<16
 n:CntN ns N
 fr:∀z,s z≠.free→u z=s z∧¬ K.has z
theorem Law.of {s:St}{x y:Nat}{z:BegA}(h:ThreeR s x y z)(hx:x<16)(hy:y<16):∃o,Law s z.1 z.2.1 z.2.2.1 z.2.2.2 [.lf false,.lf true] x y o 2:=by
 obtain⟨o,hD,hL,hC,hF⟩:=h
 exact⟨o,hC,hD,hL,⟨hx,hy⟩,⟨_,Nat.le_refl _,fun t h=>h⟩,hF⟩
section
variable {s u : St} {K : OB} {q c : Nat} {ns : List Tr} {x y : Nat} {o : List (List Nat)} {N : Nat}
theorem Law.step (h:Law s u K q c ns x y o N){N':Nat}{g:(Nat→Bool)→Bool}{a:IteA}(k:OpF u K 12 16384 ns N' g a):Law s a.1 a.2.1 q c a.2.2 x y o N':=
 ⟨h.C.keep k.m k.k,h.D,h.L,h.xy,k.cnt,fun z hz=>by
  obtain⟨e1,e2⟩:=h.fr z hz
  refine⟨by rw[← e1];exact k.k.out z (by rw[e1];exact hz) e2,fun e3=>?_⟩
  rcases k.k.nw z e3 with e|e
  ·exact e2 e
  ·rw[e1]at e;exact hz e⟩
theorem Law.more (h:Law s u K q c ns x y o N){u':St}(hk:∀z,u z≠.free→u' z=u z):Law s u' K q c ns x y o N:=by
 obtain⟨n1,n2,n3,n4⟩:=h.C.nq
 refine⟨⟨h.C.om.keep fun z hz=>hk z (h.C.om.live hz),(hk _ n3).trans h.C.qo,(hk _ n4).trans h.C.co⟩,h.D,h.L,h.xy,h.n,fun z hz=>?_⟩
 obtain⟨e1,e2⟩:=h.fr z hz
 exact⟨(hk z (by rw[e1];exact hz)).trans e1,e2⟩
theorem Law.from (h:Law s u K q c ns x y o N){s':St}(hk:∀z,s' z≠.free→s z=s' z):Law s' u K q c ns x y o N:=
 ⟨h.C,h.D,h.L,h.xy,h.n,fun z hz=>by
  have e:=hk z hz
  obtain⟨e1,e2⟩:=h.fr z (by rw[e];exact hz)
  exact⟨e1.trans e,e2⟩⟩
theorem Law.mono (h:Law s u K q c ns x y o N){N':Nat}(hN:N≤N'):Law s u K q c ns x y o N':=⟨h.C,h.D,h.L,h.xy,h.n.mono hN,h.fr⟩
theorem Law.fg (h:Law s u K q c ns x y o N):Fg u s:=fun z=>by
 by_cases hz:s z=.free
 ·exact .inl hz
 ·exact .inr (h.fr z hz).1.symm
theorem Law.oat (h:Law s u K q c ns x y o N){d:Nat}(hd:d<3):o[d]?=some (o.getD d []):=by
 have hol:o.length=3:=by have:=congrArg List.length h.L;simpa using this
 rw[List.getD_eq_getElem?_getD,List.getElem?_eq_getElem (by omega)];rfl
theorem Law.wid (h:Law s u K q c ns x y o N){d:Nat}(hd:d<3):(o.getD d []).length=widthN (szD x y d)∧(o.getD d []).length≤4∧1≤szD x y d∧szD x y d≤16∧szD x y d≤2 ^ (o.getD d []).length:=by
 have h1:(o.map (·.length))[d]?=some (o.getD d []).length:=by rw[List.getElem?_map,h.oat hd];rfl
 rw[h.L]at h1
 obtain⟨hx,hy⟩:=h.xy
 have a1:=wid_lt hx
 have a2:=wid_pow hx
 have a3:=wid_lt hy
 have a4:=wid_pow hy
 match d,hd with
 |0,_=>
  simp at h1
  have h2:(o.getD 0 []).length=widthN (1+x):=h1.symm
  rw[h2]
  simp only[szD]
  exact⟨trivial,by omega,by omega,by omega,a2⟩
 |1,_=>
  simp at h1
  have h2:(o.getD 1 []).length=widthN (1+x):=h1.symm
  rw[h2]
  simp only[szD]
  exact⟨trivial,by omega,by omega,by omega,a2⟩
 |2,_=>
  simp at h1
  have h2:(o.getD 2 []).length=widthN (1+y):=h1.symm
  rw[h2]
  simp only[szD]
  exact⟨trivial,by omega,by omega,by omega,a4⟩
theorem pow4 {w:Nat}(h:w≤4):2 ^ w≤16:=(Nat.pow_le_pow_right (by omega) h:2 ^ w≤2 ^ 4)
theorem Law.rng (h:Law s u K q c ns x y o N){d lo hi:Nat}(hd:d<3)(h1:lo≤hi)(h2:hi<szD x y d)(hB:N+144≤16384) :
  OpFC 11 [.ptr c 0,.int .i64 (d:Int),.int .i64 (lo:Int),.int .i64 (hi:Int)] u K 12 16384 ns (N+144) (btwF (o.getD d []) lo hi):=by
 obtain⟨w1,w2,w3,w4,w5⟩:=h.wid hd
 have hb:(2 * (o.getD d []).length+1) * 2 ^ (o.getD d []).length≤9 * 16:=Nat.mul_le_mul (by omega) (pow4 w2)
 exact(Crng_S h.C h.D (dsT_at hd) (h.oat hd) h1 h2 h.n (by omega)).mono (by omega)
theorem Law.eq (h:Law s u K q c ns x y o N){a b:Nat}(ha:a<3)(hb:b<3)(hne:a≠b)(hs:szD x y a=szD x y b)(hB:N+2040≤16384) :
  OpFC 15 [.ptr c 0,.int .i64 (a:Int),.int .i64 (b:Int)] u K 12 16384 ns (N+2040) (samF (o.getD a []) (o.getD b []) (szD x y a)):=by
 obtain⟨w1,w2,w3,w4,w5⟩:=h.wid ha
 obtain⟨v1,v2,v3,v4,v5⟩:=h.wid hb
 have hl:(o.getD b []).length=(o.getD a []).length:=by rw[w1,v1,hs]
 have e1:(2 * (o.getD a []).length+1) * 2 ^ (o.getD a []).length≤9 * 16:=Nat.mul_le_mul (by omega) (pow4 w2)
 have e2:2 ^ (2 * (o.getD a []).length)≤2 ^ 8:=Nat.pow_le_pow_right (by omega) (by omega)
 have e3:((o.getD a []).length+1) * ((2 * (o.getD a []).length+1) * 2 ^ (o.getD a []).length+8+2 ^ (2 * (o.getD a []).length))≤5 * (144+8+256):=Nat.mul_le_mul (by omega) (by omega)
 have db:=dsT_at (x:=x) (y:=y) hb
 rw[← hs]at db
 exact(Ceq_S h.C h.D (dsT_at ha) db (h.oat ha) (h.oat hb) hl hne h.n (by omega)).mono (by omega)
theorem Law.eqs (h:Law s u K q c ns x y o N){a:Nat}(ha:a<3)(hB:N+160≤16384) :
  OpFC 15 [.ptr c 0,.int .i64 (a:Int),.int .i64 (a:Int)] u K 12 16384 ns (N+160) (btwF (o.getD a []) 0 (szD x y a - 1)):=by
 obtain⟨w1,w2,w3,w4,w5⟩:=h.wid ha
 have e1:(2 * (o.getD a []).length+1) * 2 ^ (o.getD a []).length≤9 * 16:=Nat.mul_le_mul (by omega) (pow4 w2)
 have e2:=pow4 w2
 exact(Ceqs_S h.C h.D (dsT_at ha) (h.oat ha) h.n (by omega)).mono (by omega)
theorem Law.eq0 (h:Law s u K q c ns x y o N){a b:Nat}(hx:¬ (a<3∧b<3)∨szD x y a≠szD x y b) :
  SRet Tryz.prog 15 [.ptr c 0,.int .i64 (a:Int),.int .i64 (b:Int)] u (.tup [.int .i64 0,.int .i64 1]) u:=by
 refine Ceq0_S h.C ?_
 by_cases h1:a<3∧b<3
 ·exact .inr ⟨_,_,dsT_at h1.1,dsT_at h1.2,fun e=>by
   rcases hx with hx|hx
   ·exact hx h1
   ·exact hx e⟩
 ·exact .inl h1
theorem Law.tup (h:Law s u K q c ns x y o N){g:(Nat→Bool)→Bool}(hm:treeT 12 g∈ns)(ks:List Nat)(ow:Own)(hks:∀k,k∈ks→k<3)(hl:ks.length≤3)(hnd:ks.Nodup)(hg:DepF (varsOf o ks) g){most:Nat}(hmo:most≤16384){rows:List (List Int)}(hr:sortR (tupR (treeT 12 g) o ks)=rows)(hc:rows.length≤most) :
  SRet Tryz.prog 13 [.ptr c 0,.int .i64 (ixF 12 ns g:Nat),.lst (natsL ks) ow,.int .i64 most] u (.tup [.lst (rwsC rows) .no,.int .i64 0]) u:=by
 have hks2:∀k,k∈ks→k<(dsT x y).length:=hks
 have hv:∀(l:List Nat),(∀k,k∈l→k<3)→(varsOf o l).length≤4 * l.length:=by
  intro l
  induction l with
  |nil=>intro _;simp[varsOf]
  |cons k l ih=>
   intro hl
   have:=ih fun k hk=>hl k (List.mem_cons_of_mem _ hk)
   have h2:=(h.wid (hl k (List.mem_cons_self ..))).2.1
   have e:varsOf o (k::l)=o.getD k []++varsOf o l:=by simp[varsOf]
   rw[e,List.length_append,List.length_cons]
   omega
 have hv4:=hv ks hks
 have hlen:(tupR (treeT 12 g) o ks).length≤most:=by
  have e1:=((List.perm_ext_iff_of_nodup (sortR_rising (tupR (treeT 12 g) o ks)).nodup (tupR_nodup _ _ _)).2 fun r=>sortR_mem).length_eq
  rw[← e1,hr]
  exact hc
 rw[← hr]
 exact Ctuples_S h.C h.D (by omega) ks ow hks2 (by omega) hnd hm (occ_tree (varsOf_lt h.D hks2) hg) (by omega) hmo hlen
end
def addF (va vb:List Nat)(sa sb:Nat)(more:Int)(x:Nat→Bool):Bool:=decide (((numA va x:Nat):Int)<sa∧0≤((numA va x:Nat):Int)+more∧((numA va x:Nat):Int)+more<sb∧((numA vb x:Nat):Int)=((numA va x:Nat):Int)+more)
theorem addF_dep (va vb:List Nat)(sa sb:Nat)(more:Int):DepF (va++vb) (addF va vb sa sb more):=fun x y e=>by
 simp only[addF,numA_congr fun v hv=>e v (List.mem_append_left _ hv),numA_congr fun v hv=>e v (List.mem_append_right va hv)]
theorem add_ev {va vb:List Nat}{sa sb:Nat}{more:Int}{x:Nat→Bool}(h1:1≤sa)(hb:sb≤2 ^ vb.length)(hlh:addLo more≤addHi sa sb more) :
  (btwF va (addLo more).toNat (addHi sa sb more).toNat x && outF va vb (addP (max va.length vb.length) more) (max va.length vb.length) x)=addF va vb sa sb more x:=by
 have h2:=(sumL_ok (a:=va) (b:=vb) (p:=addP (max va.length vb.length) more) (x:=x) (max va.length vb.length)).2
 rw[numP_all (by omega),numP_all (by omega)]at h2
 have hp:=addP_lt (max va.length vb.length) more
 rw[Nat.mod_eq_of_lt hp]at h2
 have hpw:((2:Int) ^ (max va.length vb.length))=((2 ^ (max va.length vb.length):Nat):Int):=by simp
 have hP:((addP (max va.length vb.length) more:Nat):Int)=more % ((2 ^ (max va.length vb.length):Nat):Int):=by
  unfold addP
  rw[hpw,Int.toNat_of_nonneg (Int.emod_nonneg _ (by have:=Nat.two_pow_pos (max va.length vb.length);omega))]
 have hbw:2 ^ vb.length≤2 ^ (max va.length vb.length):=Nat.pow_le_pow_right (by omega) (by omega)
 have hmod:((((numA va x+addP (max va.length vb.length) more) % 2 ^ (max va.length vb.length):Nat)):Int)=(((numA va x:Nat):Int)+more) % ((2 ^ (max va.length vb.length):Nat):Int):=by
  rw[Int.natCast_emod,Int.natCast_add,hP,Int.add_emod_emod]
 unfold outF btwF addF addLo addHi at *
 generalize 2 ^ (max va.length vb.length)=W at *
 generalize addP (max va.length vb.length) more=p at *
 generalize numA va x=A at *
 generalize numA vb x=B at *
 rw[Bool.eq_iff_iff,Bool.and_eq_true,h2]
 simp only[Bool.and_eq_true,decide_eq_true_eq]
 constructor
 ·rintro⟨⟨c1,c2⟩,c3⟩
  have hin:0≤(A:Int)+more∧(A:Int)+more<W:=by omega
  rw[c3,Int.emod_eq_of_lt hin.1 hin.2]at hmod
  omega
 ·rintro⟨c1,c2,c3,c4⟩
  rw[Int.emod_eq_of_lt c2 (by omega)]at hmod
  omega
def addL (sb:Nat)(more:Int)(i:Nat):List (List Int):=(List.range i).filterMap fun(v:Nat)=>if 0≤(v:Int)+more∧(v:Int)+more<sb then some [(v:Int),(v:Int)+more] else none
theorem addL_len {sb:Nat}{more:Int}{i:Nat}:(addL sb more i).length≤i:=by
 have:=List.length_filterMap_le (fun(v:Nat)=>if 0≤(v:Int)+more∧(v:Int)+more<sb then some [(v:Int),(v:Int)+more] else none) (List.range i)
 rw[List.length_range]at this
 exact this
theorem addL_next {sb:Nat}{more:Int}{i:Nat}:addL sb more (i+1)=if 0≤(i:Int)+more∧(i:Int)+more<sb then addL sb more i++[[(i:Int),(i:Int)+more]] else addL sb more i:=by
 unfold addL
 rw[List.range_succ,List.filterMap_append]
 by_cases h:0≤(i:Int)+more∧(i:Int)+more<sb
 ·rw[if_pos h];simp[h]
 ·rw[if_neg h];simp[h]
theorem addL_ok {sb:Nat}{more:Int}{i:Nat}(h:i≤1000):RowsOk (addL sb more i):=⟨by have:=addL_len (sb:=sb) (more:=more) (i:=i);omega,fun r hr=>by
 obtain⟨v,_,hv⟩:=List.mem_filterMap.1 hr
 split at hv
 ·injection hv with hv;subst hv;simp
 ·cases hv⟩
theorem add_rows {n a a2 sa sb:Nat}{more:Int}{ds:List (List UInt8×Nat)}{at_:List (List Nat)}(hD:DOk n ds at_)(ha:a<ds.length)(hb:a2<ds.length)(hne:a≠a2)(s1:sa≤2 ^ (at_.getD a []).length)(s2:sb≤2 ^ (at_.getD a2 []).length) :
  sortR (tupR (treeT n (addF (at_.getD a []) (at_.getD a2 []) sa sb more)) at_ [a,a2])=addL sb more sa:=by
 symm
 have hks:∀k,k∈[a,a2]→k<ds.length:=fun k hk=>by simp at hk;rcases hk with rfl|rfl<;>assumption
 have hnd:[a,a2].Nodup:=by simp[hne]
 have hg:DepF (varsOf at_ [a,a2]) (addF (at_.getD a []) (at_.getD a2 []) sa sb more):=by rw[varsOf_two];exact addF_dep _ _ _ _ _
 refine sortR_uniq ?_ fun r=>?_
 ·unfold Rising addL
  rw[List.pairwise_filterMap]
  refine List.Pairwise.imp (fun {x y} h=>?_) List.pairwise_lt_range
  intro p hp q hq
  split at hp
  ·split at hq
   ·injection hp with hp
    injection hq with hq
    subst hp hq
    simp only[cmpZ]
    rw[if_pos (by omega)]
    decide
   ·cases hq
  ·cases hp
 ·rw[tup_mem hD hks hnd hg]
  simp only[addL,List.mem_filterMap,List.mem_range,List.map_cons,List.map_nil]
  constructor
  ·rintro⟨v,hv,h⟩
   split at h
   ·rename_i hin
    injection h with h
    subst h
    have hN:=varsOf_nd hD hnd hks
    obtain⟨x,hx⟩:=num_ex [(at_.getD a [],v),(at_.getD a2 [],((v:Int)+more).toNat)] (by simpa [varsOf]using hN) (fun p hp=>by
     simp at hp
     rcases hp with rfl|rfl
     ·exact Nat.lt_of_lt_of_le hv s1
     ·show ((v:Int)+more).toNat<2 ^ (at_.getD a2 []).length
      omega)
    have e1:=hx _ (List.mem_cons_self ..)
    have e2:=hx _ (List.mem_cons_of_mem _ (List.mem_cons_self ..))
    dsimp only at e1 e2
    have e3:((((v:Int)+more).toNat:Nat):Int)=(v:Int)+more:=Int.toNat_of_nonneg hin.1
    refine⟨x,?_,by rw[e1,e2,e3]⟩
    simp only[addF,e1,e2,e3,decide_eq_true_eq]
    exact⟨by omega,hin.1,hin.2,trivial⟩
   ·cases h
  ·rintro⟨x,hx,rfl⟩
   simp only[addF,decide_eq_true_eq]at hx
   refine⟨numA (at_.getD a []) x,by omega,?_⟩
   rw[if_pos ⟨hx.2.1,hx.2.2.1⟩,← hx.2.2.2]
section
variable {s u : St} {K : OB} {q c : Nat} {ns : List Tr} {x y : Nat} {o : List (List Nat)} {N : Nat}
theorem Law.add (h:Law s u K q c ns x y o N){a b:Nat}{more:Int}(ha:a<3)(hb:b<3)(hne:a≠b)(h1:-1073741824≤more)(h2:more≤1073741824)(hB:N+8592≤16384) :
  OpFC 24 [.ptr c 0,.int .i64 (a:Int),.int .i64 (b:Int),.int .i64 more] u K 12 16384 ns (N+8592) (addF (o.getD a []) (o.getD b []) (szD x y a) (szD x y b) more):=by
 obtain⟨w1,w2,w3,w4,w5⟩:=h.wid ha
 obtain⟨v1,v2,v3,v4,v5⟩:=h.wid hb
 by_cases hlh:addLo more≤addHi (szD x y a) (szD x y b) more
 ·have e1:(2 * (o.getD a []).length+1) * 2 ^ (o.getD a []).length≤9 * 16:=Nat.mul_le_mul (by omega) (pow4 w2)
  have e2:SumR 8 (max (o.getD a []).length (o.getD b []).length)≤4 * (8 * 2 ^ 8):=Nat.mul_le_mul_right _ (by omega)
  have hk:(o.getD a []++o.getD b []).length≤8:=by rw[List.length_append];omega
  exact((Cadd_S (k:=8) h.C h.D (dsT_at ha) (dsT_at hb) (h.oat ha) (h.oat hb) hne h1 h2 hlh hk (by omega) h.n (by omega)).mono (by omega)).congr fun z=>add_ev w3 v5 hlh
 ·have e:addF (o.getD a []) (o.getD b []) (szD x y a) (szD x y b) more=fun _=>false:=by
   funext z
   simp only[addF,decide_eq_false_iff_not]
   unfold addLo addHi at hlh
   omega
  have w:=Cadd0_S (a:=a) (a2:=b) (more:=more) h.C 0 (.inr ⟨⟨ha,hb,hne,h1,h2⟩,rfl,_,_,dsT_at ha,dsT_at hb,by dsimp only;omega,by dsimp only;omega,by dsimp only;omega⟩)
  have c0:=h.C.om.c0.1
  rw[e]
  refine SCalls.mono (h:=w) ?_
  rintro w u ⟨rfl,rfl⟩
  exact⟨(u,K,ns),by dsimp only;rw[c0.2];rfl,rfl,⟨h.C.om,⟨[],by simp⟩,c0.1,h.n.mono (by omega),.refl _ _⟩⟩
theorem Law.add0 (h:Law s u K q c ns x y o N){a b:Nat}{more:Int}(hx:¬ (a<3∧b<3)∨a=b∨more < -1073741824∨more > 1073741824) :
  SRet Tryz.prog 24 [.ptr c 0,.int .i64 (a:Int),.int .i64 (b:Int),.int .i64 more] u (.tup [.int .i64 0,.int .i64 1]) u:=
 Cadd0_S h.C 1 (.inl ⟨hx,rfl⟩)
end
def SubR (ns:List Tr)(R:Tr)(m:Nat):Prop:=∃U:List Tr,U.length≤m∧∀t,t∈subsT R→t∈ns∨t∈U
theorem FitN.ofR {ns:List Tr}{R:Tr}{N m B:Nat}(h:CntN ns N)(hR:SubR ns R m)(hB:N+m≤B):FitN ns R B:=fun X hX hs=>by
 obtain⟨U,h1,h2⟩:=h
 obtain⟨S,h3,h4⟩:=hR
 have:=nodup_le (Y:=U++S) hX fun x hx=>by
  rw[List.mem_append]
  rcases hs x hx with h|h
  ·exact .inl (h2 x h)
  ·rcases h4 x h with h|h
   ·exact .inl (h2 x h)
   ·exact .inr h
 rw[List.length_append]at this
 omega
theorem CntN.extR {ns ns':List Tr}{R:Tr}{N m:Nat}(h:CntN ns N)(hR:SubR ns R m)(he:ExtN ns ns' R):CntN ns' (N+m):=by
 obtain⟨U,h1,h2⟩:=h
 obtain⟨S,h3,h4⟩:=hR
 refine⟨U++S,by rw[List.length_append];omega,fun t ht=>?_⟩
 rw[List.mem_append]
 rcases he.new t ht with h|h
 ·exact .inl (h2 t h)
 ·rcases h4 t h with h|h
  ·exact .inl (h2 t h)
  ·exact .inr h
theorem SubR.one {n:Nat}{ns:List Tr}(hN:NsOk n ns){v:Nat}{l h:Tr}(hl:l∈ns)(hh:h∈ns):SubR ns (mkT v l h) 1:=by
 refine⟨[mkT v l h],by simp,fun t ht=>?_⟩
 unfold mkT at ht ⊢
 split at ht
 ·exact .inl (hN.subs hl ht)
 ·rename_i e
  rw[if_neg e]
  simp only[subsT,List.mem_cons,List.mem_append]at ht
  rcases ht with rfl|ht|ht
  ·exact .inr (by simp)
  ·exact .inl (hN.subs hl ht)
  ·exact .inl (hN.subs hh ht)
def cubF (l:List (Nat×Bool))(x:Nat→Bool):Bool:=l.all fun p=>x p.1 == p.2
theorem cubF_cons {v:Nat}{b:Bool}{l:List (Nat×Bool)}{x:Nat→Bool}:cubF ((v,b)::l) x=((x v == b) && cubF l x):=by simp[cubF]
theorem cubF_dep {S:List Nat}{l:List (Nat×Bool)}(h:∀p,p∈l→p.1∈S):DepF S (cubF l):=fun x y e=>by
 unfold cubF
 induction l with
 |nil=>rfl
 |cons p l ih=>
  rw[List.all_cons,List.all_cons,ih fun q hq=>h q (List.mem_cons_of_mem _ hq),e _ (h p (List.mem_cons_self ..))]
theorem cubF_ext {l l':List (Nat×Bool)}(h:∀p,p∈l↔p∈l')(x:Nat→Bool):cubF l x=cubF l' x:=by
 rw[Bool.eq_iff_iff]
 simp only[cubF,List.all_eq_true]
 exact⟨fun a p hp=>a p ((h p).2 hp),fun a p hp=>a p ((h p).1 hp)⟩
theorem cubF_app {l l':List (Nat×Bool)}{x:Nat→Bool}:cubF (l++l') x=(cubF l x && cubF l' x):=by simp[cubF]
theorem cubF_step {v:Nat}{b:Bool}{l:List (Nat×Bool)}:(fun x:Nat→Bool=>if x v=true then(if b=true then cubF l else fun _=>false) x else(if b=true then fun _=>false else cubF l) x)=cubF ((v,b)::l):=by
 funext x
 rw[cubF_cons]
 cases b<;>cases x v<;>simp
theorem cubF_zip {n:Nat}{x:Nat→Bool}:∀(vs:List Nat) (i:Nat),n / 2 ^ i<2 ^ vs.length→cubF (zipB n i vs) x=decide (numA vs x=n / 2 ^ i)
 |[],i,h=>by
  simp only[List.length_nil,Nat.pow_zero]at h
  have e:n / 2 ^ i=0:=Nat.lt_one_iff.1 h
  rw[e]
  rfl
 |v::vs,i,h=>by
  have e1:n / 2 ^ i=(n.testBit i).toNat+2 * (n / 2 ^ (i+1)):=by
   rw[Nat.testBit_eq_decide_div_mod_eq,Nat.pow_succ,← Nat.div_div_eq_div_mul]
   rcases Nat.mod_two_eq_zero_or_one (n / 2 ^ i)with e|e<;>simp[e]<;>omega
  have ih:=cubF_zip (n:=n) (x:=x) vs (i+1) (by
   rw[List.length_cons,Nat.pow_succ]at h
   omega)
  rw[Bool.eq_iff_iff,decide_eq_true_iff]
  simp only[zipB,cubF_cons,ih,Bool.and_eq_true,beq_iff_eq,decide_eq_true_eq,numA]
  rw[e1]
  generalize n / 2 ^ (i+1)=m
  generalize numA vs x=A
  cases x v<;>cases n.testBit i<;>simp<;>omega
theorem cub_new {n:Nat}:∀(k:Nat) (f:(Nat→Bool)→Bool) (c:List (Nat×Bool)),k≤n→(c.map (·.1)).Pairwise (·<·)→(∀p,p∈c→n - k≤p.1∧p.1<n)→DepF (c.map (·.1)) f →
  ∃U:List Tr,U.length≤c.length∧∀t,t∈subsT (treeF n k fun x=>f x || cubF c x)→t∈subsT (treeF n k f)∨t∈U
 |0,f,c,_,_,_,_=>⟨[],by simp,fun t ht=>by simp[treeF,subsT]at ht⟩
 |k+1,f,c,hk,hp,hc,hd=>by
  by_cases hv:∃b r,c=(n - (k+1),b)::r
  ·obtain⟨b,r,rfl⟩:=hv
   generalize hv:n - (k+1)=v at *
   have hr:∀p,p∈r→v<p.1:=fun p hp2=>by
    rw[List.map_cons,List.pairwise_cons]at hp
    exact hp.1 _ (List.mem_map_of_mem hp2)
   have ur:∀b' x,cubF r (updB x v b')=cubF r x:=fun b' x=>cubF_dep (S:=r.map (·.1)) (fun p hp2=>List.mem_map_of_mem hp2) _ _ fun w hw=>by
    obtain⟨p,hp2,rfl⟩:=List.mem_map.1 hw
    have:=hr p hp2
    exact updB_ne (by omega)
   have key:∀b':Bool,(fun x=>f (updB x v b') || cubF ((v,b)::r) (updB x v b'))=if b'=b then fun x=>f (updB x v b') || cubF r x else fun x=>f (updB x v b'):=fun b'=>by
    by_cases e:b'=b
    ·rw[if_pos e];funext x;rw[cubF_cons,updB_same,ur,e];simp
    ·rw[if_neg e];funext x;rw[cubF_cons,updB_same,show (b' == b)=false by simpa using e];simp
   obtain⟨U,h1,h2⟩:=cub_new (n:=n) k (fun x=>f (updB x v b)) r (by omega) (by rw[List.map_cons,List.pairwise_cons]at hp;exact hp.2) (fun p hp2=>by have:=hr p hp2;have:=hc p (List.mem_cons_of_mem _ hp2);omega) (fun x y e=>hd _ _ fun w hw=>by
    rw[List.map_cons,List.mem_cons]at hw
    by_cases ew:w=v
    ·rw[ew,updB_same,updB_same]
    ·rw[updB_ne ew,updB_ne ew]
     rcases hw with hw|hw
     ·exact absurd hw ew
     ·exact e w hw)
   refine⟨treeF n (k+1) (fun x=>f x || cubF ((v,b)::r) x)::U,by simp only[List.length_cons];omega,fun t ht=>?_⟩
   have hsub:∀b',t∈subsT (treeF n k fun x=>f (updB x v b') || cubF ((v,b)::r) (updB x v b'))→t∈subsT (treeF n (k+1) f)∨t∈U:=fun b' h3=>by
    have hin:∀b'':Bool,t∈subsT (treeF n k fun x=>f (updB x v b''))→t∈subsT (treeF n (k+1) f):=fun b'' h4=>by
     simp only[treeF,hv]
     cases b''
     ·exact subs_mk (.inl h4)
     ·exact subs_mk (.inr h4)
    rw[key b']at h3
    by_cases e:b'=b
    ·rw[if_pos e]at h3
     subst e
     rcases h2 t h3 with h4|h4
     ·exact .inl (hin _ h4)
     ·exact .inr h4
    ·rw[if_neg e]at h3
     exact .inl (hin _ h3)
   rw[List.mem_cons]
   simp only[treeF,hv]at ht ⊢
   unfold mkT at ht
   split at ht
   ·rcases hsub false ht with h|h
    ·simp only[treeF,hv]at h;exact .inl h
    ·exact .inr (.inr h)
   ·rename_i e
    simp only[subsT,List.mem_cons,List.mem_append]at ht
    rcases ht with h|h|h
    ·refine .inr (.inl ?_)
     rw[h,mkT,if_neg e]
    ·rcases hsub false h with h|h
     ·simp only[treeF,hv]at h;exact .inl h
     ·exact .inr (.inr h)
    ·rcases hsub true h with h|h
     ·simp only[treeF,hv]at h;exact .inl h
     ·exact .inr (.inr h)
  ·generalize hw:n - (k+1)=v at *
   have hne:∀p,p∈c→v<p.1:=fun p hp2=>by
    have h1:=(hc p hp2).1
    rcases Nat.lt_or_ge v p.1 with h|h
    ·exact h
    ·exfalso
     have e:p.1=v:=by omega
     cases c with
     |nil=>cases hp2
     |cons q c=>
      rw[List.map_cons,List.pairwise_cons]at hp
      rcases List.mem_cons.1 hp2 with rfl|hp3
      ·exact hv ⟨p.2,c,by rw[← e]⟩
      ·have h5:=hp.1 _ (List.mem_map_of_mem hp3)
       have h6:=(hc q (List.mem_cons_self ..)).1
       omega
   have uf:∀b x,f (updB x v b)=f x:=fun b x=>hd _ _ fun w hw2=>by
    obtain⟨p,hp2,rfl⟩:=List.mem_map.1 hw2
    have:=hne p hp2
    exact updB_ne (by omega)
   have uc:∀b x,cubF c (updB x v b)=cubF c x:=fun b x=>cubF_dep (S:=c.map (·.1)) (fun p hp2=>List.mem_map_of_mem hp2) _ _ fun w hw2=>by
    obtain⟨p,hp2,rfl⟩:=List.mem_map.1 hw2
    have:=hne p hp2
    exact updB_ne (by omega)
   obtain⟨U,h1,h2⟩:=cub_new (n:=n) k f c (by omega) hp (fun p hp2=>by have:=hne p hp2;have:=hc p hp2;omega) hd
   refine⟨U,h1,fun t ht=>?_⟩
   simp only[treeF,hw,uf,uc,mkT,if_true]at ht ⊢
   exact h2 t ht
theorem cub_sub {n:Nat}{ns:List Tr}(hN:NsOk n ns){f:(Nat→Bool)→Bool}{c:List (Nat×Bool)}(hf:treeT n f∈ns)(hp:(c.map (·.1)).Pairwise (·<·))(hc:∀p,p∈c→p.1<n)(hd:DepF (c.map (·.1)) f):SubR ns (treeT n fun x=>f x || cubF c x) c.length:=by
 obtain⟨U,h1,h2⟩:=cub_new n f c (Nat.le_refl _) hp (fun p hp2=>⟨by omega,hc p hp2⟩) hd
 refine⟨U,h1,fun t ht=>?_⟩
 rcases h2 t ht with h|h
 ·exact .inl (hN.subs hf h)
 ·exact .inr h
theorem OpC.toR {f:FuncId}{xs:List VV}{s:St}{K:OB}{n B N m:Nat}{ns:List Tr}{T:Tr}{g:(Nat→Bool)→Bool}(h:OpC f xs s K n B ns T)(hT:T=treeT n g)(hc:CntN ns N)(hm:SubR ns (treeT n g) m):OpFC f xs s K n B ns (N+m) g:=by
 subst hT
 refine SCalls.mono (h:=h) ?_
 rintro w u ⟨a,rfl,rfl,h1,h2,h3⟩
 exact⟨a,rfl,rfl,h1,h2.pre,h2.mem,hc.extR hm h2,h3⟩
section
variable {s : St} {K : OB} {n B N m : Nat} {ns : List Tr} {f g : (Nat → Bool) → Bool}
theorem OOr_R (hO:OMem s K n B ns)(hf:Hang n f)(hg:Hang n g)(mf:treeT n f∈ns)(mg:treeT n g∈ns)(hc:CntN ns N)(hm:SubR ns (treeT n fun x=>f x || g x) m)(hB:N+m≤B) :
  OpFC 19 [.ptr K.o 0,.int .i64 (ixF n ns f:Nat),.int .i64 (ixF n ns g:Nat)] s K n B ns (N+m) (fun x=>f x || g x):=by
 have hT:iteT n (treeT n f) (.lf true) (treeT n g)=treeT n fun x=>f x || g x:=by
  rw[← treeT_const (n:=n) true,iteT_tree hf (fun _ _ _=>rfl) hg]
  exact treeT_congr fun x=>by cases f x<;>rfl
 exact(OOr_S hO mf mg (by rw[hT];exact .ofR hc hm hB)).toR hT hc hm
end
theorem Nmk_F1 {s:St}{K:OB}{n B N v:Nat}{ns:List Tr}{f g:(Nat→Bool)→Bool}{S:List Nat}(hO:OMem s K n B ns)(hf:DepF S f)(hg:DepF S g)(hS:∀w,w∈S→v<w∧w<n)(hv:v<n)(mf:treeT n f∈ns)(mg:treeT n g∈ns)(hc:CntN ns N)(hB:N+1≤B) :
  OpFC 43 [.ptr K.s.p 0,.int .i64 v,.int .i64 (ixF n ns f:Nat),.int .i64 (ixF n ns g:Nat)] s K n B ns (N+1) (fun x=>if x v=true then g x else f x):=by
 have ok:∀{h:(Nat→Bool)→Bool},DepF S h→OkT n (v+1) (treeT n h):=fun {h} hd=>by
  have hk:n - (n - (v+1))=v+1:=by omega
  have h1:OkT n (v+1) (treeF n (n - (v+1)) h):=by
   have:=treeF_ok (n:=n) (k:=n - (v+1)) (g:=h) (by omega)
   rwa [hk]at this
  have h2:treeT n h=treeF n (n - (v+1)) h:=treeT_eq h1 fun x=>treeF_ev x (by omega) fun x y e=>hd x y fun w hw=>e w (by have:=hS w hw;omega) (hS w hw).2
  rw[h2];exact h1
 have hT:mkT v (treeT n f) (treeT n g)=treeT n fun x=>if x v=true then g x else f x:=by
  refine(treeT_eq (mkT_ok (Nat.zero_le v) hv (ok hf) (ok hg)) fun x=>?_).symm
  rw[mkT_ev,treeT_ev (hf.hang fun w hw=>(hS w hw).2),treeT_ev (hg.hang fun w hw=>(hS w hw).2)]
 have hone:=SubR.one hO.st.ok (v:=v) mf mg
 have w:=Nmk_S hO.st mf mg (ok hf) (ok hg) hv (.ofR hc hone hB)
 rw[hT]at w hone
 refine SCalls.mono (h:=w) ?_
 rintro w u ⟨⟨u,K',ns'⟩,rfl,rfl,h1,h2,h3⟩
 exact⟨(u,⟨K',K.o,K.c⟩,ns'),rfl,rfl,hO.mk h1 h2 h3,h2.pre,h2.mem,hc.extR hone h2,h3.toO⟩
end Go.Proofs.YtndlnadbnganeaaGreatDoor
