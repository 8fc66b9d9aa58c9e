/- Walks of functions that the claim reaches, and plain facts of them. Conditions: those in the statements. -/
import Derived.Test.YtohnaepcgnbaiaaGreatDoorJjEyj
import Derived.Test.YtohnaepcgnbaiaaGreatDoorJjSuj
import Derived.Test.YtohnaepcgnbaiaaGreatDoorJjFd
import Derived.Test.YtohnaepcgnbaiaaGreatDoorJjSaj
import Derived.Test.YtohnaepcgnbaiaaGreatDoorJjPkj
set_option linter.unusedSimpArgs false
set_option linter.unusedVariables false
set_option maxRecDepth 100000
namespace Go.Proofs.YtohnaepcgnbaiaaGreatDoor
open Go.RowKit
attribute [-go_sem] p_and p_or p_shl p_shr p_andNot p_quo p_rem
def parsC (T:List Par):List (List VV):=T.map fun t=>[.int .i64 t.1,.int .i64 t.2]
theorem parsC_len {T:List Par}:(parsC T).length=T.length:=by simp[parsC]
theorem parsC_at {T:List Par}{i:Nat}{t:Par}(h:T[i]?=some t):(parsC T)[i]?=some [.int .i64 t.1,.int .i64 t.2]:=by simp[parsC,h]
def rwsN (T:List (List Nat))(o:Own):List (List VV):=T.map fun t=>[.lst (natsL t) o]
theorem rwsN_len {T:List (List Nat)}{o:Own}:(rwsN T o).length=T.length:=by simp[rwsN]
theorem rwsN_at {T:List (List Nat)}{o:Own}{i:Nat}{t:List Nat}(h:T[i]?=some t):(rwsN T o)[i]?=some [.lst (natsL t) o]:=by simp[rwsN,h]
theorem rwsN_par {A:List Par}{j:Nat}{p:Par}(h:A[j]?=some p):rwsN ((A.take (j+1)).map pN) .full=rwsN ((A.take j).map pN) .full++[[.lst [[.int .i64 ((lo2 p.1:Nat):Int)],[.int .i64 ((lo2 p.2:Nat):Int)]] .full]]:=by
 rw[List.take_add_one,h]
 simp[rwsN,pN,natsL]
theorem rwsN_pl {A:List Par}{j:Nat}(h:j≤A.length):(rwsN ((A.take j).map pN) .full).length=j:=by
 rw[rwsN_len,List.length_map,List.length_take];omega
abbrev TwoA:=(St×OB×Nat×List Tr×Nat×Nat)×((Nat→Bool)→Bool)×((Nat→Bool)→Bool)
structure TwoR (s u:St) (x q c i N:Nat) (A B:List Par) (a:TwoA):Prop where
 L:RLaw s a.1.1 a.1.2.1 x a.1.2.2.1 q c a.1.2.2.2.1 i N
 n1:Nod a.1.2.2.2.1 a.2.1 a.1.2.2.2.2.1
 n2:Nod a.1.2.2.2.1 a.2.2 a.1.2.2.2.2.2
 T1:Tells (oR i) [0,1] (·∈A.map pN) a.2.1
 T2:Tells (oR i) [2,0] (·∈B.map pN) a.2.2
theorem nm_xy:NamesOk [[120],[121]]:=⟨by decide,by decide,by decide⟩
theorem nm_yz:NamesOk [[121],[122]]:=⟨by decide,by decide,by decide⟩
def relV (A:List (List UInt8))(D:List Nat)(k:Nat):List VV:=[.lst (strs A) .no,.lst (natsL D) .no,.int .i64 (k:Int)]
set_option maxHeartbeats 16000000 in
theorem Two_S {s u:St}{K:OB}{x m q c:Nat}{ns:List Tr}{i N N':Nat}(L:RLaw s u K x m q c ns i N)(A B:List Par)(oA oB:Own)(hA:A.length≤20)(hB:B.length≤20)(hN:N+800≤N')(hN':N'≤65536) :
  SCalls Tryz.prog 9 [.ptr x 0,.lst (parsC A) oA,.lst (parsC B) oB] u fun w u'=>∃a:TwoA,w=.ret (.tup [.agg (relV [[120],[121]] [0,1] a.1.2.2.2.2.1),.agg (relV [[121],[122]] [2,0] a.1.2.2.2.2.2),.bool true])∧u'=a.1.1∧TwoR s u x q c i N' A B a:=by
 have hAl:=parsC_len (T:=A)
 have hBl:=parsC_len (T:=B)
 have hat:=fun(i:Nat) (t:Par) (h:A[i]?=some t)=>parsC_at h
 have hbt:=fun(i:Nat) (t:Par) (h:B[i]?=some t)=>parsC_at h
 have w1:=fun(u':St) (hu:∀z,u z≠.free→u' z=u z) (o3:Own)=>(L.more hu).make .full .full nm_xy rfl (by decide) (by decide) (A.map pN) (rwsN (A.map pN) .full) o3 (D:=[0,1]) (N':=N+400) (fun t ht=>by obtain⟨p,_,rfl⟩:=List.mem_map.1 ht;exact pN_ok p) (fun i t h=>⟨_,rwsN_at h⟩) rwsN_len (by rw[List.length_map];omega) (by rw[List.length_map];simp;omega) (by omega)
 rw[show strs [[120],[121]]=[[.str [120]],[.str [121]]] from rfl,show natsL [0,1]=[[.int .i64 0],[.int .i64 1]] from rfl]at w1
 have w2:=fun(u1 u':St) (K1:OB) (m1:Nat) (ns1:List Tr) (L1:RLaw s u1 K1 x m1 q c ns1 i (N+400)) (hu:∀z,u1 z≠.free→u' z=u1 z) (o3:Own)=>(L1.more hu).make .full .full nm_yz rfl (by decide) (by decide) (B.map pN) (rwsN (B.map pN) .full) o3 (D:=[2,0]) (N':=N') (fun t ht=>by obtain⟨p,_,rfl⟩:=List.mem_map.1 ht;exact pN_ok p) (fun i t h=>⟨_,rwsN_at h⟩) rwsN_len (by rw[List.length_map];omega) (by rw[List.length_map];simp;omega) (by omega)
 rw[show strs [[121],[122]]=[[.str [121]],[.str [122]]] from rfl,show natsL [2,0]=[[.int .i64 2],[.int .i64 0]] from rfl]at w2
 have HAT:=Lib.hid hat
 have HBT:=Lib.hid hbt
 have W1:=Lib.hid w1
 have W2:=Lib.hid w2
 have HL:=Lib.hid L
 clear hat hbt w1 w2 L
 generalize parsC A=PA at *
 generalize parsC B=PB at *
 refine G_enter Tryz.func9 rfl Tryz.ntmps9 rfl fun Q hQ hQe=>?_
 (repeat'(first|refine Ctl ?_|((with_reducible refine Kof.use hK ?_);clear hK hE K E)|((first|(with_reducible refine G_region fun K E hK hE=>?_)|((with_reducible refine W_fresh (fun b hb=>?_));(repeat(obtain⟨_,hb⟩:=hb))))<;>(try simp(disch:=omega) only[go_sem,seval,hAl,hBl, *]))))
 rename_i b6 hb6 n67 n76
 obtain⟨b7,hb7e⟩:∃z,z=b:=⟨_,rfl⟩
 subst hb7e
 have hb7:u b7=.free:=hb
 obtain⟨u0,hu0⟩:∃z,z=(u.set b6 (.obj 30 [.lst [] .full,.lst [] .full,.int .i64 0])).set b7 (.obj 30 [.lst [] .full,.lst [] .full,.int .i64 0]):=⟨_,rfl⟩
 rw[← hu0]
 have g0:∀z,u z≠.free→u0 z=u z:=fun z hz=>by rw[hu0,St.set_other _ _ (nef hb7 hz).1,St.set_other _ _ (nef hb6 hz).1]
 have k6:u0 b6=.obj 30 [.lst [] .full,.lst [] .full,.int .i64 0]:=by rw[hu0,St.set_other _ _ (by assumption),St.set_same]
 have k7:u0 b7=.obj 30 [.lst [] .full,.lst [] .full,.int .i64 0]:=by rw[hu0,St.set_same]
 have h67:¬ b6=b7:=by assumption
 have h76:¬ b7=b6:=by assumption
 have G0:=Lib.hid (And.intro g0 (And.intro hb6 hb7))
 clear hu0 g0 hb hb6 hb7 n67 n76
 refine G_loop (fun f env s'=>∃(j:Nat) (ow:Own),j≤A.length∧f+j=A.length∧OwnOk u0 ow j∧s'=u0.own ow 28 1 j∧env 0=.ptr x 0∧env 1=.lst PA oA∧env 2=.lst PB oB∧env 6=.ptr b6 0∧env 7=.ptr b7 0∧env 9=.lst (rwsN ((A.take j).map pN) .full) ow∧env 10=.lst [] .full∧env 11=.int .i64 (j:Int)) A.length ?_ ?_
 ·exact⟨_,Fg.refl _,0,.full,by omega,by omega,rfl,rfl,z_sl,z_sl,z_sl,z_sl,z_sl,by(rw[show rwsN ((A.take 0).map pN) .full=[] from rfl];((try simp(disch:=assumption) only[go_sem,seval, *])<;>rfl)),z_sl,z_sl⟩
 rintro f env s' ⟨j,ow,hj,hfj,hO,rfl,e0,e1,e2,e6,e7,e9,e10,e11⟩
 by_cases h7:j<A.length
 ·obtain⟨p,hp⟩:∃p,A[j]?=some p:=⟨_,List.getElem?_eq_getElem h7⟩
  have hx:=HAT.out j p hp
  have hln:=rwsN_pl (A:=A) hj
  have HTK:=Lib.hid (rwsN_par hp)
  have a1:=and_3 p.1
  have a2:=and_3 p.2
  clear hp
  generalize rwsN ((A.take j).map pN) .full=RW at *
  generalize lo2 p.1=v1 at *
  generalize lo2 p.2=v2 at *
  obtain⟨p1,p2⟩:=p
  dsimp only at hx a1 a2
  (repeat'(first|refine Ctl ?_|(with_reducible first|(refine Kof.use hK ?_;clear hK hE K E)|(refine Kof.use hKh ?_;clear hKh Kh)|(refine Kof.use hKb (P_next ?_);clear hKb Kb)|refine G_plan 5 [([0,1,2,3,4,5,6,7,8,9,10,11,12,13,14],15,[[]])] [16] hQe fun K E hK hE=>?_)|((with_reducible refine W_cond (fun h=>?_) (fun h=>?_))<;>(try(exfalso;assumption)))|((first|(with_reducible first|refine G_region fun K E hK hE=>?_|refine P_heads fun Kh hKh=>?_|refine P_fin fun Kh hKh=>?_|refine P_each fun Kb hKb=>?_)|((with_reducible refine W_app (fun o2 ho=>?_));(try simp(disch:=assumption) only[disown_set,disown_own,ownok_o,ownok_m,List.length_map,List.length_cons,List.length_nil,Nat.zero_add,hAl,hx,a1,a2,hln]at ho)))<;>(try simp(disch:=first|assumption|omega) only[go_sem,seval,hAl,hx,a1,a2,hln, *]))))
  all_goals exact⟨_,Fg.refl _,f - 1,by omega,j+1,o2,by omega,by omega,ho,rfl,z_sl,z_sl,z_sl,z_sl,z_sl,by(rw[HTK.out];((try simp(disch:=assumption) only[go_sem,seval, *])<;>rfl)),z_sl,z_sl⟩
 ·have hin:j=A.length:=by omega
  rw[hin,List.take_length]at e9
  (repeat'(first|(with_reducible refine Kp_atQ 6 ?_)|refine Ctl ?_|((with_reducible refine Kof.use hK ?_);clear hK hE K E)|((with_reducible refine W_cond (fun h=>?_) (fun h=>?_))<;>(try(exfalso;omega)))|(((with_reducible refine G_region fun K E hK hE=>?_))<;>(try simp(disch:=omega) only[go_sem,seval,hAl, *]))))
  unfold StopQ
  refine Kp_forget (s':=u0) (Fg.own hO) ?_
  clear hO hj hfj
  generalize hRA:rwsN (A.map pN) .full=RA at *
  (repeat'(first|refine Ctl ?_|((with_reducible refine Kof.use hK ?_);clear hK hE K E)|(((with_reducible refine G_region fun K E hK hE=>?_))<;>(try simp(disch:=omega) only[go_sem,seval, *]))))
  refine G_loop (fun f env s'=>∃(j:Nat) (ow2:Own),j≤B.length∧f+j=B.length∧OwnOk u0 ow2 j∧s'=u0.own ow2 28 1 j∧env 0=.ptr x 0∧env 2=.lst PB oB∧env 6=.ptr b6 0∧env 7=.ptr b7 0∧env 9=.lst RA ow∧env 10=.lst (rwsN ((B.take j).map pN) .full) ow2∧env 12=.int .i64 (j:Int)) B.length ?_ ?_
  ·exact⟨_,Fg.refl _,0,.full,by omega,by omega,rfl,rfl,z_sl,z_sl,z_sl,z_sl,z_sl,by(rw[show rwsN ((B.take 0).map pN) .full=[] from rfl];((try simp(disch:=assumption) only[go_sem,seval, *])<;>rfl)),z_sl⟩
  rintro f env s' ⟨j,ow2,hj,hfj,hO,rfl,e0,e2,e6,e7,e9,e10,e12⟩
  by_cases h7:j<B.length
  ·obtain⟨p,hp⟩:∃p,B[j]?=some p:=⟨_,List.getElem?_eq_getElem h7⟩
   have hx:=HBT.out j p hp
   have hln:=rwsN_pl (A:=B) hj
   have HTK:=Lib.hid (rwsN_par hp)
   have a1:=and_3 p.1
   have a2:=and_3 p.2
   clear hp
   generalize rwsN ((B.take j).map pN) .full=RW at *
   generalize lo2 p.1=v1 at *
   generalize lo2 p.2=v2 at *
   obtain⟨p1,p2⟩:=p
   dsimp only at hx a1 a2
   (repeat'(first|refine Ctl ?_|(with_reducible first|(refine Kof.use hK ?_;clear hK hE K E)|(refine Kof.use hKh ?_;clear hKh Kh)|(refine Kof.use hKb (P_next ?_);clear hKb Kb)|refine G_plan 9 [([0,1,2,3,4,5,6,7,8,9,10,11,12,13,14],15,[[]])] [16] hQe fun K E hK hE=>?_)|((with_reducible refine W_cond (fun h=>?_) (fun h=>?_))<;>(try(exfalso;assumption)))|((first|(with_reducible first|refine G_region fun K E hK hE=>?_|refine P_heads fun Kh hKh=>?_|refine P_fin fun Kh hKh=>?_|refine P_each fun Kb hKb=>?_)|((with_reducible refine W_app (fun o2 ho=>?_));(try simp(disch:=assumption) only[disown_set,disown_own,ownok_o,ownok_m,List.length_map,List.length_cons,List.length_nil,Nat.zero_add,hBl,hx,a1,a2,hln]at ho)))<;>(try simp(disch:=first|assumption|omega) only[go_sem,seval,hBl,hx,a1,a2,hln, *]))))
   all_goals exact⟨_,Fg.refl _,f - 1,by omega,j+1,o2,by omega,by omega,ho,rfl,z_sl,z_sl,z_sl,z_sl,z_sl,by(rw[HTK.out];((try simp(disch:=assumption) only[go_sem,seval, *])<;>rfl)),z_sl⟩
  ·have hin2:j=B.length:=by omega
   rw[hin2,List.take_length]at e10
   (repeat'(first|(with_reducible refine Kp_atQ 10 ?_)|refine Ctl ?_|((with_reducible refine Kof.use hK ?_);clear hK hE K E)|((with_reducible refine W_cond (fun h=>?_) (fun h=>?_))<;>(try(exfalso;omega)))|(((with_reducible refine G_region fun K E hK hE=>?_))<;>(try simp(disch:=omega) only[go_sem,seval,hBl, *]))))
   unfold StopQ
   refine Kp_forget (s':=u0) (Fg.own hO) ?_
   have wa:=W1.out u0 G0.out.1 ow
   clear hO hj hfj
   generalize hRB:rwsN (B.map pN) .full=RB at *
   (repeat'((((with_reducible refine G_region fun K E hK hE=>?_))<;>(try simp(disch:=omega) only[go_sem,seval, *]))))
   refine call_ex can19 wa (fun a h=>?_)
   obtain⟨⟨u1,K1,m1,ns1,kp⟩,f1⟩:=a
   have j6:=h.own b6 _ k6
   have j7:=h.own b7 _ k7
   have HR1:=Lib.hid h
   have hj6:u1 b6≠.free:=by dsimp only at j6;rw[j6];simp
   have hj7:u1 b7≠.free:=by dsimp only at j7;rw[j7];simp
   dsimp only at j6 j7 ⊢
   clear h wa k6 k7
   simp only[go_sem,seval]
   (repeat'(first|refine Ctl ?_|((with_reducible refine Kof.use hK ?_);clear hK hE K E)|((first|(with_reducible refine G_region fun K E hK hE=>?_)|((with_reducible refine W_fresh (fun b hb=>?_));(try(obtain⟨_,_⟩:=nef hb hj6;obtain⟨_,_⟩:=nef hb hj7))))<;>(try simp(disch:=omega) only[go_sem,seval, *]))))
   obtain⟨b13,hb13e⟩:∃z,z=b:=⟨_,rfl⟩
   subst hb13e
   have hb13:u1 b13=.free:=hb
   obtain⟨u1',hu1⟩:∃z,z=u1.set b13 (.obj 30 [.lst [[.str [120]],[.str [121]]] .no,.lst [[.int .i64 0],[.int .i64 1]] .no,.int .i64 (kp:Int)]):=⟨_,rfl⟩
   rw[← hu1]
   have g1:∀z,u1 z≠.free→u1' z=u1 z:=fun z hz=>by rw[hu1,St.set_other _ _ (nef hb13 hz).1]
   have i13:u1' b13=.obj 30 [.lst [[.str [120]],[.str [121]]] .no,.lst [[.int .i64 0],[.int .i64 1]] .no,.int .i64 (kp:Int)]:=by rw[hu1,St.set_same]
   have i6:=(g1 b6 hj6).trans j6
   have i7:=(g1 b7 hj7).trans j7
   have wb:=W2.out u1 u1' K1 m1 ns1 HR1.out.L g1 ow2
   have HB:=Lib.hid hb13
   clear hu1 g1 hb hb13 j6 j7 hj6 hj7
   refine call_ex can19 wb (fun a h=>?_)
   obtain⟨⟨u2,K2,m2,ns2,kq⟩,f2⟩:=a
   have j6:=h.own b6 _ i6
   have j7:=h.own b7 _ i7
   have j13:=h.own b13 _ i13
   have HR2:=Lib.hid h
   dsimp only at j6 j7 j13 ⊢
   have hj6:u2 b6≠.free:=by rw[j6];simp
   have hj7:u2 b7≠.free:=by rw[j7];simp
   have hj13:u2 b13≠.free:=by rw[j13];simp
   clear h wb i6 i7 i13
   simp only[go_sem,seval]
   (repeat'(first|refine Ctl ?_|(with_reducible first|(refine Kof.use hK ?_;clear hK hE K E)|(refine Kof.use hKh ?_;clear hKh Kh)|(refine Kof.use hKb (P_next ?_);clear hKb Kb)|refine G_plan 12 [([0,1,2,3,4,5,6,7],8,[[1,5,6,7]]),([],9,[[],[5,6,7]])] [10] hQe fun K E hK hE=>?_)|((first|(with_reducible first|refine P_heads fun Kh hKh=>?_|refine P_fin fun Kh hKh=>?_|refine P_each fun Kb hKb=>?_)|((with_reducible refine W_fresh (fun b hb=>?_));(try(obtain⟨_,_⟩:=nef hb hj6;obtain⟨_,_⟩:=nef hb hj7;obtain⟨_,_⟩:=nef hb hj13))))<;>(try simp(disch:=omega) only[go_sem,seval, *]))))
   have hb15:u2 b=.free:=hb
   all_goals(refine W_ret res9 hQ ?_)
   all_goals refine⟨_,_,Wk.refl _,Fg.refl _,((St.set _ b7 _,K2,m2,ns2,kp,kq),f1,f2),rfl,rfl,?_,HR1.out.nd.app HR2.out.pre,HR2.out.nd,HR1.out.T,HR2.out.T⟩
   all_goals refine HR2.out.L.fin fun z hz=>?_
   all_goals dsimp only at hz ⊢
   all_goals by_cases e7:z=b7
   ·subst e7;exact .inr ⟨⟨_,j7⟩,HL.out.free G0.out.2.2⟩
   by_cases e6:z=b6
   ·subst e6;exact .inr ⟨⟨_,j6⟩,HL.out.free G0.out.2.1⟩
   left
   rw[St.set_other _ _ e7,St.set_other _ _ e6,St.set_other _ _ (nef hb15 hz).1]
end Go.Proofs.YtohnaepcgnbaiaaGreatDoor
namespace Go.Proofs.YtohnaepcgnbaiaaGreatDoor
open Go.RowKit
attribute [-go_sem] p_and p_or p_shl p_shr p_andNot p_quo p_rem
section
variable {s u : St} {K : OB} {x m q c : Nat} {ns : List Tr} {i N N' : Nat} {A A2 : List (List UInt8)} {D D2 : List Nat}
theorem RLaw.move (L:RLaw s u K x m q c ns i N){S:List Nat→Prop}{f:(Nat→Bool)→Bool}{k:Nat}(hT:Tells (oR i) D S f)(hk:Nod ns f k)(o1 o2:Own)(hn:NamesOk A)(hl:A.length=D.length)(hd:D.Nodup)(h4:∀d,d∈D→d<4)(attr:List UInt8){j d0 d1:Nat}(hix:ixA attr A=(j:Int))(hj:D[j]?=some d0)(h1:d1<4)(hne:d0≠d1→d1∉D){D':List Nat}(hD':D.set j d1=D')
  (hN:N+(2 * D.length+2) * 2 ^ (2 * D.length)≤N') (hB:N'≤65536) :
  SCalls Tryz.prog 10 [.ptr x 0,.agg [.lst (strs A) o1,.lst (natsL D) o2,.int .i64 (k:Nat)],.str attr,.int .i64 (d1:Int)] u fun w u'=>∃a:ResG,w=.ret (.tup [.agg (relV A D' a.1.2.2.2.2),.int .i64 0])∧u'=a.1.1∧ResT s u ns x q c i N' D' S a:=by
 subst hD'
 have hvl:=varsR_len L.i3 h4
 have h41:∀d,d∈[d1]→d<4:=fun d hd=>by rw[List.mem_singleton]at hd;omega
 have h:=RMove_S (by omega) L.M L.D A o1 D o2 (L.r4 hn hl hd h4) hT.dep hk.mem attr j d0 d1 hix hj (dom4R L.i3 h41) hne L.n (by rw[hvl];omega)
 rw[hk.ix,hvl]at h
 refine SCalls.mono (h:=h) ?_
 rintro w u' ⟨a,rfl,rfl,h⟩
 have h40:=h4 d0 (List.mem_of_getElem? hj)
 exact⟨_,rfl,rfl,L.res h hN (hT.move L.D hj hd (fun k hk=>by have:=h4 k hk;show k<7;omega) (L.w2 (by omega)) (L.w2 (by omega)))⟩
theorem RLaw.join (L:RLaw s u K x m q c ns i N){S S2 S':List Nat→Prop}{f g:(Nat→Bool)→Bool}{k k2:Nat}(hT:Tells (oR i) D S f)(hk:Nod ns f k)(o1 o2:Own)(hn:NamesOk A)(hl:A.length=D.length)(hd:D.Nodup)(h4:∀d,d∈D→d<4)(hne:A≠[])
  (hT2:Tells (oR i) D2 S2 g) (hk2:Nod ns g k2) (o3 o4:Own) (hn2:NamesOk A2) (hl2:A2.length=D2.length) (hd2:D2.Nodup) (h42:∀d,d∈D2→d<4) (hne2:A2≠[])
  {jq:JS} (hj:joinF dsR A D (A2.zip D2) ⟨D++D2,[],D,A⟩=some jq) (hnq:NamesOk jq.A) (hlq:jq.A.length=jq.D.length) (hdq:jq.D.Nodup) (h4q:∀d,d∈jq.D→d<4) (h4t:∀d,d∈jq.t→d<4) (htn:jq.t.Nodup) (htl:jq.t.length=D2.length) (hs1:∀k,k∈D→k∈jq.D) (hs2:∀k,k∈jq.t→k∈jq.D)
  (hS:∀G,Tells (oR i) jq.t S2 G→Tells (oR i) jq.D S' (fun y=>f y && G y))
  (hN:N+(2 * D2.length+2) * 2 ^ (2 * D2.length)+2 ^ (2 * jq.D.length)≤N') (hB:N'≤65536) :
  SCalls Tryz.prog 13 [.ptr x 0,.agg [.lst (strs A) o1,.lst (natsL D) o2,.int .i64 (k:Nat)],.agg [.lst (strs A2) o3,.lst (natsL D2) o4,.int .i64 (k2:Nat)]] u fun w u'=>∃a:ResG,w=.ret (.tup [.agg (relV jq.A jq.D a.1.2.2.2.2),.int .i64 0])∧u'=a.1.1∧ResT s u ns x q c i N' jq.D S' a:=by
 have hvl:=varsR_len L.i3 h42
 have hvq:=varsR_len L.i3 h4q
 have h:=RJoin_S (by omega) L.M L.D (by decide) A o1 D o2 (L.r4 hn hl hd h4) hne hT.dep hk.mem A2 o3 D2 o4 (L.r4 hn2 hl2 hd2 h42) hne2 hT2.dep hk2.mem hj (L.r4 hnq hlq hdq h4q) (dom4R L.i3 h4t) htn htl hs1 hs2 L.n (by rw[hvl,hvq];omega)
 rw[hk.ix,hk2.ix,hvl,hvq]at h
 refine SCalls.mono (h:=h) ?_
 rintro w u' ⟨a,rfl,rfl,h⟩
 exact⟨_,rfl,rfl,L.res h hN (hS _ (hT2.turn L.D htl (fun k hk=>⟨by have:=h42 k hk;show k<7;omega,L.w2 (by have:=h42 k hk;omega)⟩) (fun k hk=>L.w2 (by have:=h4t k hk;omega)) hd2))⟩
theorem RLaw.name (L:RLaw s u K x m q c ns i N){S:List Nat→Prop}{f:(Nat→Bool)→Bool}{k:Nat}(hT:Tells (oR i) D S f)(hk:Nod ns f k)(o1 o2:Own)(hn:NamesOk A)(hl:A.length=D.length)(hd:D.Nodup)(h4:∀d,d∈D→d<4)(o3:Own)(hn2:NamesOk A2)(hl2:A2.length=A.length)(hN:N≤N') :
  SCalls Tryz.prog 16 [.ptr x 0,.agg [.lst (strs A) o1,.lst (natsL D) o2,.int .i64 (k:Nat)],.lst (strs A2) o3] u fun w u'=>∃a:ResG,w=.ret (.tup [.agg (relV A2 D a.1.2.2.2.2),.int .i64 0])∧u'=a.1.1∧ResT s u ns x q c i N' D S a:=by
 have h:=RName_S (by omega) L.M L.D A o1 D o2 (L.r4 hn hl hd h4) hT.dep hk.mem A2 o3 hn2 hl2 L.n
 rw[hk.ix]at h
 refine SCalls.mono (h:=h) ?_
 rintro w u' ⟨a,rfl,rfl,h⟩
 exact⟨_,rfl,rfl,L.res h hN hT⟩
end
end Go.Proofs.YtohnaepcgnbaiaaGreatDoor
namespace Go.Proofs.YtohnaepcgnbaiaaGreatDoor
open Go.RowKit
attribute [-go_sem] p_and p_or p_shl p_shr p_andNot p_quo p_rem
theorem cst0:((0:Nat):Int)=0:=rfl
theorem cst1:((1:Nat):Int)=1:=rfl
theorem cst2:((2:Nat):Int)=2:=rfl
theorem cst3:((3:Nat):Int)=3:=rfl
theorem nm_xyz:NamesOk [[120],[121],[122]]:=⟨by decide,by decide,by decide⟩
def aw2:List (List Nat):=[[2,3],[2,0],[1,1]]
def awJ:List (List Nat):=[[1,2,0],[1,2,3]]
theorem aw_put:putA awJ=[[1,2,0],[1,2,3]]:=by rfl
theorem aw_join {o:List (List Nat)}{f G:(Nat→Bool)→Bool}(hf:Tells o [0,1] (·∈[[1,2]]) f)(hG:Tells o [1,2] (·∈aw2) G):Tells o [0,1,2] (·∈awJ) (fun y=>f y && G y):=fun x=>by
 rw[Bool.and_eq_true,hf x,hG x]
 simp only[List.map_cons,List.map_nil]
 generalize vN o x 0=p
 generalize vN o x 1=q
 generalize vN o x 2=r
 simp only[aw2,awJ,List.mem_cons,List.cons.injEq,List.not_mem_nil,or_false,and_true]
 omega
abbrev rv2 (a b:List UInt8)(d e:Int)(k:Nat):List VV:=[.lst [[.str a],[.str b]] .no,.lst [[.int .i64 d],[.int .i64 e]] .no,.int .i64 (k:Int)]
abbrev rv3 (a b c:List UInt8)(d e f:Int)(k:Nat):List VV:=[.lst [[.str a],[.str b],[.str c]] .no,.lst [[.int .i64 d],[.int .i64 e],[.int .i64 f]] .no,.int .i64 (k:Int)]
theorem aw2_rows:rwsN aw2 .full=[[.lst [[.int .i64 2],[.int .i64 3]] .full],[.lst [[.int .i64 2],[.int .i64 0]] .full],[.lst [[.int .i64 1],[.int .i64 1]] .full]]:=rfl
set_option maxHeartbeats 16000000 in
theorem RAwake_S (s:St):SRet Tryz.prog 7 [] s (.bool true) s:=by
 obtain⟨i,hi3,wb⟩:=RBegun_S s 0
 refine G_enter Tryz.func7 rfl Tryz.ntmps7 rfl fun Q hQ hQe=>?_
 (repeat'(first|refine Ctl ?_|((with_reducible refine Kof.use hK ?_);clear hK hE K E)|(((with_reducible refine G_region fun K E hK hE=>?_))<;>(try simp(disch:=omega) only[go_sem,seval, *]))))
 refine call_ex can8 wb (fun a h=>?_)
 obtain⟨u1,KK,q,c,x⟩:=a
 have L:=RLaw.of h hi3
 dsimp only at L ⊢
 clear h wb
 have w:=L.make .full .full nm_xy rfl (by decide) (by decide) [[1,2]] (rwsN [[1,2]] .full) .full (D:=[0,1]) (N':=22) (by decide) (fun i t h=>⟨_,rwsN_at h⟩) rwsN_len (by decide) (by decide) (by decide)
 simp only[strs,natsL,rwsN,List.map_cons,List.map_nil,cst0,cst1,cst2,cst3]at w
 have HL:=Lib.hid L
 clear L
 simp only[go_sem,seval]
 (repeat'(first|refine Ctl ?_|((with_reducible refine Kof.use hK ?_);clear hK hE K E)|((with_reducible refine W_cond (fun h=>?_) (fun h=>?_))<;>(try(exfalso;assumption)))|(((with_reducible refine G_region fun K E hK hE=>?_))<;>(try simp(disch:=omega) only[go_sem,seval, *]))))
 refine call_ex can19 w (fun a h=>?_)
 obtain⟨⟨u2,K2,m2,ns2,kp⟩,f1⟩:=a
 have L2:=h.L
 have T1:=h.T
 have n1:=h.nd
 dsimp only at L2 T1 n1 ⊢
 clear h w HL
 simp only[go_sem,seval]
 (repeat'(first|refine Ctl ?_|((with_reducible refine Kof.use hK ?_);clear hK hE K E)|((first|(with_reducible refine G_region fun K E hK hE=>?_)|((with_reducible refine W_fresh (fun b hb=>?_))))<;>(try simp(disch:=omega) only[go_sem,seval, *]))))
 obtain⟨b3,hb3⟩:∃z,z=b:=⟨_,rfl⟩
 subst hb3
 have fb3:u2 b3=.free:=hb
 obtain⟨v2,huv2⟩:∃z,z=u2.set b3 (.obj 30 (rv2 [120] [121] 0 1 kp)):=⟨_,rfl⟩
 rw[← huv2]
 have gv2:∀z,u2 z≠.free→v2 z=u2 z:=fun z hz=>by rw[huv2,St.set_other _ _ (nef fb3 hz).1]
 have kb3:v2 b3=.obj 30 (rv2 [120] [121] 0 1 kp):=by rw[huv2,St.set_same]
 try simp only[rv2]at kb3
 try simp only[rv3]at kb3
 clear huv2 hb fb3
 have w:=(L2.more gv2).make .full .full nm_yz rfl (by decide) (by decide) aw2 (rwsN aw2 .full) .full (D:=[0,2]) (N':=82) (by decide) (fun i t h=>⟨_,rwsN_at h⟩) rwsN_len (by decide) (by decide) (by decide)
 rw[aw2_rows]at w
 simp only[strs,natsL,relV,List.map_cons,List.map_nil,cst0,cst1,cst2,cst3]at w
 have HT1:=Lib.hid (And.intro T1 n1)
 clear L2 gv2 T1 n1
 refine call_ex can19 w (fun a h=>?_)
 obtain⟨⟨u3,K3,m3,ns3,kq⟩,f2⟩:=a
 have L3:=h.L
 have T2:=h.T
 have n2:=h.nd
 have n1:=HT1.out.2.app h.pre
 have k3:=h.own b3 _ kb3
 dsimp only at L3 T2 n2 n1 k3 ⊢
 have h3:u3 b3≠.free:=by rw[k3];simp
 clear h w kb3
 simp only[go_sem,seval]
 (repeat'(first|refine Ctl ?_|((with_reducible refine Kof.use hK ?_);clear hK hE K E)|((first|(with_reducible refine G_region fun K E hK hE=>?_)|((with_reducible refine W_fresh (fun b hb=>?_));(try(obtain⟨_,_⟩:=nef hb h3))))<;>(try simp(disch:=omega) only[go_sem,seval, *]))))
 obtain⟨b5,hb5⟩:∃z,z=b:=⟨_,rfl⟩
 subst hb5
 have fb5:u3 b5=.free:=hb
 obtain⟨v3,huv3⟩:∃z,z=u3.set b5 (.obj 30 (rv2 [121] [122] 0 2 kq)):=⟨_,rfl⟩
 rw[← huv3]
 have gv3:∀z,u3 z≠.free→v3 z=u3 z:=fun z hz=>by rw[huv3,St.set_other _ _ (nef fb5 hz).1]
 have kb5:v3 b5=.obj 30 (rv2 [121] [122] 0 2 kq):=by rw[huv3,St.set_same]
 try simp only[rv2]at kb5
 try simp only[rv3]at kb5
 clear huv3 hb fb5
 have k3:=(gv3 b3 h3).trans k3
 have w:=(L3.more gv3).join HT1.out.1 n1 .no .no nm_xy rfl (by decide) (by decide) (by decide) T2 n2 .no .no nm_yz rfl (by decide) (by decide) (by decide) (jq:=⟨[0,1,0,2],[1,2],[0,1,2],[[120],[121],[122]]⟩) (S':=(·∈awJ)) (N':=242) rfl nm_xyz rfl (by decide) (by decide) (by decide) (by decide) rfl (by decide) (by decide) (fun G hG=>aw_join HT1.out.1 hG) (by decide) (by decide)
 simp only[strs,natsL,relV,List.map_cons,List.map_nil,cst0,cst1,cst2,cst3]at w
 clear L3 gv3 T2 n1 n2 HT1
 refine call_ex can13 w (fun a h=>?_)
 obtain⟨⟨u4,K4,m4,ns4,kj⟩,f3⟩:=a
 have L4:=h.L
 have T4:=h.T
 have n4:=h.nd
 dsimp only at L4 T4 n4 ⊢
 have k3:=h.own b3 _ k3
 have k5:=h.own b5 _ kb5
 dsimp only at k3 k5
 have h3:u4 b3≠.free:=by rw[k3];simp
 have h5:u4 b5≠.free:=by rw[k5];simp
 clear h w kb5
 simp only[go_sem,seval]
 (repeat'(first|refine Ctl ?_|((with_reducible refine Kof.use hK ?_);clear hK hE K E)|((first|(with_reducible refine G_region fun K E hK hE=>?_)|((with_reducible refine W_fresh (fun b hb=>?_));(try(obtain⟨_,_⟩:=nef hb h3;obtain⟨_,_⟩:=nef hb h5))))<;>(try simp(disch:=omega) only[go_sem,seval, *]))))
 obtain⟨b7,hb7⟩:∃z,z=b:=⟨_,rfl⟩
 subst hb7
 have fb7:u4 b7=.free:=hb
 obtain⟨v4,huv4⟩:∃z,z=u4.set b7 (.obj 30 (rv3 [120] [121] [122] 0 1 2 kj)):=⟨_,rfl⟩
 rw[← huv4]
 have gv4:∀z,u4 z≠.free→v4 z=u4 z:=fun z hz=>by rw[huv4,St.set_other _ _ (nef fb7 hz).1]
 have kb7:v4 b7=.obj 30 (rv3 [120] [121] [122] 0 1 2 kj):=by rw[huv4,St.set_same]
 try simp only[rv2]at kb7
 try simp only[rv3]at kb7
 clear huv4 hb fb7
 have w:=(L4.more gv4).tuples T4 n4 .no .no nm_xyz rfl (by decide) (by decide) (by decide) (most:=9) (N':=494) (by decide) (by rw[aw_put];decide) (by decide) (by decide)
 simp only[strs,natsL,List.map_cons,List.map_nil,cst0,cst1,cst2,cst3]at w
 have hs:=fun(u:St)=>SameRowsF_S (putA awJ) [[1,2,0],[1,2,3]] .no .full .full (by rw[aw_put];exact⟨by decide,by decide⟩) ⟨by decide,by decide⟩ u
 rw[decide_eq_true aw_put]at hs
 have HS:=Lib.hid hs
 clear L4 gv4 T4 n4 k3 k5 h3 h5 hs
 generalize rwsC (putA awJ)=RJ at *
 refine call_ex can11 w (fun a h=>?_)
 obtain⟨u5,K5,m5,ns5⟩:=a
 have HFG:=Lib.hid h.1.fg
 dsimp only at HFG ⊢
 have hs:=HS.out u5
 simp only[rwsF,intsL,List.map_cons,List.map_nil]at hs
 clear h w HS
 simp only[go_sem,seval]
 (repeat'(first|refine Ctl ?_|((with_reducible refine Kof.use hK ?_);clear hK hE K E)|(((with_reducible first|refine G_region fun K E hK hE=>?_|refine call_ret can12 (hs) ?_))<;>(try simp(disch:=omega) only[go_sem,seval, *]))))
 all_goals(refine W_ret res7 hQ ?_)
 all_goals exact⟨_,_,Wk.refl _,HFG.out,rfl,rfl⟩
end Go.Proofs.YtohnaepcgnbaiaaGreatDoor
namespace Go.Proofs.YtohnaepcgnbaiaaGreatDoor
open Go.RowKit
attribute [-go_sem] p_and p_or p_shl p_shr p_andNot p_quo p_rem
set_option maxHeartbeats 8000000 in
theorem RMove0_S {s:St}{KK:OB}{x m q c n B N:Nat}{ns:List Tr}{ds:List (List UInt8×Nat)}{o:List (List Nat)}(hn64:n≤64)(hM:RMem s KK x m q c n B ns ds o)(hD:DOk n ds o){f:(Nat→Bool)→Bool}(A:List (List UInt8))(o1:Own)(D:List Nat)(o2:Own)(hR:Rel4 ds o A D)(hf:DepF (varsOf o D) f)(mf:treeT n f∈ns)
  (attr:List UInt8) (k d0 d1 sz:Nat) (hix:ixA attr A=(k:Int)) (hk:D[k]?=some d0) (h1:(szC ds)[d1]?=some [.int .i64 (sz:Int)]) (hne:d0≠d1) (hbad:d1∈D∨(d1∉D∧sz≠4)) (hc:CntN ns N) :
  SCalls Tryz.prog 10 [.ptr x 0,.agg [.lst (strs A) o1,.lst (natsL D) o2,.int .i64 (ixF n ns f:Nat)],.str attr,.int .i64 (d1:Int)] s fun w u=>∃a:RelA,w=.ret (.tup [.agg [.lst [] .full,.lst [] .full,.int .i64 0],.int .i64 90])∧u=a.1∧RelR s KK x m q c n B ns ds o N f a:=by
 have hl8:=hR.l8
 have hlt:=hR.d4.lt
 have hd0:=List.mem_of_getElem? hk
 have hd1l:d1<ds.length:=by have:=(List.getElem?_eq_some_iff.1 h1).1;simpa [szC]using this
 have wm:=fun(u:St) (hu:∀z,s z≠.free→u z=s z)=>May_S hn64 (hM.more hu) hD [[.lst (strs A) o1,.lst (natsL D) o2,.int .i64 ((ixF n ns f:Nat):Int)]] .full (fun z hz=>by
  rw[List.mem_singleton]at hz
  exact⟨⟨A,D,treeT n f⟩,o1,o2,hz,hR.ok hD hf mf⟩) (by simp)
 have wix:=fun u=>IxS_S A o1 attr (by have:=hR.nm.2.2;omega) u
 rw[hix]at wix
 have wct:=fun u=>ContN_S D o2 d1 (by omega) u
 have hs0:(szC ds)[d0]?=some [.int .i64 4]:=by obtain⟨nm,e⟩:=(hR.d4 _ hd0).1;exact szC_at e
 have hszl:(szC ds).length=ds.length:=by simp[szC]
 have hkk:=natsL_at hk
 have c1:¬ (d1:Int)<0:=by omega
 have c2:¬ (d1:Int)≥(ds.length:Int):=by omega
 have c3:¬ (k:Int)<0:=by omega
 have e2:¬ (d0:Int)=(d1:Int):=by omega
 have WM:=Lib.hid wm
 have WIX:=Lib.hid wix
 have WCT:=Lib.hid wct
 have HM:=Lib.hid hM
 have HMF:=Lib.hid mf
 have HC:=Lib.hid hc
 clear wm wix wct hR hf mf hc hl8 hM hlt hd0 hne hk hix hd1l
 generalize ixF n ns f=kf at *
 generalize strs A=SA at *
 generalize natsL D=V at *
 generalize hSZ:szC ds=SZ at *
 have HSZ:=Lib.hid hSZ
 clear hSZ
 refine G_enter Tryz.func10 rfl Tryz.ntmps10 rfl fun Q hQ hQe=>?_
 (repeat'(first|refine Ctl ?_|((with_reducible refine Kof.use hK ?_);clear hK hE K E)|((first|(with_reducible refine G_region fun K E hK hE=>?_)|((with_reducible refine W_fresh (fun b hb=>?_));(repeat(obtain⟨_,hb⟩:=hb))))<;>(try simp(disch:=omega) only[go_sem,seval, *]))))
 rename_i b5 hb5 nba nab
 obtain⟨b8,hb8e⟩:∃z,z=b:=⟨_,rfl⟩
 subst hb8e
 have hb8:s b8=.free:=hb
 obtain⟨u0,hu0⟩:∃u,u=(s.set b5 (.obj 30 [.lst SA o1,.lst V o2,.int .i64 (kf:Int)])).set b8 (.obj 30 [.lst [] .full,.lst [] .full,.int .i64 0]):=⟨_,rfl⟩
 rw[← hu0]
 have g0:∀z,s z≠.free→u0 z=s z:=fun z hz=>by rw[hu0,St.set_other _ _ (nef hb8 hz).1,St.set_other _ _ (nef hb5 hz).1]
 have k5:u0 b5=.obj 30 [.lst SA o1,.lst V o2,.int .i64 (kf:Int)]:=by rw[hu0,St.set_other _ _ (by assumption),St.set_same]
 have k8:u0 b8=.obj 30 [.lst [] .full,.lst [] .full,.int .i64 0]:=by rw[hu0,St.set_same]
 have wm:=WM.out u0 g0
 have G0:=Lib.hid g0
 have HB8:=Lib.hid hb8
 clear hu0 hb g0 WM hb5 hb8
 refine call_ex can29 wm (fun a h=>?_)
 obtain⟨u1,m1⟩:=a
 obtain⟨M1,K1⟩:=h
 dsimp only at M1 K1 ⊢
 have R1:=RelR.win M1 K1 HMF.out HC.out
 have j5:=R1.own (HM.out.more G0.out) k5 (by decide) (by decide) (by decide) (by decide)
 have j8:=R1.own (HM.out.more G0.out) k8 (by decide) (by decide) (by decide) (by decide)
 have R2:RelR s KK x m q c n B ns ds o N f (u1,KK,m1,ns):=(RelR.win (HM.out.more G0.out) (.new G0.out) HMF.out HC.out).then R1
 dsimp only at j5 j8
 obtain⟨a1,hx⟩:=M1.xf
 unfold spC at hx
 rw[HSZ.out]at hx
 have wix:=WIX.out u1
 have wct:=WCT.out u1
 have HF:=Lib.hid fun y=>R2.set (y:=y) j8 HB8.out
 clear wm M1 K1 R1 R2 k5 k8 WIX WCT
 rcases hbad with hbad|⟨hbad,hs4⟩
 ·rw[decide_eq_true hbad]at wct
  clear hbad
  simp only[go_sem,seval]
  (repeat'(first|refine Ctl ?_|(with_reducible first|(refine Kof.use hK ?_;clear hK hE K E)|(refine Kof.use hKh ?_;clear hKh Kh)|(refine Kof.use hKb (P_next ?_);clear hKb Kb)|refine G_plan 4 [([0,1,2,3,4,5,6,7,8,9,10,11,12,13],14,[[]])] [15,16,17,18,19,20,21,22,23,24,25,26,27,28,29,30,31,32,33,34,35,36,37] hQe fun K E hK hE=>?_)|((with_reducible refine W_cond (fun h=>?_) (fun h=>?_))<;>(try(exfalso;assumption)))|((first|(with_reducible first|refine G_region fun K E hK hE=>?_|refine call_ret can30 (wix) ?_|refine call_ret can31 (wct) ?_|refine P_heads fun Kh hKh=>?_|refine P_fin fun Kh hKh=>?_|refine P_each fun Kb hKb=>?_)|((with_reducible refine W_gd (fun h=>?_) (fun h=>?_))<;>(try(exfalso;omega))))<;>(try simp(disch:=omega) only[go_sem,seval,hszl,hkk,hs0,h1,c1,c2,c3,e2, *]))))
  all_goals(refine W_ret res10 hQ ?_)
  all_goals exact⟨_,_,Wk.refl _,Fg.refl _,(St.set _ b8 _,KK,m1,ns),rfl,rfl,HF.out _⟩
 ·rw[decide_eq_false hbad]at wct
  have e3:¬ (4:Int)=(sz:Int):=by omega
  clear hbad hs4
  simp only[go_sem,seval]
  (repeat'(first|refine Ctl ?_|(with_reducible first|(refine Kof.use hK ?_;clear hK hE K E)|(refine Kof.use hKh ?_;clear hKh Kh)|(refine Kof.use hKb (P_next ?_);clear hKb Kb)|refine G_plan 4 [([0,1,2,3,4,5,6,7,8,9,10,11,12,13],14,[[]])] [15,16,17,18,19,20,21,22,23,24,25,26,27,28,29,30,31,32,33,34,35,36,37] hQe fun K E hK hE=>?_)|((with_reducible refine W_cond (fun h=>?_) (fun h=>?_))<;>(try(exfalso;assumption)))|((first|(with_reducible first|refine G_region fun K E hK hE=>?_|refine call_ret can30 (wix) ?_|refine call_ret can31 (wct) ?_|refine P_heads fun Kh hKh=>?_|refine P_fin fun Kh hKh=>?_|refine P_each fun Kb hKb=>?_)|((with_reducible refine W_gd (fun h=>?_) (fun h=>?_))<;>(try(exfalso;omega))))<;>(try simp(disch:=omega) only[go_sem,seval,hszl,hkk,hs0,h1,c1,c2,c3,e2,e3, *]))))
  all_goals(refine W_ret res10 hQ ?_)
  all_goals exact⟨_,_,Wk.refl _,Fg.refl _,(St.set _ b8 _,KK,m1,ns),rfl,rfl,HF.out _⟩
theorem RLaw.move0 {s u:St}{K:OB}{x m q c:Nat}{ns:List Tr}{i N:Nat}{A:List (List UInt8)}{D:List Nat}(L:RLaw s u K x m q c ns i N){S:List Nat→Prop}{f:(Nat→Bool)→Bool}{k:Nat}(hT:Tells (oR i) D S f)(hk:Nod ns f k)(o1 o2:Own)(hn:NamesOk A)(hl:A.length=D.length)(hd:D.Nodup)(h4:∀d,d∈D→d<4)(attr:List UInt8){j d0 d1 sz:Nat}(hix:ixA attr A=(j:Int))(hj:D[j]?=some d0)(h1:(szC dsR)[d1]?=some [.int .i64 (sz:Int)])(hne:d0≠d1)(hbad:d1∈D∨(d1∉D∧sz≠4)) :
  SCalls Tryz.prog 10 [.ptr x 0,.agg [.lst (strs A) o1,.lst (natsL D) o2,.int .i64 (k:Nat)],.str attr,.int .i64 (d1:Int)] u fun w u'=>∃a:RelA,w=.ret (.tup [.agg [.lst [] .full,.lst [] .full,.int .i64 0],.int .i64 90])∧u'=a.1∧RLaw s a.1 a.2.1 x a.2.2.1 q c a.2.2.2 i N∧(∃l,a.2.2.2=ns++l)∧∀(b:Nat) (xs:List VV),u b=.obj 30 xs→a.1 b=.obj 30 xs:=by
 have h:=RMove0_S (by omega) L.M L.D A o1 D o2 (L.r4 hn hl hd h4) hT.dep hk.mem attr j d0 d1 sz hix hj h1 hne hbad L.n
 rw[hk.ix]at h
 refine SCalls.mono (h:=h) ?_
 rintro w u' ⟨a,rfl,rfl,h⟩
 exact⟨_,rfl,rfl,L.step h,h.pre,fun b xs hb=>h.own L.M hb (by decide) (by decide) (by decide) (by decide)⟩
end Go.Proofs.YtohnaepcgnbaiaaGreatDoor
namespace Go.Proofs.YtohnaepcgnbaiaaGreatDoor
open Go.RowKit
attribute [-go_sem] p_and p_or p_shl p_shr p_andNot p_quo p_rem
theorem and_1 (a:Int):vint .and .i64 a 1=some (.int .i64 ((addP 1 a:Nat):Int)):=by
 have h:=and_low (w:=1) (by omega) a
 have e:IntKind.i64.wrap (((2 ^ 1:Nat):Int) - 1)=1:=by decide
 rwa [e]at h
theorem parA_le {A:List Par}{f:Par→List Nat}(hf:∀t,(f t).length=2∧∀v,v∈f t→v<4):(putA (A.map f)).length≤16:=rows_le (w:=2) fun t ht=>by obtain⟨p,_,rfl⟩:=List.mem_map.1 ht;exact hf p
theorem rows_ok {T:List (List Nat)}{w:Nat}(hw:w≤3)(hT:∀t,t∈T→t.length=w∧∀v,v∈t→v<4):RowsOk (putA T):=by
 have h1:=rows_le hT
 have h2:4 ^ w≤4 ^ 3:=Nat.pow_le_pow_right (by omega) hw
 refine⟨by omega,fun r hr=>?_⟩
 obtain⟨t,ht,rfl⟩:=mem_putA.1 hr
 have:=(hT t ht).1
 simp[rowN]
 omega
theorem pair_ok (A:List Par):∀t,t∈A.map pN→t.length=2∧∀v,v∈t→v<4:=fun t ht=>by obtain⟨p,_,rfl⟩:=List.mem_map.1 ht;exact pN_ok p
set_option maxHeartbeats 32000000 in
theorem RelMoves_S (s:St)(od:Int)(A:List Par)(tw:Int)(hA:A.length≤140737488355328):SRet Tryz.prog 3 [.int .i64 od,.lst (parsC A) .no,.int .i64 tw] s (.bool true) s:=by
 have hAl:=parsC_len (T:=A)
 by_cases h20:(A.length:Int) > 20
 ·have wa:=RAwake_S s
  generalize parsC A=PA at *
  refine G_enter Tryz.func3 rfl Tryz.ntmps3 rfl fun Q hQ hQe=>?_
  (repeat'(first|refine Ctl ?_|((with_reducible refine Kof.use hK ?_);clear hK hE K E)|((with_reducible refine W_cond (fun h=>?_) (fun h=>?_))<;>(try(exfalso;assumption)))|(((with_reducible first|refine G_region fun K E hK hE=>?_|refine call_ret can7 (wa) ?_))<;>(try simp(disch:=omega) only[go_sem,seval,hAl,h20, *]))))
  all_goals(refine W_ret res3 hQ ?_)
  all_goals exact⟨_,_,Wk.refl _,Fg.refl _,rfl,rfl⟩
 have hA20:A.length≤20:=by omega
 obtain⟨i,hi3,wb⟩:=RBegun_S s od
 have w2:=fun(u:St) (K:OB) (x m q c:Nat) (ns:List Tr) (L:RLaw s u K x m q c ns i 2)=>Two_S L A [] .no .full hA20 (by simp) (N':=802) (by omega) (by omega)
 rw[show parsC []=[] from rfl]at w2
 have W2:=Lib.hid w2
 have hwd:IntKind.i64.wrap (2+((addP 1 tw:Nat):Int))=((2+addP 1 tw:Nat):Int):=by
  have:=addP_lt 1 tw
  have e:addP 1 tw=0∨addP 1 tw=1:=by omega
  rcases e with e|e<;>rw[e]<;>decide
 have ha1:=and_1 tw
 have hd4:2+addP 1 tw<4:=by have:=addP_lt 1 tw;omega
 have hd2:2≤2+addP 1 tw:=Nat.le_add_right _ _
 clear w2
 generalize parsC A=PA at *
 generalize addP 1 tw=d1 at *
 generalize hdd:2+d1=d at *
 have hdn0:¬ 0=d:=by omega
 have hdn1:¬ 1=d:=by omega
 have HDD:=Lib.hid (And.intro hd2 (And.intro hd4 (And.intro hdn0 hdn1)))
 clear hdd hd2 hd4 hdn0 hdn1
 refine G_enter Tryz.func3 rfl Tryz.ntmps3 rfl fun Q hQ hQe=>?_
 (repeat'(first|refine Ctl ?_|((with_reducible refine Kof.use hK ?_);clear hK hE K E)|((with_reducible refine W_cond (fun h=>?_) (fun h=>?_))<;>(try(exfalso;assumption)))|(((with_reducible refine G_region fun K E hK hE=>?_))<;>(try simp(disch:=omega) only[go_sem,seval,hAl,h20, *]))))
 refine call_ex can8 wb (fun a h=>?_)
 obtain⟨u0,K0,q,c,x⟩:=a
 have w:=W2.out _ _ _ _ _ _ _ (RLaw.of h hi3)
 dsimp only at w ⊢
 simp only[strs,natsL,relV,List.map_cons,List.map_nil,cst0,cst1,cst2,cst3]at w
 clear h wb W2
 simp only[go_sem,seval]
 (repeat'(first|refine Ctl ?_|((with_reducible refine Kof.use hK ?_);clear hK hE K E)|((with_reducible refine W_cond (fun h=>?_) (fun h=>?_))<;>(try(exfalso;assumption)))|(((with_reducible refine G_region fun K E hK hE=>?_))<;>(try simp(disch:=omega) only[go_sem,seval,hAl, *]))))
 refine call_ex can9 w (fun a h=>?_)
 obtain⟨⟨u1,K1,m1,ns1,kp,kq⟩,fp,fq⟩:=a
 have L1:=h.L
 have T1:=h.T1
 have n1:=h.n1
 dsimp only at L1 T1 n1 ⊢
 clear h w
 simp only[go_sem,seval]
 (repeat'(first|refine Ctl ?_|((with_reducible refine Kof.use hK ?_);clear hK hE K E)|((first|(with_reducible refine G_region fun K E hK hE=>?_)|((with_reducible refine W_fresh (fun b hb=>?_));(repeat(obtain⟨_,hb⟩:=hb))))<;>(try simp(disch:=first|assumption|omega) only[go_sem,seval,ha1,hwd, *]))))
 rename_i b9 hb9 _ _
 obtain⟨v1,hv1⟩:∃z,z=(u1.set b9 (.obj 30 (rv2 [120] [121] 0 1 kp))).set b (.obj 30 (rv2 [121] [122] 2 0 kq)):=⟨_,rfl⟩
 rw[← hv1]
 have hbb:u1 b=.free:=hb
 have gv1:∀z,u1 z≠.free→v1 z=u1 z:=fun z hz=>by rw[hv1,St.set_other _ _ (nef hbb hz).1,St.set_other _ _ (nef hb9 hz).1]
 have k9:v1 b9=.obj 30 (rv2 [120] [121] 0 1 kp):=by rw[hv1,St.set_other _ _ (by assumption),St.set_same]
 simp only[rv2]at k9
 clear hv1 hbb hb hb9
 have HP:=Lib.hid T1
 have w:=(L1.more gv1).move T1 n1 .no .no nm_xy rfl (by decide) (by decide) [120] (D:=[0,1]) (j:=0) (d0:=0) (d1:=d) rfl rfl HDD.out.2.1 (fun _=>by simp;exact⟨fun e=>HDD.out.2.2.1 e.symm,fun e=>HDD.out.2.2.2 e.symm⟩) (D':=[d,1]) rfl (N':=898) (by simp) (by decide)
 simp only[strs,natsL,relV,List.map_cons,List.map_nil,cst0,cst1,cst2,cst3]at w
 refine call_ex can10 w (fun a h=>?_)
 obtain⟨⟨u2,K2,m2,ns2,k_2⟩,f2⟩:=a
 have L2:=h.L
 have T2:=h.T
 have q2:=h.nd
 have np:=n1.app h.pre
 have k9:=h.own b9 _ k9
 dsimp only at L2 T2 q2 np k9 ⊢
 have hlb9:u2 b9≠.free:=by rw[k9];simp
 clear h w L1 gv1 T1 n1
 simp only[go_sem,seval]
 (repeat'(first|refine Ctl ?_|((with_reducible refine Kof.use hK ?_);clear hK hE K E)|((first|(with_reducible refine G_region fun K E hK hE=>?_)|((with_reducible refine W_fresh (fun b hb=>?_));(try(obtain⟨_,_⟩:=nef hb hlb9))))<;>(try simp(disch:=omega) only[go_sem,seval, *]))))
 obtain⟨b13,hb13⟩:∃z,z=b:=⟨_,rfl⟩
 subst hb13
 have fb13:u2 b13=.free:=hb
 obtain⟨v2,huv2⟩:∃z,z=u2.set b13 (.obj 30 (rv2 [120] [121] (d:Int) 1 k_2)):=⟨_,rfl⟩
 rw[← huv2]
 have gv2:∀z,u2 z≠.free→v2 z=u2 z:=fun z hz=>by rw[huv2,St.set_other _ _ (nef fb13 hz).1]
 have kb13:v2 b13=.obj 30 (rv2 [120] [121] (d:Int) 1 k_2):=by rw[huv2,St.set_same]
 try simp only[rv2]at kb13
 try simp only[rv3]at kb13
 clear huv2 hb fb13
 have k9:=(gv2 b9 hlb9).trans k9
 have w:=(L2.more gv2).move T2 q2 .no .no nm_xy rfl (by simp;exact fun e=>HDD.out.2.2.2 e.symm) (by have:=HDD.out.2.1;simp;exact this) [121] (D:=[d,1]) (j:=1) (d0:=1) (d1:=0) rfl rfl (by decide) (fun _=>by simp;exact HDD.out.2.2.1) (D':=[d,0]) rfl (N':=994) (by simp) (by decide)
 simp only[strs,natsL,relV,List.map_cons,List.map_nil,cst0,cst1,cst2,cst3]at w
 refine call_ex can10 w (fun a h=>?_)
 obtain⟨⟨u3,K3,m3,ns3,k_3⟩,f3⟩:=a
 have L3:=h.L
 have T3:=h.T
 have q3:=h.nd
 have np:=np.app h.pre
 have k9:=h.own b9 _ k9
 dsimp only at L3 T3 q3 np k9 ⊢
 have hlb9:u3 b9≠.free:=by rw[k9];simp
 clear h w L2 gv2 T2 q2 kb13
 simp only[go_sem,seval]
 (repeat'(first|refine Ctl ?_|((with_reducible refine Kof.use hK ?_);clear hK hE K E)|((first|(with_reducible refine G_region fun K E hK hE=>?_)|((with_reducible refine W_fresh (fun b hb=>?_));(try(obtain⟨_,_⟩:=nef hb hlb9))))<;>(try simp(disch:=omega) only[go_sem,seval, *]))))
 obtain⟨b15,hb15⟩:∃z,z=b:=⟨_,rfl⟩
 subst hb15
 have fb15:u3 b15=.free:=hb
 obtain⟨v3,huv3⟩:∃z,z=u3.set b15 (.obj 30 (rv2 [120] [121] (d:Int) 0 k_3)):=⟨_,rfl⟩
 rw[← huv3]
 have gv3:∀z,u3 z≠.free→v3 z=u3 z:=fun z hz=>by rw[huv3,St.set_other _ _ (nef fb15 hz).1]
 have kb15:v3 b15=.obj 30 (rv2 [120] [121] (d:Int) 0 k_3):=by rw[huv3,St.set_same]
 try simp only[rv2]at kb15
 try simp only[rv3]at kb15
 clear huv3 hb fb15
 have k9:=(gv3 b9 hlb9).trans k9
 have w:=(L3.more gv3).move T3 q3 .no .no nm_xy rfl (by simp;exact fun e=>HDD.out.2.2.1 e.symm) (by have:=HDD.out.2.1;simp;exact this) [120] (D:=[d,0]) (j:=0) (d0:=d) (d1:=1) rfl rfl (by decide) (fun _=>by simp;exact HDD.out.2.2.2) (D':=[1,0]) rfl (N':=1090) (by simp) (by decide)
 simp only[strs,natsL,relV,List.map_cons,List.map_nil,cst0,cst1,cst2,cst3]at w
 refine call_ex can10 w (fun a h=>?_)
 obtain⟨⟨u4,K4,m4,ns4,k_4⟩,f4⟩:=a
 have L4:=h.L
 have T4:=h.T
 have q4:=h.nd
 have np:=np.app h.pre
 have k9:=h.own b9 _ k9
 dsimp only at L4 T4 q4 np k9 ⊢
 have hlb9:u4 b9≠.free:=by rw[k9];simp
 have HT4:=Lib.hid T4
 clear h w L3 gv3 T3 q3 kb15
 simp only[go_sem,seval]
 (repeat'(first|refine Ctl ?_|((with_reducible refine Kof.use hK ?_);clear hK hE K E)|((first|(with_reducible refine G_region fun K E hK hE=>?_)|((with_reducible refine W_fresh (fun b hb=>?_));(try(obtain⟨_,_⟩:=nef hb hlb9))))<;>(try simp(disch:=omega) only[go_sem,seval, *]))))
 obtain⟨b17,hb17⟩:∃z,z=b:=⟨_,rfl⟩
 subst hb17
 have fb17:u4 b17=.free:=hb
 obtain⟨v4,huv4⟩:∃z,z=u4.set b17 (.obj 30 (rv2 [120] [121] 1 0 k_4)):=⟨_,rfl⟩
 rw[← huv4]
 have gv4:∀z,u4 z≠.free→v4 z=u4 z:=fun z hz=>by rw[huv4,St.set_other _ _ (nef fb17 hz).1]
 have kb17:v4 b17=.obj 30 (rv2 [120] [121] 1 0 k_4):=by rw[huv4,St.set_same]
 try simp only[rv2]at kb17
 try simp only[rv3]at kb17
 clear huv4 hb fb17
 have k9:=(gv4 b9 hlb9).trans k9
 have w:=(L4.more gv4).move T4 q4 .no .no nm_xy rfl (by decide) (by decide) [121] (D:=[1,0]) (j:=1) (d0:=0) (d1:=3) rfl rfl (by decide) (fun _=>by decide) (D':=[1,3]) rfl (N':=1186) (by simp) (by decide)
 simp only[strs,natsL,relV,List.map_cons,List.map_nil,cst0,cst1,cst2,cst3]at w
 refine call_ex can10 w (fun a h=>?_)
 obtain⟨⟨u5,K5,m5,ns5,k_5⟩,f5⟩:=a
 have L5:=h.L
 have T5:=h.T
 have q5:=h.nd
 have np:=np.app h.pre
 have nt:=q4.app h.pre
 have k9:=h.own b9 _ k9
 have kb17:=h.own b17 _ kb17
 dsimp only at L5 T5 q5 np nt k9 kb17 ⊢
 have hlb9:u5 b9≠.free:=by rw[k9];simp
 have hlb17:u5 b17≠.free:=by rw[kb17];simp
 clear h w L4 gv4 T4 q4
 simp only[go_sem,seval]
 (repeat'(first|refine Ctl ?_|((with_reducible refine Kof.use hK ?_);clear hK hE K E)|((first|(with_reducible refine G_region fun K E hK hE=>?_)|((with_reducible refine W_fresh (fun b hb=>?_));(try(obtain⟨_,_⟩:=nef hb hlb9;obtain⟨_,_⟩:=nef hb hlb17))))<;>(try simp(disch:=omega) only[go_sem,seval, *]))))
 obtain⟨b19,hb19⟩:∃z,z=b:=⟨_,rfl⟩
 subst hb19
 have fb19:u5 b19=.free:=hb
 obtain⟨v5,huv5⟩:∃z,z=u5.set b19 (.obj 30 (rv2 [120] [121] 1 3 k_5)):=⟨_,rfl⟩
 rw[← huv5]
 have gv5:∀z,u5 z≠.free→v5 z=u5 z:=fun z hz=>by rw[huv5,St.set_other _ _ (nef fb19 hz).1]
 have kb19:v5 b19=.obj 30 (rv2 [120] [121] 1 3 k_5):=by rw[huv5,St.set_same]
 try simp only[rv2]at kb19
 try simp only[rv3]at kb19
 clear huv5 hb fb19
 have k9:=(gv5 b9 hlb9).trans k9
 have kb17:=(gv5 b17 hlb17).trans kb17
 have w:=(L5.more gv5).move T5 q5 .no .no nm_xy rfl (by decide) (by decide) [120] (D:=[1,3]) (j:=0) (d0:=1) (d1:=0) rfl rfl (by decide) (fun _=>by decide) (D':=[0,3]) rfl (N':=1282) (by simp) (by decide)
 simp only[strs,natsL,relV,List.map_cons,List.map_nil,cst0,cst1,cst2,cst3]at w
 refine call_ex can10 w (fun a h=>?_)
 obtain⟨⟨u6,K6,m6,ns6,k_6⟩,f6⟩:=a
 have L6:=h.L
 have T6:=h.T
 have q6:=h.nd
 have np:=np.app h.pre
 have nt:=nt.app h.pre
 have k9:=h.own b9 _ k9
 have kb17:=h.own b17 _ kb17
 dsimp only at L6 T6 q6 np nt k9 kb17 ⊢
 have hlb9:u6 b9≠.free:=by rw[k9];simp
 have hlb17:u6 b17≠.free:=by rw[kb17];simp
 clear h w L5 gv5 T5 q5 kb19
 simp only[go_sem,seval]
 (repeat'(first|refine Ctl ?_|((with_reducible refine Kof.use hK ?_);clear hK hE K E)|((first|(with_reducible refine G_region fun K E hK hE=>?_)|((with_reducible refine W_fresh (fun b hb=>?_));(try(obtain⟨_,_⟩:=nef hb hlb9;obtain⟨_,_⟩:=nef hb hlb17))))<;>(try simp(disch:=omega) only[go_sem,seval, *]))))
 obtain⟨b21,hb21⟩:∃z,z=b:=⟨_,rfl⟩
 subst hb21
 have fb21:u6 b21=.free:=hb
 obtain⟨v6,huv6⟩:∃z,z=u6.set b21 (.obj 30 (rv2 [120] [121] 0 3 k_6)):=⟨_,rfl⟩
 rw[← huv6]
 have gv6:∀z,u6 z≠.free→v6 z=u6 z:=fun z hz=>by rw[huv6,St.set_other _ _ (nef fb21 hz).1]
 have kb21:v6 b21=.obj 30 (rv2 [120] [121] 0 3 k_6):=by rw[huv6,St.set_same]
 try simp only[rv2]at kb21
 try simp only[rv3]at kb21
 clear huv6 hb fb21
 have k9:=(gv6 b9 hlb9).trans k9
 have kb17:=(gv6 b17 hlb17).trans kb17
 have w:=(L6.more gv6).move T6 q6 .no .no nm_xy rfl (by decide) (by decide) [121] (D:=[0,3]) (j:=1) (d0:=3) (d1:=1) rfl rfl (by decide) (fun _=>by decide) (D':=[0,1]) rfl (N':=1378) (by simp) (by decide)
 simp only[strs,natsL,relV,List.map_cons,List.map_nil,cst0,cst1,cst2,cst3]at w
 refine call_ex can10 w (fun a h=>?_)
 obtain⟨⟨u7,K7,m7,ns7,k_7⟩,f7⟩:=a
 have L7:=h.L
 have T7:=h.T
 have q7:=h.nd
 have np:=np.app h.pre
 have nt:=nt.app h.pre
 have k9:=h.own b9 _ k9
 have kb17:=h.own b17 _ kb17
 dsimp only at L7 T7 q7 np nt k9 kb17 ⊢
 have hlb9:u7 b9≠.free:=by rw[k9];simp
 have hlb17:u7 b17≠.free:=by rw[kb17];simp
 clear h w L6 gv6 T6 q6 kb21
 simp only[go_sem,seval]
 (repeat'(first|refine Ctl ?_|((with_reducible refine Kof.use hK ?_);clear hK hE K E)|((first|(with_reducible refine G_region fun K E hK hE=>?_)|((with_reducible refine W_fresh (fun b hb=>?_));(try(obtain⟨_,_⟩:=nef hb hlb9;obtain⟨_,_⟩:=nef hb hlb17))))<;>(try simp(disch:=omega) only[go_sem,seval, *]))))
 obtain⟨b23,hb23⟩:∃z,z=b:=⟨_,rfl⟩
 subst hb23
 have fb23:u7 b23=.free:=hb
 obtain⟨v7,huv7⟩:∃z,z=u7.set b23 (.obj 30 (rv2 [120] [121] 0 1 k_7)):=⟨_,rfl⟩
 rw[← huv7]
 have gv7:∀z,u7 z≠.free→v7 z=u7 z:=fun z hz=>by rw[huv7,St.set_other _ _ (nef fb23 hz).1]
 have kb23:v7 b23=.obj 30 (rv2 [120] [121] 0 1 k_7):=by rw[huv7,St.set_same]
 try simp only[rv2]at kb23
 try simp only[rv3]at kb23
 clear huv7 hb fb23
 have k9:=(gv7 b9 hlb9).trans k9
 have kb17:=(gv7 b17 hlb17).trans kb17
 have hkw:k_7=kp:=by rw[← q7.ix,← np.ix,T7.same HP.out (fun r _=>Iff.rfl)]
 subst hkw
 have w:=(L7.more gv7).tuples HP.out np .no .no nm_xy rfl (by decide) (by decide) (pair_ok A) (most:=16) (N':=1450) (by decide) (parA_le pN_ok) (by simp) (by decide)
 simp only[strs,natsL,relV,List.map_cons,List.map_nil,cst0,cst1,cst2,cst3]at w
 refine call_ex can11 w (fun a h=>?_)
 obtain⟨u8,K8,m8,ns8⟩:=a
 obtain⟨L8,hpre,hown⟩:=h
 have np:=np.app hpre
 have nt:=nt.app hpre
 have k9:=hown b9 _ k9
 have kb17:=hown b17 _ kb17
 have kb23:=hown b23 _ kb23
 dsimp only at k9 kb17 kb23
 dsimp only at L8 np nt ⊢
 clear w L7 gv7 T7 q7 hpre hown
 simp only[go_sem,seval]
 (repeat'(first|refine Ctl ?_|((with_reducible refine Kof.use hK ?_);clear hK hE K E)|(((with_reducible refine G_region fun K E hK hE=>?_))<;>(try simp(disch:=omega) only[go_sem,seval, *]))))
 have w:=L8.tuples HT4.out nt .no .no nm_xy rfl (by decide) (by decide) (pair_ok A) (most:=16) (N':=1522) (by decide) (parA_le pN_ok) (by simp) (by decide)
 simp only[strs,natsL,relV,List.map_cons,List.map_nil,cst0,cst1,cst2,cst3]at w
 refine call_ex can11 w (fun a h=>?_)
 obtain⟨u9,K9,m9,ns9⟩:=a
 obtain⟨L9,hpre,hown⟩:=h
 have np:=np.app hpre
 have k9:=hown b9 _ k9
 have kb23:=hown b23 _ kb23
 dsimp only at k9 kb23
 dsimp only at L9 np ⊢
 clear w L8 hpre hown kb17
 simp only[go_sem,seval]
 (repeat'(first|refine Ctl ?_|((with_reducible refine Kof.use hK ?_);clear hK hE K E)|(((with_reducible refine G_region fun K E hK hE=>?_))<;>(try simp(disch:=omega) only[go_sem,seval, *]))))
 have w:=L9.move0 HP.out np .no .no nm_xy rfl (by decide) (by decide) [120] (D:=[0,1]) (j:=0) (d0:=0) (d1:=4) (sz:=3) rfl rfl rfl (by decide) (.inr ⟨by decide,by decide⟩)
 simp only[strs,natsL,relV,List.map_cons,List.map_nil,cst0,cst1,cst2,cst3]at w
 refine call_ex can10 w (fun a h=>?_)
 obtain⟨u10,K10,m10,ns10⟩:=a
 obtain⟨L10,hpre,hown⟩:=h
 have np:=np.app hpre
 have k9:=hown b9 _ k9
 have kb23:=hown b23 _ kb23
 dsimp only at k9 kb23
 dsimp only at L10 np ⊢
 have hlb9:u10 b9≠.free:=by rw[k9];simp
 have hlb23:u10 b23≠.free:=by rw[kb23];simp
 clear w L9 hpre hown
 simp only[go_sem,seval]
 (repeat'(first|refine Ctl ?_|((with_reducible refine Kof.use hK ?_);clear hK hE K E)|((first|(with_reducible refine G_region fun K E hK hE=>?_)|((with_reducible refine W_fresh (fun b hb=>?_));(try(obtain⟨_,_⟩:=nef hb hlb9;obtain⟨_,_⟩:=nef hb hlb23))))<;>(try simp(disch:=omega) only[go_sem,seval, *]))))
 obtain⟨b29,hb29⟩:∃z,z=b:=⟨_,rfl⟩
 subst hb29
 have fb29:u10 b29=.free:=hb
 obtain⟨v10,huv10⟩:∃z,z=u10.set b29 (.obj 30 [.lst [] .full,.lst [] .full,.int .i64 0]):=⟨_,rfl⟩
 rw[← huv10]
 have gv10:∀z,u10 z≠.free→v10 z=u10 z:=fun z hz=>by rw[huv10,St.set_other _ _ (nef fb29 hz).1]
 have kb29:v10 b29=.obj 30 [.lst [] .full,.lst [] .full,.int .i64 0]:=by rw[huv10,St.set_same]
 try simp only[rv2]at kb29
 try simp only[rv3]at kb29
 clear huv10 hb fb29
 have k9:=(gv10 b9 hlb9).trans k9
 have kb23:=(gv10 b23 hlb23).trans kb23
 clear kb29
 have w:=(L10.more gv10).move0 HP.out np .no .no nm_xy rfl (by decide) (by decide) [120] (D:=[0,1]) (j:=0) (d0:=0) (d1:=1) (sz:=4) rfl rfl rfl (by decide) (.inl (by decide))
 simp only[strs,natsL,relV,List.map_cons,List.map_nil,cst0,cst1,cst2,cst3]at w
 refine call_ex can10 w (fun a h=>?_)
 obtain⟨u11,K11,m11,ns11⟩:=a
 obtain⟨L11,hpre,hown⟩:=h
 have np:=np.app hpre
 have k9:=hown b9 _ k9
 have kb23:=hown b23 _ kb23
 dsimp only at k9 kb23
 dsimp only at L11 np ⊢
 have hlb9:u11 b9≠.free:=by rw[k9];simp
 have hlb23:u11 b23≠.free:=by rw[kb23];simp
 clear w L10 hpre hown gv10
 have hs:=fun(u:St)=>SameRows_S (putA (A.map pN)) (putA (A.map pN)) .no .no (rows_ok (w:=2) (by decide) (pair_ok A)) (rows_ok (w:=2) (by decide) (pair_ok A)) u
 rw[decide_eq_true rfl]at hs
 have HS:=Lib.hid hs
 have HLL:=Lib.hid L11
 clear hs L11 np HP HT4
 generalize rwsC (putA (A.map pN))=RC at *
 simp only[go_sem,seval]
 (repeat'(first|refine Ctl ?_|((with_reducible refine Kof.use hK ?_);clear hK hE K E)|((first|(with_reducible first|refine G_region fun K E hK hE=>?_|refine call_ret can12 (HS.out _) ?_|refine call_ret can7 (RAwake_S _) ?_)|((with_reducible refine W_fresh (fun b hb=>?_));(try(obtain⟨_,_⟩:=nef hb hlb9;obtain⟨_,_⟩:=nef hb hlb23))))<;>(try simp(disch:=omega) only[go_sem,seval, *]))))
 have hb31:u11 b=.free:=by assumption
 all_goals(refine W_ret res3 hQ ?_)
 all_goals exact⟨_,_,Wk.refl _,(HLL.out.more fun z hz=>St.set_other _ _ (nef hb31 hz).1).fg,rfl,rfl⟩
end Go.Proofs.YtohnaepcgnbaiaaGreatDoor
namespace Go.Proofs.YtohnaepcgnbaiaaGreatDoor
open Go.RowKit
def ParsFit (T:List Par):Prop:=T.length≤140737488355328
section
variable {H : Type} {enc : TypeId × Value → H} {w : World}
theorem rd_pars {fuel:Nat}{cs:List Value}{x:DataW H×List MemPlace}(h:DataW.trod enc Tryz.prog w 0 (fun _=>true) true fuel 22 cs=some x)(hw:Wt Tryz.prog 22 x.1) :
  ∃T:List Par,CellsR (GhW w) cs [.lst (parsC T) .no]∧ParsFit T:=by
 obtain⟨xss,h1,h2,h3⟩:=rd_slice (Q:=fun xs=>∃t:Par,xs=[.int .i64 t.1,.int .i64 t.2]∧True) (sz:=2) Tryz.underlying22 (by kernel_rfl) (by omega) (by decide +kernel) h hw (fun n cs' y _ hy hwy=>by
  obtain⟨l,hn,hc,hb⟩:=rd_arr (GhW w) Tryz.underlying43 Tryz.underlying3 (by kernel_rfl) (by kernel_rfl) hy
  obtain⟨a,b,rfl⟩:=len_two hn
  exact⟨_,hc,rfl,(a,b),rfl,trivial⟩)
 obtain⟨l,rfl,_⟩:=list_of (C:=fun t:Par=>[VV.int .i64 t.1,.int .i64 t.2]) xss h2
 exact⟨l,h1,by rw[List.length_map]at h3;exact reach_le h3⟩
end
end Go.Proofs.YtohnaepcgnbaiaaGreatDoor
