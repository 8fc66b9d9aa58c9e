/- Walks. Conditions: in the statements. -/
import Derived.Test.YtohnaepcgnbaiaaGreatDoorJlItj
set_option maxHeartbeats 32000000
set_option linter.unusedSimpArgs false
set_option linter.unusedVariables false
set_option maxRecDepth 100000
namespace Go.Proofs.YtohnaepcgnbaiaaGreatDoor
open Go.RowKit
theorem Rx {k:VV->St->Prop}{e:TypeId}{q:QI}{xs ys:Ta}{s:St}(h:∀b,s b=.free->k (.lst (xs++ys) (.at_ b)) (s.set b (.vec e q.sz (xs.length+ys.length))))
  (h0:ys≠[]:=by first|assumption|simp)
  (hx:∀x,x∈xs->x.length=q.sz:=by first|assumption|(intro y hy;simp only[a_]at hy;subst hy;first|rfl|(simp only[go_sem];done)|(simp;done)))
  (hb:(xs.length+ys.length) * q.bt<=140737488355328:=by first|((try simp only[go_sem, *]);omega)|((try simp only[go_sem,List.length_cons,List.length_nil, *]);omega)|simp only[go_sem,List.length_cons,List.length_nil, *])
  (hm:xs.length+ys.length<=9223372036854775807:=by first|((try simp only[go_sem, *]);omega)|((try simp only[go_sem,List.length_cons,List.length_nil, *]);omega)|simp only[go_sem,List.length_cons,List.length_nil, *])
  (hy:∀y,y∈ys->y.length=q.sz:=by first|assumption|(intro y hy;simp only[a_]at hy;subst hy;first|rfl|(simp only[go_sem];done)|(simp;done)))
  (hz:q.zok=true:=by rfl):fe k e q xs ys .full s:=
 ⟨hb,hm,hy,hz,hx,fun e=>absurd e h0,fun _ b hb=>h b hb⟩
def eqL (b3 b4 b5 b8 a sz:Nat)(va vb:TW)(bs:TW):List FG:=
 ⟨86,[.ptr b3 0,.ptr b4 0],ge va 0 (sz - 1)⟩::((List.range bs.length).map fun j=>⟨88,[.ptr b3 0,.ptr b4 0,.ptr (bs.getD j 0) 0,.ptr b5 0,.ptr b8 0],xnF (va.getD j 0) (vb.getD j 0)⟩)
theorem Re {b3 b4 b5 b8 a sz:Nat}{va vb bs:TW}{b:Nat}:eqL b3 b4 b5 b8 a sz va vb (bs++[b])=eqL b3 b4 b5 b8 a sz va vb bs++[⟨88,[.ptr b3 0,.ptr b4 0,.ptr b 0,.ptr b5 0,.ptr b8 0],xnF (va.getD bs.length 0) (vb.getD bs.length 0)⟩]:=by
 unfold eqL
 rw[p_,List.length_singleton,List.range_succ,List.map_append,List.cons_append]
 congr 2
 ·apply List.map_congr_left
  intro j hj
  rw[List.mem_range]at hj
  congr 4
  simp only[List.getD_eq_getElem?_getD]
  rw[g_ hj]
 ·simp
abbrev clT:TypeId:=155
theorem BS:∀{va vb:TW} {x:Tg},vb.length=va.length->(((List.range va.length).all fun j=>xnF (va.getD j 0) (vb.getD j 0) x)=decide (bX va x=bX vb x))
 |[],[],x,_=>by simp[bX]
 |[],_::_,x,h=>by simp at h
 |_::_,[],x,h=>by simp at h
 |v::va,w::vb,x,h=>by
  have ih:=BS (va:=va) (vb:=vb) (x:=x) (by simpa using h)
  rw[List.length_cons,List.range_succ_eq_map,List.all_cons,List.all_map]
  have e:((List.range va.length).all ((fun j=>xnF ((v::va).getD j 0) ((w::vb).getD j 0) x) ∘ Nat.succ))=(List.range va.length).all fun j=>xnF (va.getD j 0) (vb.getD j 0) x:=by
   congr 1
  rw[e,ih]
  have h1:(x v).toNat<=1:=Bool.toNat_le _
  have h2:(x w).toNat<=1:=Bool.toNat_le _
  have hP:(bX (v::va) x=bX (w::vb) x)↔(x v=x w/\bX va x=bX vb x):=by
   simp only[bX]
   cases x v<;>cases x w<;>simp<;>omega
  rw[Bool.eq_iff_iff,decide_eq_true_iff,hP]
  simp only[List.getD_cons_zero,xnF,Bool.and_eq_true,decide_eq_true_eq]
  cases x v<;>cases x w<;>simp
theorem Rd {b3 b4 b5 b8 a sz:Nat}{va vb bs:TW}(hl:vb.length=va.length)(hb:bs.length=va.length)(hs:1<=sz)(x:Tg) :
  ((eqL b3 b4 b5 b8 a sz va vb bs).all fun e=>e.g x)=(decide (bX va x<sz) && decide (bX va x=bX vb x)):=by
 unfold eqL
 rw[List.all_cons,List.all_map,hb]
 have e:((List.range va.length).all ((fun e:FG=>e.g x) ∘ fun j=>⟨88,[.ptr b3 0,.ptr b4 0,.ptr (bs.getD j 0) 0,.ptr b5 0,.ptr b8 0],xnF (va.getD j 0) (vb.getD j 0)⟩))=(List.range va.length).all fun j=>xnF (va.getD j 0) (vb.getD j 0) x:=by
  congr 1
 rw[e,BS hl]
 congr 1
 simp only[ge]
 rw[Bool.eq_iff_iff]
 simp
 omega
structure EqI (s:St) (c o q:Nat) (KK:OB) (b3 b4 b5 b8 a b2 i:Nat) (s':St) (ow:Own) (bs:TW):Prop where
 keep:∀z,s z≠.free->s' z=s z
 h3:s' b3=.obj 63 [.ptr c 0]
 h4:s' b4=.obj 3 [.int .i64 a]
 h5:s' b5=.obj 3 [.int .i64 b2]
 h8:s' b8=.obj 57 [.ptr KK.o 0]
 bx:∀j x,bs[j]?=some x->s' x=.obj 3 [.int .i64 (j:Nat)]
 len:bs.length=i
 own:(i=0/\ow=.full)\/∃y,ow=.at_ y/\s' y=.vec clT 1 (i+1)/\s y=.free
theorem sQ {S:St}{o o2:Own}{n:Nat}{T:TypeId}(h:OwnOk (S.disown o) o2 (n+1)) :
  ∃y2,o2=.at_ y2/\((S.disown o).own o2 T 1 (n+1)) y2=.vec T 1 (n+1)/\(∀z,S z≠.free->(∀y,o=.at_ y->z≠y)->((S.disown o).own o2 T 1 (n+1)) z=S z)/\(S y2=.free\/o=.at_ y2):=by
 cases o2 with
 |no=>exact h.elim
 |full=>exact absurd h (by simp[OwnOk])
 |at_ y2=>
  have h2:(S.disown o) y2=.free:=h
  refine⟨y2,rfl,q_ _ _ _,fun z hz hy=>?_,?_⟩
  ·have e1:(S.disown o) z=S z:=by
    cases o with
    |at_ y=>exact j_ _ _ (hy y rfl)
    |_=>rfl
   have e2:z≠y2:=fun e=>by rw[<- e,e1]at h2;exact hz h2
   exact(j_ _ _ e2).trans e1
  ·cases o with
   |at_ y=>
    by_cases e:y2=y
    ·exact .inr (by rw[e])
    ·left
     have:(S.set y .free) y2=.free:=h2
     rwa [j_ _ _ e]at this
   |_=>exact .inl h2
theorem EqI.step {s:St}{c o q:Nat}{KK:OB}{b3 b4 b5 b8 a b2 i:Nat}{s' S u:St}{ow ow2:Own}{bs:TW}{b:Nat}(h:EqI s c o q KK b3 b4 b5 b8 a b2 i s' ow bs)(hb:s' b=.free)(hS:S=s'.set b (.obj 3 [.int .i64 (i:Nat)]))
  (hu:∀z,S z≠.free->(∀y,ow=.at_ y->z≠y)->u z=S z) (hy:∃y2,ow2=.at_ y2/\u y2=.vec clT 1 (i+1+1)/\(S y2=.free\/ow=.at_ y2)):EqI s c o q KK b3 b4 b5 b8 a b2 (i+1) u ow2 (bs++[b]):=by
 have old:∀z,s' z≠.free->(∀T sz n,s' z≠.vec T sz n)->u z=s' z:=fun z hz hv=>by
  have e:S z=s' z:=by rw[hS];exact j_ _ _ (nef hb hz).1
  rw[<- e]
  refine hu z (by rw[e];exact hz) fun y hy e2=>?_
  rcases h.own with ⟨_,h1⟩|⟨y',h1,h2,_⟩
  ·rw[h1]at hy;cases hy
  ·rw[h1]at hy
   injection hy with hy
   rw[e2,<- hy]at hv
   exact hv _ _ _ h2
 obtain⟨y2,e1,e2,e3⟩:=hy
 refine⟨fun z hz=>?_,(old _ (by rw[h.h3];simp) (by rw[h.h3];simp)).trans h.h3,(old _ (by rw[h.h4];simp) (by rw[h.h4];simp)).trans h.h4,(old _ (by rw[h.h5];simp) (by rw[h.h5];simp)).trans h.h5,(old _ (by rw[h.h8];simp) (by rw[h.h8];simp)).trans h.h8,fun j x hj=>?_,by rw[p_,h.len];rfl,.inr ⟨y2,e1,e2,?_⟩⟩
 ·have hk:=h.keep z hz
  have e:S z=s' z:=by rw[hS];exact j_ _ _ (nef hb (by rw[hk];exact hz)).1
  rw[<- hk,<- e]
  refine hu z (by rw[e,hk];exact hz) fun y hy e2=>?_
  rcases h.own with ⟨_,h1⟩|⟨y',h1,_,h3⟩
  ·rw[h1]at hy;cases hy
  ·rw[h1]at hy
   injection hy with hy
   rw[e2,<- hy]at hz
   exact hz h3
 ·rcases Nat.lt_or_ge j bs.length with hl|hl
  ·rw[g_ hl]at hj
   have h1:=h.bx j x hj
   exact(old _ (by rw[h1];simp) (by rw[h1];simp)).trans h1
  ·rw[h_ hl]at hj
   have hj0:j - bs.length=0:=by
    have:=(x_.1 hj).1
    simp at this
    exact this
   rw[hj0]at hj
   simp at hj
   subst hj
   have hji:j=i:=by rw[<- h.len];omega
   have hSb:S b=.obj 3 [.int .i64 (i:Nat)]:=by rw[hS];exact q_ _ _ _
   rw[hji,<- hSb]
   refine hu b (by rw[hSb];simp) fun y hy e2=>?_
   rcases h.own with ⟨_,h1⟩|⟨y',h1,h2,h3⟩
   ·rw[h1]at hy;cases hy
   ·rw[h1]at hy
    injection hy with hy
    rw[e2,<- hy,h2]at hb
    cases hb
 ·rcases e3 with e|e
  ·by_cases hf:s y2=.free
   ·exact hf
   ·have hk:=h.keep y2 hf
    have e4:S y2=s' y2:=by rw[hS];exact j_ _ _ (nef hb (by rw[hk];exact hf)).1
    rw[e4,hk]at e
    exact absurd e hf
  ·rcases h.own with ⟨_,h1⟩|⟨y',h1,_,h3⟩
   ·rw[h1]at e;cases e
   ·rw[h1]at e
    injection e with e
    rw[<- e]
    exact h3
theorem Rp {s:St}{KK:OB}{q c n B a a2 N sz:Nat}{nma nmb:TT}{va vb:TW}{ns:Td}{ds:TN}{at_:TU}(hC:CMem s KK q c n B ns ds at_)(hD:DOk n ds at_)(hda:ds[a]?=some (nma,sz))(hdb:ds[a2]?=some (nmb,sz))(ha:at_[a]?=some va)(hb:at_[a2]?=some vb)(hlen:vb.length=va.length)(hne:¬ a=a2)(hc:CntN ns N)
  (hB:N+(va.length+1) * ((2 * va.length+1) * 2 ^ va.length+8+2 ^ (2 * va.length))<=B) :
  OpFC 54 [.ptr c 0,.int .i64 a,.int .i64 a2] s KK n B ns (N+(va.length+1) * ((2 * va.length+1) * 2 ^ va.length+8+2 ^ (2 * va.length))) (fun x=>decide (bX va x<sz) && decide (bX va x=bX vb x)):=by
 have wh:=fun(t:St) (h:t c=.obj 132 [.ptr q 0,.lst (dx ds) .no,.lst (atC at_) .no])=>Cx t c _ _ _ _ _ .full [(a:Int),(a2:Int)] (by simp) h
 have hal:a<ds.length:=(x_.1 hda).1
 have hbl:a2<ds.length:=(x_.1 hdb).1
 have hany:([(a:Int),(a2:Int)]).any (o9 (dx ds).length)=false:=by
  rw[fZ,List.any_cons,List.any_cons,List.any_nil,tN,tN]
  simp[hal,hbl]
 rw[hany]at wh
 simp only[aI,List.map_cons,List.map_nil,Bool.not_false]at wh
 have hco:=hC.co
 have hqo:=hC.qo
 have hca:=oO hda
 have hcb:=oO hdb
 have hat:=pc ha
 have hln:(ak va).length=va.length:=natsL_len
 have wq:=fun(t:St) (h:t q=.obj 126 [.ptr KK.o 0,.ptr KK.s.p 0])=>dD t q KK.o KK.s.p h
 have hcf:s c≠.free:=by rw[hco];simp
 have hqf:s q≠.free:=by rw[hqo];simp
 have HCC:=o_ hC
 have HD:=o_ hD
 have HDA:=o_ hda
 have HA:=o_ ha
 have HB:=o_ hb
 have HLN:=o_ hlen
 have HCN:=o_ hc
 have HRM:=o_ hB
 have hw30:=(hD.w a _ _ hda ha).2.2.2
 have hne2:¬ (a:Int)=(a2:Int):=by omega
 unfold OpFC
 clear hC hD hda hdb ha hb hlen hc hB hal hbl hany hne
 dsimp only at hca hcb
 have HDD:Hid (∃D,D=dx ds):=o_ ⟨_,rfl⟩
 obtain⟨D,hDD⟩:=HDD.out
 obtain⟨A,hAA⟩:∃A,A=atC at_:=⟨_,rfl⟩
 obtain⟨V,hVV⟩:∃V,V=ak va:=⟨_,rfl⟩
 rw[<- hDD]at wh hco hca hcb
 rw[<- hAA]at wh hco hat
 rw[<- hVV]at hat hln
 obtain⟨w,hww⟩:∃w,w=va.length:=⟨_,rfl⟩
 rw[<- hww]at hln hw30
 have HWW:=o_ hww
 have HDD:=o_ hDD
 have HAA:=o_ hAA
 clear hDD hAA hVV hww
 have ha0:(0:Int)<=a:=Int.natCast_nonneg _
 have hb0:(0:Int)<=a2:=Int.natCast_nonneg _
 refine am Tryz.func54 rfl Tryz.ntmps54 rfl fun Q hQ hQe=>?_
 (repeat'(first|refine Ctl ?_|(with_reducible first|(refine k_ hK ?_;clear hK hE K E)|(refine k_ hKh ?_;clear hKh Kh)|(refine k_ hKb (aC ?_);clear hKb Kb)|refine ax 1 [([0,1,2,3,4,5,6,7,8,9,10,11,12,13],14,[[]])] [15,16,17,18,19,20,21,22,23,24,25,26,27,28,29,30,31,32,33,34,35] hQe fun K E hK hE=>?_|refine ax 5 [] [0,1,2,3,4,5,6,7,8] hQe fun K E hK hE=>?_)|((with_reducible refine bZ (fun h=>?_) (fun h=>?_))<;>(try(exfalso;assumption)))|((first|(with_reducible first|refine ab fun K E hK hE=>?_|refine ae GK (wh _ ac) ?_|refine ae dK (wq _ ac) ?_|refine ay fun Kh hKh=>?_|refine aG fun Kh hKh=>?_|refine aB fun Kb hKb=>?_)|((with_reducible refine au (fun b hb=>?_));(repeat(obtain⟨_,hb⟩:=hb));(try(obtain⟨_,_⟩:=nef hb hcf;obtain⟨_,_⟩:=nef hb hqf))))<;>(try simp(disch:=assumption) only[go_sem,seval,hca,hcb,hat,hln, *]))))
 rename_i b3 hb3 _ _ _ _ b4 _ _ hb4 _ _ _ _ b5 _ _ _ _ hb5 _ _ _ _ _ _ _ _ _ _ _ _ _ _
 obtain⟨b8,hb8⟩:∃z,z=b:=⟨_,rfl⟩
 subst hb8
 refine bE fun S0 hS0=>?_
 have hE0:EqI s c KK.o q KK b3 b4 b5 b8 a a2 0 S0 .full []:=by
  refine⟨fun z hz=>?_,by rw[hS0];simp only[St.set,if_true,if_false, *],by rw[hS0];simp only[St.set,if_true,if_false, *],by rw[hS0];simp only[St.set,if_true,if_false, *],by rw[hS0];exact q_ _ _ _,fun j x hj=>by simp at hj,rfl,.inl ⟨rfl,rfl⟩⟩
  rw[hS0,j_ _ _ (nef hb hz).1,j_ _ _ (nef hb5 hz).1,j_ _ _ (nef hb4 hz).1,j_ _ _ (nef hb3 hz).1]
 have HE0:=o_ hE0
 clear hS0 hE0 hb hb3 hb4 hb5
 have hL0:fgC (eqL b3 b4 b5 b8 a sz va vb [])=[[.fn 86 [.ptr b3 0,.ptr b4 0]]]:=rfl
 refine bV (fun m env s'=>∃(i:Nat) (o:Own) (bs:TW),i<=w/\m+i=w/\Hid (EqI s c KK.o q KK b3 b4 b5 b8 a a2 i s' o bs)/\env 3=.ptr b3 0/\env 4=.ptr b4 0/\env 5=.ptr b5 0/\env 8=.ptr b8 0/\env 9=.lst (fgC (eqL b3 b4 b5 b8 a sz va vb bs)) o/\env 61=.int .i64 w/\env 62=.int .i64 i) w ?_ ?_
 ·exact⟨_,Fg.refl _,0,.full,[],by omega,by omega,HE0,ac,ac,ac,ac,by(rw[hL0];((try simp(disch:=assumption) only[go_sem,seval, *])<;>rfl)),ac,ac⟩
 clear HE0
 rintro m env s' ⟨i,o,bs,hi,hm,HE,e3,e4,e5,e8,e9,e61,e62⟩
 have hE:=HE.out
 have s3:=hE.h3
 have s4:=hE.h4
 have s5:=hE.h5
 have hlf:(fgC (eqL b3 b4 b5 b8 a sz va vb bs)).length=i+1:=by rw[EE,eqL,List.length_cons,z_,List.length_range,hE.len]
 clear hE
 by_cases h7:i<w
 ·generalize hLL:fgC (eqL b3 b4 b5 b8 a sz va vb bs)=L at *
  have HLL:=o_ hLL
  clear hLL
  have f3:s' b3≠.free:=by rw[s3];simp
  have f4:s' b4≠.free:=by rw[s4];simp
  have f5:s' b5≠.free:=by rw[s5];simp
  (repeat'(first|(with_reducible refine aR 9 ?_)|refine Ctl ?_|((with_reducible refine k_ hK ?_);clear hK hE K E)|((with_reducible refine bZ (fun h=>?_) (fun h=>?_))<;>(try(exfalso;assumption)))|((first|(with_reducible refine ab fun K E hK hE=>?_)|((with_reducible refine au (fun b hb=>?_));(try(obtain⟨_,_⟩:=nef hb f3;obtain⟨_,_⟩:=nef hb f4;obtain⟨_,_⟩:=nef hb f5))))<;>(try simp(disch:=assumption) only[go_sem,seval, *]))))
  unfold bC
  refine bE fun S hS=>?_
  have hE:=HE.out
  have hstep:=fun u ow2 h1 h2=>hE.step (S:=S) (u:=u) (ow2:=ow2) hb hS h1 h2
  have HST:=o_ hstep
  have hSb:S b≠.free:=by rw[hS,q_];simp
  have hadd:fgC (eqL b3 b4 b5 b8 a sz va vb (bs++[b]))=L++[[.fn 88 [.ptr b3 0,.ptr b4 0,.ptr b 0,.ptr b5 0,.ptr b8 0]]]:=by
   rw[Re,<- HLL.out]
   simp[fgC]
  have HADD:=o_ hadd
  have hL1:∀x,x∈L->x.length=1:=by
   rw[<- HLL.out]
   intro x hx
   obtain⟨e,_,rfl⟩:=A_.1 hx
   rfl
  rcases hE.own with ⟨hi0,ho⟩|⟨y,ho,hy,_⟩
  ·subst hi0 ho
   clear hadd hstep hE hS s3 s4 s5
   (repeat'(first|((with_reducible refine Rx (fun bA hA=>?_))<;>(try simp(disch:=assumption) only[go_sem,seval, *]))|refine Ctl ?_|((with_reducible refine k_ hK ?_);clear hK hE K E)|(((with_reducible refine ab fun K E hK hE=>?_))<;>(try simp(disch:=omega) only[go_sem,seval, *]))))
   refine⟨_,Fg.refl _,m - 1,by omega,1,.at_ bA,bs++[b],by omega,by omega,o_ ?_,ac,ac,ac,ac,by(rw[HADD.out];((try simp(disch:=assumption) only[go_sem,seval, *])<;>rfl)),ac,ac⟩
   exact HST.out _ _ (fun z hz _=>j_ _ _ (nef hA hz).1) ⟨bA,rfl,q_ _ _ _,.inl hA⟩
  ·subst ho
   have hyb:¬ y=b:=fun e=>by rw[e]at hy;rw[hy]at hb;cases hb
   have hOw:iZ S (.at_ y) 155 1 (i+1):=by
    show S y=_
    rw[hS,j_ _ _ hyb]
    exact hy
   clear hadd hstep hE hS s3 s4 s5 hy
   (repeat'(first|refine Ctl ?_|((with_reducible refine k_ hK ?_);clear hK hE K E)|((first|(with_reducible refine ab fun K E hK hE=>?_)|((with_reducible refine fC (fun o2 ho=>?_))))<;>(try simp(disch:=omega) only[go_sem,seval,hOw, *]))))
   all_goals
    refine⟨_,Fg.refl _,m - 1,by omega,i+1,o2,bs++[b],by omega,by omega,o_ ?_,ac,ac,ac,ac,by(rw[HADD.out];((try simp(disch:=assumption) only[go_sem,seval, *])<;>rfl)),ac,ac⟩
    obtain⟨y2,p1,p2,p3,p4⟩:=sQ (T:=155) (n:=i+1) (by simpa [hlf]using ho)
    exact HST.out _ _ p3 ⟨y2,p1,p2,p4⟩
 ·obtain rfl:i=w:=by omega
  have hE:=HE.out
  have hsz:=HD.out.w a _ _ HDA.out HA.out
  dsimp only at hsz
  have hm1:CMem s' KK q c n B ns ds at_:=by
   have hC:=HCC.out
   obtain⟨n1,n2,n3,n4⟩:=hC.nq
   exact⟨hC.om.keep fun z hz=>hE.keep z (hC.om.live hz),(hE.keep _ n3).trans hC.qo,(hE.keep _ n4).trans hC.co⟩
  have hkp:OKeep s s' KK KK:=⟨rfl,rfl,rfl,fun z hz=>.inl hz,fun z hz _=>hE.keep z hz⟩
  have hlw:vb.length=va.length:=HLN.out
  have hbl:bs.length=va.length:=by rw[hE.len,<- HWW.out]
  have S2:∀v,v∈va++vb->v<n:=fun v hv=>by
   rcases f_.1 hv with hv|hv
   ·exact HD.out.lt _ (y_ HA.out) v hv
   ·exact HD.out.lt _ (y_ HB.out) v hv
  have hFG:∀e,e∈eqL b3 b4 b5 b8 a sz va vb bs->Si s' (fun z=>z=b3\/z=b4\/z=b5\/z=b8\/z∈bs\/z=q) q c n B ((2 * va.length+1) * 2 ^ va.length+8) ds at_ (va++vb) e:=fun e he=>by
   unfold eqL at he
   rcases AT.1 he with rfl|he
   ·refine⟨R9,fun x y e=>?_,fun u K' ns' N' c1 c2 c3 c4=>?_⟩
    ·simp only[ge,cO fun v hv=>e v (List.mem_append_left _ hv)]
    ·exact(RN c1 HD.out HDA.out HA.out ((c2 b3 (.inl rfl)).trans hE.h3) ((c2 b4 (.inr (.inl rfl))).trans hE.h4) c3 (by omega)).mono (by omega)
   ·obtain⟨j,hj,rfl⟩:=A_.1 he
    rw[List.mem_range]at hj
    have hja:va[j]?=some (va.getD j 0):=by rw[List.getD_eq_getElem?_getD,m_ (by omega)];rfl
    have hjb:vb[j]?=some (vb.getD j 0):=by rw[List.getD_eq_getElem?_getD,m_ (by omega)];rfl
    have hjs:bs[j]?=some (bs.getD j 0):=by rw[List.getD_eq_getElem?_getD,m_ hj];rfl
    have ma:=y_ hja
    have mb:=y_ hjb
    refine⟨R8,QU (List.mem_append_left _ ma) (List.mem_append_right _ mb),fun u K' ns' N' c1 c2 c3 c4=>?_⟩
    have hKo:K'.o=KK.o:=by
     have h1:=c1.qo
     rw[c2 q (.inr (.inr (.inr (.inr (.inr rfl))))),hm1.qo]at h1
     injection h1 with _ h1
     injection h1 with h1
     injection h1 with h1
     exact h1.symm
    refine(RK c1 HA.out HB.out hja hjb (S2 _ (List.mem_append_left _ ma)) (S2 _ (List.mem_append_right _ mb)) ((c2 b3 (.inl rfl)).trans hE.h3) ((c2 b4 (.inr (.inl rfl))).trans hE.h4) ((c2 _ (.inr (.inr (.inr (.inr (.inl (y_ hjs))))))).trans (hE.bx j _ hjs)) ((c2 b5 (.inr (.inr (.inl rfl)))).trans hE.h5) ((c2 b8 (.inr (.inr (.inr (.inl rfl))))).trans (hE.h8.trans (by rw[hKo]))) c3 (by omega)).mono (by omega)
  have hZ:∀z,(z=b3\/z=b4\/z=b5\/z=b8\/z∈bs\/z=q)->s' z≠.free/\¬ KK.has z:=fun z hz=>by
   have ty:∀{T xs},s' z=.obj T xs->T≠107->T≠161->T≠123->s' z≠.free/\¬ KK.has z:=fun h a b c=>⟨by rw[h];simp,hm1.om.types h a b c⟩
   rcases hz with rfl|rfl|rfl|rfl|hz|rfl
   ·exact ty hE.h3 (by decide) (by decide) (by decide)
   ·exact ty hE.h4 (by decide) (by decide) (by decide)
   ·exact ty hE.h5 (by decide) (by decide) (by decide)
   ·exact ty hE.h8 (by decide) (by decide) (by decide)
   ·obtain⟨j,hj⟩:=d_.1 hz
    exact ty (hE.bx j z hj) (by decide) (by decide) (by decide)
   ·exact ty hm1.qo (by decide) (by decide) (by decide)
  have hll:(eqL b3 b4 b5 b8 a sz va vb bs).length=va.length+1:=by rw[eqL,List.length_cons,z_,List.length_range,hbl]
  have wa:=RQ (k:=2 * va.length) o hm1 S2 (by rw[p_,hlw];omega) hFG hZ HCN.out (by rw[hll];omega) (by rw[hll];exact HRM.out)
  have hfe:(fun x=>(eqL b3 b4 b5 b8 a sz va vb bs).all fun e=>e.g x)=fun x=>decide (bX va x<sz) && decide (bX va x=bX vb x):=funext fun x=>Rd hlw hbl hsz.1 x
  rw[hfe,hll]at wa
  have HKP:=o_ hkp
  unfold OpFC at wa
  clear hE hsz hm1 hkp hlw hbl S2 hFG hZ hll hfe
  (repeat'(first|refine Ctl ?_|((with_reducible refine k_ hK ?_);clear hK hE K E)|((with_reducible refine bZ (fun h=>?_) (fun h=>?_))<;>(try(exfalso;assumption)))|(((with_reducible refine ab fun K E hK hE=>?_))<;>(try simp(disch:=assumption) only[go_sem,seval, *]))))
  refine ao R6 wa (fun a h=>?_)
  obtain⟨u3,K3,ns3⟩:=a
  have h3:=o_ (OpF.trans (ns:=ns) h HKP.out ⟨[],(List.append_nil _).symm⟩)
  clear h wa
  simp only[go_sem,seval]
  (repeat'(first|refine Ctl ?_|((with_reducible refine k_ hK ?_);clear hK hE K E)))
  (refine aq NF hQ ?_)
  exact⟨_,_,Wk.refl _,Fg.refl _,pB (K3,ns3) rfl h3.out⟩
abbrev BF:=Tf
def Is (n:Nat)(ns:Td)(g:BF)(k:Nat):Prop:=treeT n g∈ns/\ixF n ns g=k
structure Ch (s:St) (K:OB) (q c n B:Nat) (ns:Td) (ds:TN) (at_:TU) (s':St) (K':OB) (ns':Td) (N':Nat):Prop where
 cm:CMem s' K' q c n B ns' ds at_
 kp:OKeep s s' K K'
 pre:∃l,ns'=ns++l
 cnt:CntN ns' N'
abbrev OiA:=St×OB×Td×Nat
structure OiR (s:St) (K:OB) (q c n B:Nat) (ns:Td) (ds:TN) (at_:TU) (ns':Td) (N2:Nat) (g:BF) (a:OiA):Prop where
 ch:Ch s K q c n B ns ds at_ a.1 a.2.1 a.2.2.1 N2
 is:Is n a.2.2.1 g a.2.2.2
 on:∀f k,Is n ns' f k->Is n a.2.2.1 f k
section
variable {s : St} {K : OB} {q c n B : Nat} {ns : Td} {ds : List (TT × Nat)} {at_ : TU} {s' : St} {K' : OB} {ns' : Td} {N' N2 : Nat} {f g : BF} {kf kg k : Nat} {S : TW}
variable (hc : Ch s K q c n B ns ds at_ s' K' ns' N') (hS : ∀ v, v ∈ S -> v < n) (hk : S.length <= k) (hf : Is n ns' f kf) (hg : Is n ns' g kg) (df : DepF S f) (dg : DepF S g)
include hc hS hk hf df
include hg dg
end
def jw (w:Nat)(more:Int):Nat:=(more % 2 ^ w).toNat
theorem Fc (w:Nat)(more:Int):jw w more<2 ^ w:=by
 unfold jw
 have h1:=Int.emod_lt_of_pos more (show (0:Int)<2 ^ w by exact Int.pow_pos (by omega))
 have h2:=Int.emod_nonneg more (show (2:Int) ^ w≠0 by exact Int.ne_of_gt (Int.pow_pos (by omega)))
 have hp:((2:Int) ^ w)=((2 ^ w:Nat):Int):=by simp
 rw[hp]at h1 h2
 omega
theorem rI {w:Nat}(hw:w<=61)(more:Int):bF .and .i64 more (IntKind.i64.wrap (((2 ^ w:Nat):Int) - 1))=some (.int .i64 (jw w more:Nat)):=by
 have hp:((2:Int) ^ w)=((2 ^ w:Nat):Int):=by simp
 have hle:2 ^ w<=2 ^ 61:=Nat.pow_le_pow_right (by omega) hw
 have hpos:0<2 ^ w:=Nat.two_pow_pos w
 have e:IntKind.i64.wrap (((2 ^ w:Nat):Int) - 1)=2 ^ w - 1:=by
  rw[hp]
  generalize 2 ^ w=P at *
  rw[bT (by omega) (by omega)]
 show some (VV.int .i64 (jv .i64 more _))=_
 rw[e,kC more w (by omega)]
 unfold jw
 have h2:=Int.emod_nonneg more (show (2:Int) ^ w≠0 by exact Int.ne_of_gt (Int.pow_pos (by omega)))
 congr 2
 omega
end Go.Proofs.YtohnaepcgnbaiaaGreatDoor
