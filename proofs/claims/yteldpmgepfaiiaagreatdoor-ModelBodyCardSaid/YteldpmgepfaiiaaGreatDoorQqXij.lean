/- Walks of functions that the claim reaches, and plain facts of them. Conditions: those in the statements. -/
import Derived.Test.YteldpmgepfaiiaaGreatDoorQqXfj
import Derived.Test.YteldpmgepfaiiaaGreatDoorQqGpj
import Derived.Test.YteldpmgepfaiiaaGreatDoorQqUqj
import Derived.Test.YteldpmgepfaiiaaGreatDoorQqYfj
import Derived.Test.YteldpmgepfaiiaaGreatDoorQqUlj
set_option linter.unusedSimpArgs false
set_option linter.unusedVariables false
set_option maxRecDepth 100000
namespace Go.Proofs.YteldpmgepfaiiaaGreatDoor
open Go.RowKit
set_option maxHeartbeats 8000000 in
theorem uN (x:Pgm)(hx:PgmOk x)(t:St):SRet Tryz.prog 74 [.agg (pgC x)] t (.tup [.int .i64 (soundP x).1,.int .i64 (soundP x).2.1]) t:=by
 have w1:=fun s=>Dk x hx s
 have hlr:(x.rules.map az).length=x.rules.length:=by simp
 by_cases hr:cD x=0
 ·have hBd:=gX (dQ hr)
  obtain⟨hdl,hrl,hbd⟩:=hBd
  have hs:soundP x=match fV x 0 x.rules with|some (k,e)=>((k:Int),e,[])|none=>match stgP x with|none=>(-1,126,[])|some l=>(-1,0,l):=by
   unfold soundP;rw[if_neg (by simp[hr])];rfl
  generalize hZ:soundP x=Z at hs
  have HS:=Lib.hid hs
  have HBD:=Lib.hid hbd
  clear hs hZ hbd
  rw[hr]at w1
  have w2:=fun s r (h:r∈x.rules)=>sS s x r hx.1 hx.2.1 (by have:=(HBD.out r h).2.1;omega) (fun a ha=>by rcases ha with rfl|ha;exact Nat.le_trans (HBD.out r h).1 (by omega);exact Nat.le_trans ((HBD.out r h).2.2 a ha) (by omega))
  have W2:=Lib.hid w2
  clear w2 hr
  simp only[pgC]at w1 W2 ⊢
  refine av Tryz.func74 rfl Tryz.ntmps74 rfl fun Q hQ hQe=>?_
  (repeat'(first|refine Ctl ?_|((with_reducible refine Kof.use hK ?_);clear hK hE K E)|((with_reducible refine aj (fun h=>?_) (fun h=>?_))<;>(try(exfalso;assumption)))|((first|(with_reducible first|refine ae fun K E hK hE=>?_|refine ak AQ (w1 _) ?_)|((with_reducible refine ao (fun b hb=>?_))))<;>(try simp(disch:=omega) only[go_sem,seval,hlr, *]))))
  obtain⟨bp,hbp⟩:∃z,z=b:=⟨_,rfl⟩
  subst hbp
  have hSp:(t.set bp (.obj 26 [.lst (x.doms.map dmC) .no,.lst (x.decls.map aB) .no,.lst (x.rules.map az) .no])) bp=(.obj 26 [.lst (x.doms.map dmC) .no,.lst (x.decls.map aB) .no,.lst (x.rules.map az) .no]):=St.set_same _ _ _
  have hF:Fg (t.set bp (.obj 26 [.lst (x.doms.map dmC) .no,.lst (x.decls.map aB) .no,.lst (x.rules.map az) .no])) t:=Fg.of_set _ hb
  generalize t.set bp (.obj 26 [.lst (x.doms.map dmC) .no,.lst (x.decls.map aB) .no,.lst (x.rules.map az) .no])=S at *
  have HF:=Lib.hid hF
  have hSpf:S bp≠.free:=by rw[hSp];simp
  clear hF hb
  refine aI (fun m env s'=>∃i:Nat,i≤x.rules.length∧m+i=x.rules.length∧Hid (fV x 0 x.rules=fV x i (x.rules.drop i))∧s'=S∧env 1=.ptr bp 0∧env 5=.int .i64 i) x.rules.length ?_ ?_
  ·exact⟨_,Fg.refl _,0,by omega,by omega,Lib.hid (by simp),rfl,ab,ab⟩
  rintro m env s' ⟨i,hi,hm,HI,rfl,e1,e5⟩
  by_cases hlt:i<x.rules.length
  ·obtain⟨r,hrj⟩:=aO hlt
   have hsx:=fm hrj
   have w2:=fun s=>W2.out s r (List.mem_of_getElem? hrj)
   have hI:=HI.out
   rw[List.drop_eq_getElem_cons hlt,show x.rules[i]=r by rw[List.getElem?_eq_getElem hlt]at hrj;injection hrj]at hI
   simp only[fV]at hI
   clear hrj
   cases hsc:cF x r with
   |error e=>
    rw[hsc]at hI w2
    simp only at hI
    have hen:=jD hsc
    have hZ:Z=((i:Int),e,[]):=by rw[HS.out,hI]
    subst hZ
    have hef:(e=0)=False:=eq_false hen
    simp only[kI,az]at w2
    clear hI hsc HI HS
    (repeat'(first|refine Ctl ?_|(with_reducible first|(refine Kof.use hK ?_;clear hK hE K E)|(refine Kof.use hKh ?_;clear hKh Kh)|(refine Kof.use hKb (aK ?_);clear hKb Kb)|refine jl 7 (.two [0,1,2,3,4,5] 6 [[]] (.one [7,8,9] 10 [[7,8,9],[]] (.one [] 11 [[],[9],[]] (.fin [12]))) 10 [[0,1,2,3,4,5]] (.one [] 6 [[],[]] (.one [7,8,9] 11 [[9],[],[]] (.fin [12])))) hQe fun K E hK hE=>?_)|((with_reducible refine aj (fun h=>?_) (fun h=>?_))<;>(try(exfalso;assumption)))|((first|(with_reducible first|refine ae fun K E hK hE=>?_|refine ak v8 (w2 _) ?_|refine aL fun Kb hKb=>?_|refine ji fun Kh hKh=>?_|refine pB fun Kh hKh=>?_|refine pA fun Kh hKh=>?_|refine ld (fun Kb hKb=>?_) (fun Kb hKb=>?_))|((with_reducible refine ao (fun b hb=>?_));(try(obtain⟨_,_⟩:=nef hb hSpf))))<;>(try simp(disch:=omega) only[go_sem,seval,hlr,hsx,az, *]))))
    all_goals(refine ap rA hQ ?_)
    all_goals exact⟨_,t,Wk.refl _,(Fg.of_set _ hb).trans HF.out,rfl,rfl⟩
   |ok Y=>
    rw[hsc]at hI w2
    simp only at hI
    have HI2:=Lib.hid hI
    simp only[kI,az]at w2
    clear hI hsc HI
    (repeat'(first|refine Ctl ?_|(with_reducible first|(refine Kof.use hK ?_;clear hK hE K E)|(refine Kof.use hKh ?_;clear hKh Kh)|(refine Kof.use hKb (aK ?_);clear hKb Kb)|refine jl 7 (.two [0,1,2,3,4,5] 6 [[]] (.one [7,8,9] 10 [[7,8,9],[]] (.one [] 11 [[],[9],[]] (.fin [12]))) 10 [[0,1,2,3,4,5]] (.one [] 6 [[],[]] (.one [7,8,9] 11 [[9],[],[]] (.fin [12])))) hQe fun K E hK hE=>?_)|((with_reducible refine aj (fun h=>?_) (fun h=>?_))<;>(try(exfalso;assumption)))|((first|(with_reducible first|refine ae fun K E hK hE=>?_|refine ak v8 (w2 _) ?_|refine aL fun Kb hKb=>?_|refine ji fun Kh hKh=>?_|refine pB fun Kh hKh=>?_|refine pA fun Kh hKh=>?_|refine ld (fun Kb hKb=>?_) (fun Kb hKb=>?_))|((with_reducible refine ao (fun b hb=>?_));(try(obtain⟨_,_⟩:=nef hb hSpf))))<;>(try simp(disch:=omega) only[go_sem,seval,hlr,hsx,az, *]))))
    all_goals exact⟨_,Fg.of_set _ hb,m - 1,by omega,i+1,by omega,by omega,HI2,rfl,ab,ab⟩
  ·have hI:=HI.out
   rw[show i=x.rules.length by omega,List.drop_length]at hI
   simp only[fV]at hI
   have hRO:RelOk x:=fun r hr=>oD hI hr
   have w4:=fun s=>pE s x hRO hdl hrl (fun r hr=>by have:=(HBD.out r hr).2.1;omega)
   have hZ:=HS.out
   rw[hI]at hZ
   simp only at hZ
   simp only[pgC]at w4
   clear hI HS HI hRO
   cases hst:stgP x with
   |none=>
    rw[hst]at hZ w4
    simp only at hZ
    subst hZ
    simp only[lT]at w4
    (repeat'(first|refine Ctl ?_|((with_reducible refine Kof.use hK ?_);clear hK hE K E)|((with_reducible refine aj (fun h=>?_) (fun h=>?_))<;>(try(exfalso;assumption)))|(((with_reducible first|refine ae fun K E hK hE=>?_|refine ak As (w4 _) ?_))<;>(try simp(disch:=omega) only[go_sem,seval,hlr, *]))))
    all_goals(refine ap rA hQ ?_)
    all_goals exact⟨_,t,Wk.refl _,HF.out,rfl,rfl⟩
   |some l=>
    rw[hst]at hZ w4
    simp only at hZ
    subst hZ
    simp only[lT]at w4
    (repeat'(first|refine Ctl ?_|((with_reducible refine Kof.use hK ?_);clear hK hE K E)|((with_reducible refine aj (fun h=>?_) (fun h=>?_))<;>(try(exfalso;assumption)))|(((with_reducible first|refine ae fun K E hK hE=>?_|refine ak As (w4 _) ?_))<;>(try simp(disch:=omega) only[go_sem,seval,hlr, *]))))
    all_goals(refine ap rA hQ ?_)
    all_goals exact⟨_,t,Wk.refl _,HF.out,rfl,rfl⟩
 ·have hs:soundP x=(-1,cD x,[]):=by unfold soundP;rw[if_pos hr]
  rw[hs]
  clear hs
  generalize cD x=e at *
  have hef:(e=0)=False:=eq_false hr
  simp only[pgC]at w1 ⊢
  refine av Tryz.func74 rfl Tryz.ntmps74 rfl fun Q hQ hQe=>?_
  (repeat'(first|refine Ctl ?_|((with_reducible refine Kof.use hK ?_);clear hK hE K E)|((with_reducible refine aj (fun h=>?_) (fun h=>?_))<;>(try(exfalso;assumption)))|((first|(with_reducible first|refine ae fun K E hK hE=>?_|refine ak AQ (w1 _) ?_)|((with_reducible refine ao (fun b hb=>?_))))<;>(try simp(disch:=omega) only[go_sem,seval, *]))))
  all_goals(refine ap rA hQ ?_)
  all_goals(refine⟨_,_,Wk.of_eq ?_,?_,rfl,rfl⟩)
  all_goals first|rfl|(exact bj)
noncomputable def varsP (x:Pgm)(k:Int):Scp×Int:=
 if (soundP x).2.1≠0 then(⟨[],[]⟩,(soundP x).2.1)
 else if k<0 then(⟨[],[]⟩,1)
 else match x.rules[k.toNat]? with
  |none=>(⟨[],[]⟩,1)
  |some r=>match cF x r with|.ok Y=>(Y,0)|.error _=>(⟨[],[]⟩,0)
def yi (q:Scp×Int):VV:=.tup [.lst (aw q.1.vs) .no,.lst (aw q.1.ds) .no,.int .i64 q.2]
theorem lR {o1 o2:Own}{q:Scp×Int}:Wk (.tup [.lst (aw q.1.vs) o1,.lst (aw q.1.ds) o2,.int .i64 q.2]) (yi q):=Wk.tupL (.lst _ _ (.lst _ _ (.same _ .nil)))
set_option maxHeartbeats 4000000 in
theorem tj (x:Pgm)(k:Int)(hx:PgmOk x)(t:St):SRet Tryz.prog 43 [.agg (pgC x),.int .i64 k] t (yi (varsP x k)) t:=by
 have w1:=fun s=>uN x hx s
 have hlr:(x.rules.map az).length=x.rules.length:=by simp
 have hrl:=hx.2.2.1
 by_cases he:(soundP x).2.1=0
 ·obtain⟨l,hs,hr,hb,hst⟩:=eW he
  obtain⟨hdl,hrl,hbd⟩:=gX (dQ hr)
  rw[hs]at w1
  simp only at w1
  by_cases hk0:k<0
  ·have hv:varsP x k=(⟨[],[]⟩,1):=by unfold varsP;rw[if_neg (by simp[he]),if_pos hk0]
   rw[hv]
   simp only[pgC]at w1 ⊢
   clear hst hs hr hb hbd he hv
   refine av Tryz.func43 rfl Tryz.ntmps43 rfl fun Q hQ hQe=>?_
   (repeat'(first|refine Ctl ?_|((with_reducible refine Kof.use hK ?_);clear hK hE K E)|((with_reducible refine aj (fun h=>?_) (fun h=>?_))<;>(try(exfalso;assumption)))|((first|(with_reducible first|refine ae fun K E hK hE=>?_|refine ak DX (w1 _) ?_)|((with_reducible refine ao (fun b hb=>?_))))<;>(try simp(disch:=omega) only[go_sem,seval,hlr, *]))))
   all_goals(refine ap IX hQ ?_)
   all_goals exact⟨_,t,lR (q:=(⟨[],[]⟩,1)),bj,rfl,rfl⟩
  ·obtain⟨n,rfl⟩:∃n:Nat,k=n:=⟨k.toNat,by omega⟩
   by_cases hkn:n<x.rules.length
   ·obtain⟨r,hrj⟩:=aO hkn
    have hsx:=fm hrj
    obtain⟨Y,hY⟩:=fT _ _ hb r (List.mem_of_getElem? hrj)
    have hbr:=hbd r (List.mem_of_getElem? hrj)
    have w2:=fun s=>sS s x r hx.1 hx.2.1 (by have:=hbr.2.1;omega) (fun a ha=>by rcases ha with rfl|ha;exact Nat.le_trans hbr.1 (by omega);exact Nat.le_trans (hbr.2.2 a ha) (by omega))
    rw[hY]at w2
    have hv:varsP x n=(Y,0):=by unfold varsP;rw[if_neg (by simp[he]),if_neg hk0,Int.toNat_natCast,hrj];simp only[hY]
    rw[hv]
    simp only[pgC,kI,az]at w1 w2 ⊢
    clear hst hs hr hb hbd he hv hrj hY hbr
    have hkI:¬ ((x.rules.length:Int)≤(n:Int)):=by omega
    refine av Tryz.func43 rfl Tryz.ntmps43 rfl fun Q hQ hQe=>?_
    (repeat'(first|refine Ctl ?_|(with_reducible first|(refine Kof.use hK ?_;clear hK hE K E)|(refine Kof.use hKh ?_;clear hKh Kh)|(refine Kof.use hKb (aK ?_);clear hKb Kb)|refine jl 6 (.two [0,1,2,3,4,5] 6 [[]] (.one [7,8,9] 10 [[7,8,9],[]] (.one [] 11 [[],[9],[]] (.fin [12]))) 10 [[0,1,2,3,4,5]] (.one [] 6 [[],[]] (.one [7,8,9] 11 [[9],[],[]] (.fin [12])))) hQe fun K E hK hE=>?_|refine au 7 [] [0,1,2,3,4,5,6] hQe fun K E hK hE=>?_)|((with_reducible refine aj (fun h=>?_) (fun h=>?_))<;>(try(exfalso;assumption)))|((first|(with_reducible first|refine ae fun K E hK hE=>?_|refine ak DX (w1 _) ?_|refine ak v8 (w2 _) ?_|refine aC fun Kh hKh=>?_|refine aL fun Kb hKb=>?_|refine ji fun Kh hKh=>?_|refine pB fun Kh hKh=>?_|refine pA fun Kh hKh=>?_|refine ld (fun Kb hKb=>?_) (fun Kb hKb=>?_))|((with_reducible refine ao (fun b hb=>?_));(repeat(obtain⟨_,hb⟩:=hb))))<;>(try simp(disch:=omega) only[go_sem,seval,hlr,hsx,az, *]))))
    all_goals(refine ap IX hQ ?_)
    all_goals exact⟨_,t,lR (q:=(Y,0)),bj,rfl,rfl⟩
   ·have hv:varsP x n=(⟨[],[]⟩,1):=by unfold varsP;rw[if_neg (by simp[he]),if_neg hk0,Int.toNat_natCast,List.getElem?_eq_none (by omega)]
    rw[hv]
    simp only[pgC]at w1 ⊢
    clear hst hs hr hb hbd he hv
    have hkI:((x.rules.length:Int)≤(n:Int)):=by omega
    refine av Tryz.func43 rfl Tryz.ntmps43 rfl fun Q hQ hQe=>?_
    (repeat'(first|refine Ctl ?_|((with_reducible refine Kof.use hK ?_);clear hK hE K E)|((with_reducible refine aj (fun h=>?_) (fun h=>?_))<;>(try(exfalso;assumption)))|((first|(with_reducible first|refine ae fun K E hK hE=>?_|refine ak DX (w1 _) ?_)|((with_reducible refine ao (fun b hb=>?_))))<;>(try simp(disch:=omega) only[go_sem,seval,hlr, *]))))
    all_goals(refine ap IX hQ ?_)
    all_goals exact⟨_,t,lR (q:=(⟨[],[]⟩,1)),bj,rfl,rfl⟩
 ·have hv:varsP x k=(⟨[],[]⟩,(soundP x).2.1):=by unfold varsP;rw[if_pos he]
  rw[hv]
  clear hv
  generalize soundP x=Z at *
  obtain⟨z1,z2,z3⟩:=Z
  simp only at he w1 ⊢
  have hef:(z2=0)=False:=eq_false he
  simp only[pgC]at w1 ⊢
  refine av Tryz.func43 rfl Tryz.ntmps43 rfl fun Q hQ hQe=>?_
  (repeat'(first|refine Ctl ?_|((with_reducible refine Kof.use hK ?_);clear hK hE K E)|((with_reducible refine aj (fun h=>?_) (fun h=>?_))<;>(try(exfalso;assumption)))|((first|(with_reducible first|refine ae fun K E hK hE=>?_|refine ak DX (w1 _) ?_)|((with_reducible refine ao (fun b hb=>?_))))<;>(try simp(disch:=omega) only[go_sem,seval,hlr, *]))))
  all_goals(refine ap IX hQ ?_)
  all_goals exact⟨_,t,lR (q:=(⟨[],[]⟩,z2)),bj,rfl,rfl⟩
theorem A5 (t:St)(p b1 b2:Nat)(x:Pgm)(r:Rul)(hp:PrAt t p b1 b2 x)(hb:r.head.ts.length≤8∧r.body.length≤8∧∀a,a∈r.body→a.ts.length≤8)(Y:Scp)(h:cF x r=.ok Y) :
  SCalls Tryz.prog 78 [.ptr p 0,.agg (az r)] t fun w u=>∃q:Nat×Nat×St,w=.ret (.tup [.ptr q.1 0,.int .i64 0])∧u=q.2.2∧Fg q.2.2 t∧q.2.2 q.1=.pk 147 [.lst (aw Y.vs) .no,.lst (aw Y.ds) .no,.mp q.2.1] pO:=by
 have:=nO t p b1 b2 x r hp (by omega) (by omega) (fun a ha=>Nat.le_trans (hb.2.2 a ha) (by omega))
 rw[h]at this
 exact this.mono fun w u ⟨xb,bm,h1,h2,h3⟩=>⟨(xb,bm,u),h1,rfl,h2,h3⟩
set_option maxHeartbeats 4000000 in
theorem Da (x:Pgm)(k:Int)(hx:PgmOk x)(t:St):SRet Tryz.prog 46 [.agg (pgC x),.int .i64 k] t (yi (varsP x k)) t:=by
 have w1:=fun s=>wv x hx s
 have hlr:(x.rules.map az).length=x.rules.length:=by simp
 have hrl:=hx.2.2.1
 by_cases he:(soundP x).2.1=0
 ·obtain⟨l,hs,hr,hb,hst⟩:=eW he
  obtain⟨hdl,hrl,hbd⟩:=gX (dQ hr)
  rw[hs]at w1
  have w2:∀s,SCalls Tryz.prog 57 [.agg (pgC x)] s fun w u=>∃q:St×Nat×Nat×Nat,w=.ret (.tup [.ptr q.2.1 0,.lst (ay (List.map (fun n:Nat=>(n:Int)) l)) .no,.int .i64 (-1),.int .i64 0])∧u=q.1∧Fg q.1 s∧PrAt q.1 q.2.1 q.2.2.1 q.2.2.2 x:=fun s=>
   (w1 s).mono fun w u ⟨P,h1,h2,h3⟩=>by
    obtain⟨p,b1,b2,rfl,h4⟩:=h3 rfl
    exact⟨(u,p,b1,b2),h1,rfl,h2,h4⟩
  clear w1
  by_cases hk0:k<0
  ·have hv:varsP x k=(⟨[],[]⟩,1):=by unfold varsP;rw[if_neg (by simp[he]),if_pos hk0]
   rw[hv]
   simp only[pgC]at w2 ⊢
   clear hst hs hr hb hbd he hv
   refine av Tryz.func46 rfl Tryz.ntmps46 rfl fun Q hQ hQe=>?_
   (repeat'(first|refine Ctl ?_|((with_reducible refine Kof.use hK ?_);clear hK hE K E)|((with_reducible refine aj (fun h=>?_) (fun h=>?_))<;>(try(exfalso;assumption)))|((first|(with_reducible refine ae fun K E hK hE=>?_)|((with_reducible refine aT su (w2 _) (fun a h=>?_));(obtain⟨hfa,hpa⟩:=h;try(have hab:=hfa.keep (b:=b) (by rw[St.set_same];simp);rw[St.set_same]at hab)))|((with_reducible refine ao (fun b hb=>?_))))<;>(try simp(disch:=omega) only[go_sem,seval,hlr, *]))))
   all_goals(refine ap rD hQ ?_)
   all_goals exact⟨_,t,lR (q:=(⟨[],[]⟩,1)),hfa.trans (Fg.of_set _ hb),rfl,rfl⟩
  ·obtain⟨n,rfl⟩:∃n:Nat,k=n:=⟨k.toNat,by omega⟩
   by_cases hkn:n<x.rules.length
   ·obtain⟨r,hrj⟩:=aO hkn
    have hsx:=fm hrj
    obtain⟨Y,hY⟩:=fT _ _ hb r (List.mem_of_getElem? hrj)
    have hbr:=hbd r (List.mem_of_getElem? hrj)
    have w3:=fun s p b1 b2 (hp:PrAt s p b1 b2 x)=>A5 s p b1 b2 x r hp hbr Y hY
    have hv:varsP x n=(Y,0):=by unfold varsP;rw[if_neg (by simp[he]),if_neg hk0,Int.toNat_natCast,hrj];simp only[hY]
    rw[hv]
    simp only[pgC,az]at w2 w3 ⊢
    clear hst hs hr hb hbd he hv hrj hY hbr
    have hkI:¬ ((x.rules.length:Int)≤(n:Int)):=by omega
    refine av Tryz.func46 rfl Tryz.ntmps46 rfl fun Q hQ hQe=>?_
    (repeat'(first|refine Ctl ?_|(with_reducible first|(refine Kof.use hK ?_;clear hK hE K E)|(refine Kof.use hKh ?_;clear hKh Kh)|refine au 7 [] [0,1,2,3,4,5,6,7,8,9,10] hQe fun K E hK hE=>?_)|((with_reducible refine aj (fun h=>?_) (fun h=>?_))<;>(try(exfalso;assumption)))|((first|(with_reducible first|refine ae fun K E hK hE=>?_|refine aC fun Kh hKh=>?_)|((with_reducible refine aT su (w2 _) (fun a h=>?_));(obtain⟨hfa,hpa⟩:=h;try(have hab:=hfa.keep (b:=b) (by rw[St.set_same];simp);rw[St.set_same]at hab)))|((with_reducible refine aT Au (w3 _ _ _ _ (by assumption)) (fun a h=>?_));(obtain⟨hfa,hpa⟩:=h;try(have hab:=hfa.keep (b:=b) (by rw[St.set_same];simp);rw[St.set_same]at hab)))|((with_reducible refine ao (fun b hb=>?_))))<;>(try simp(disch:=omega) only[go_sem,seval,hlr,hsx,az, *]))))
    all_goals(refine ap rD hQ ?_)
    all_goals exact⟨_,t,lR (q:=(Y,0)),Fg.trans hfa (Fg.trans (by assumption) (Fg.of_set _ hb)),rfl,rfl⟩
   ·have hv:varsP x n=(⟨[],[]⟩,1):=by unfold varsP;rw[if_neg (by simp[he]),if_neg hk0,Int.toNat_natCast,List.getElem?_eq_none (by omega)]
    rw[hv]
    simp only[pgC]at w2 ⊢
    clear hst hs hr hb hbd he hv
    have hkI:((x.rules.length:Int)≤(n:Int)):=by omega
    refine av Tryz.func46 rfl Tryz.ntmps46 rfl fun Q hQ hQe=>?_
    (repeat'(first|refine Ctl ?_|((with_reducible refine Kof.use hK ?_);clear hK hE K E)|((with_reducible refine aj (fun h=>?_) (fun h=>?_))<;>(try(exfalso;assumption)))|((first|(with_reducible refine ae fun K E hK hE=>?_)|((with_reducible refine aT su (w2 _) (fun a h=>?_));(obtain⟨hfa,hpa⟩:=h;try(have hab:=hfa.keep (b:=b) (by rw[St.set_same];simp);rw[St.set_same]at hab)))|((with_reducible refine ao (fun b hb=>?_))))<;>(try simp(disch:=omega) only[go_sem,seval,hlr, *]))))
    all_goals(refine ap rD hQ ?_)
    all_goals exact⟨_,t,lR (q:=(⟨[],[]⟩,1)),hfa.trans (Fg.of_set _ hb),rfl,rfl⟩
 ·have hv:varsP x k=(⟨[],[]⟩,(soundP x).2.1):=by unfold varsP;rw[if_pos he]
  rw[hv]
  have w2:=fun s=>Bb x hx s
  clear hv w1
  generalize soundP x=Z at *
  obtain⟨z1,z2,z3⟩:=Z
  simp only at he w2 ⊢
  have hef:(z2=0)=False:=eq_false he
  simp only[pgC]at w2 ⊢
  refine av Tryz.func46 rfl Tryz.ntmps46 rfl fun Q hQ hQe=>?_
  (repeat'(first|refine Ctl ?_|((with_reducible refine Kof.use hK ?_);clear hK hE K E)|((with_reducible refine aj (fun h=>?_) (fun h=>?_))<;>(try(exfalso;assumption)))|((first|(with_reducible refine ae fun K E hK hE=>?_)|((with_reducible refine aT su (w2 _) (fun a h=>?_)))|((with_reducible refine ao (fun b hb=>?_))))<;>(try simp(disch:=omega) only[go_sem,seval,hlr, *]))))
  all_goals(refine ap rD hQ ?_)
  all_goals exact⟨_,t,lR (q:=(⟨[],[]⟩,z2)),bj,rfl,rfl⟩
attribute [local go_sem] aN aX cG
noncomputable def varsL (x:Pgm)(i:Nat):List (List (List UInt8)):=(List.range i).map fun(k:Nat)=>(varsP x (k:Int)).1.vs
theorem fJ {T:St}{o:Own}{b:Nat}{c:Cell}{e:TypeId}{sz n:Nat}(h:ax o b):(T.set b c).own o e sz n=(T.own o e sz n).set b c:=by
 cases o with
 |at_ q=>
  have hq:q≠b:=by intro hq;subst hq;simp[ax]at h
  exact cu (Ne.symm hq)
 |_=>rfl
theorem TbsAt.new {T:St}{X:List Tab}(h:TbsAt T X){m b:Nat}(hm:T m=.free)(hb:T b=.free)(hne:¬ b=m) :
  TbsAt ((T.set m (.map [])).set b (.obj 81 [.raw (.slice none 0 0),.mp m])) (X++[⟨b,m,0,[]⟩]):=by
 have hx:∀y,y∈X→∀z,y.F z→z≠m∧z≠b:=fun y hy z hz=>by
  have hl:=TabAt.live (h.at_ y hy) hz
  exact⟨by rintro rfl;exact hl hm,by rintro rfl;exact hl hb⟩
 constructor
 ·intro y hy
  rcases List.mem_append.1 hy with hy|hy
  ·refine TabAt.keep (h.at_ y hy) fun z hz=>?_
   rw[St.set_other _ _ (hx y hy z hz).2,St.set_other _ _ (hx y hy z hz).1]
  ·rw[List.mem_singleton]at hy
   subst hy
   exact⟨St.set_same _ _ _,by rw[St.set_other _ _ (fun e=>hne e.symm),St.set_same];rfl,fun h=>absurd rfl h,(fun x hx=>by cases hx),by simp⟩
 ·rw[List.pairwise_append]
  refine⟨h.dis,by simp,?_⟩
  intro x hxm y hy z hz
  rw[List.mem_singleton]at hy
  subst hy
  rintro(e|e|⟨e,_⟩)
  ·exact(hx x hxm z hz).2 e
  ·exact(hx x hxm z hz).1 e
  ·exact e rfl
set_option maxHeartbeats 8000000 in
theorem Dp (x:Pgm)(hx:PgmOk x)(hs:x.decls.length≤100000∧x.rules.length≤100000)(h1:(x.doms.map (·.name)).Nodup)(h2:(x.decls.map (·.name)).Nodup)(t:St):SCalls Tryz.prog 26 [.agg (pgC x)] t fun w u=>
  ∃p bm bz X,w=.ret (.ptr p 0)∧MdAt u p bm bz x (varsL x x.rules.length) X∧X.map (·.l)=List.replicate x.decls.length []∧Fg u t∧(∀z,(z=p∨z=bm∨z=bz∨TbF X z)→t z=.free):=by
 have w1:=fun(k:Int) s=>Da x k hx s
 simp only[pgC]at w1 ⊢
 obtain⟨ds,cs,rs⟩:=x
 obtain⟨hd,hc,hr,hdd,hdc,_⟩:=hx
 simp only at hd hc hr hdd hdc h1 h2 w1 hs ⊢
 obtain⟨hs1,hs2⟩:=hs
 have hl1:(ds.map dmC).length=ds.length:=by simp
 have hl2:(cs.map aB).length=cs.length:=by simp
 have hl3:(rs.map az).length=rs.length:=by simp
 refine av Tryz.func26 rfl Tryz.ntmps26 rfl fun Q hQ hQe=>?_
 (repeat'(first|refine Ctl ?_|((with_reducible refine Kof.use hK ?_);clear hK hE K E)|((first|(with_reducible refine ae fun K E hK hE=>?_)|((with_reducible refine ao (fun b hb=>?_));(repeat(obtain⟨_,hb⟩:=hb))))<;>(try simp(disch:=omega) only[go_sem,seval,hl1, *]))))
 rename_i bx hbx b1 n1 n2 hb1 b2 n3 n4 n5 n6 hb2 n7 n8 n9 n10 n11 n12
 obtain⟨pp,hpp⟩:∃x,x=b:=⟨_,rfl⟩
 subst hpp
 have hx0:(t.set bx (.obj 26 [.lst (ds.map dmC) .no,.lst (cs.map aB) .no,.lst (rs.map az) .no])) bx=.obj 26 [.lst (ds.map dmC) .no,.lst (cs.map aB) .no,.lst (rs.map az) .no]:=St.set_same _ _ _
 have f1:(t.set bx (.obj 26 [.lst (ds.map dmC) .no,.lst (cs.map aB) .no,.lst (rs.map az) .no])) b1=.free:=by rw[St.set_other _ _ (by assumption)];exact hb1
 have f2:(t.set bx (.obj 26 [.lst (ds.map dmC) .no,.lst (cs.map aB) .no,.lst (rs.map az) .no])) b2=.free:=by rw[St.set_other _ _ (by assumption)];exact hb2
 have f3:(t.set bx (.obj 26 [.lst (ds.map dmC) .no,.lst (cs.map aB) .no,.lst (rs.map az) .no])) pp=.free:=by rw[St.set_other _ _ (by assumption)];exact hb
 have hF0:Fg (t.set bx (.obj 26 [.lst (ds.map dmC) .no,.lst (cs.map aB) .no,.lst (rs.map az) .no])) t:=Fg.of_set _ hbx
 generalize t.set bx (.obj 26 [.lst (ds.map dmC) .no,.lst (cs.map aB) .no,.lst (rs.map az) .no])=S at *
 have HF:=Lib.hid hF0
 have HP:=Lib.hid hb
 have HP1:=Lib.hid hb1
 have HP2:=Lib.hid hb2
 have hSxf:S bx≠.free:=by rw[hx0];simp
 clear hF0 hbx hb hb1 hb2
 refine aI (fun m env s'=>∃(i:Nat),i≤ds.length∧m+i=ds.length∧s'=((S.set b1 (.map (mpV bG []))).set b2 (.map (mpV bG (pV (ds.take i))))).set pp (.obj 77 [.lst (ds.map dmC) .no,.lst (cs.map aB) .no,.lst (rs.map az) .no,.mp b1,.mp b2,.lst [] .full,.lst [] .full]) ∧
  env 1=.ptr bx 0∧env 3=.ptr pp 0∧env 18=.lst (ds.map dmC) .no∧env 19=.int .i64 ds.length∧env 20=.int .i64 i) ds.length ?_ ?_
 ·exact⟨_,Fg.refl _,0,by omega,by omega,rfl,ab,ab,ab,ab,ab⟩
 rintro m env s' ⟨i,hi,hm,rfl,e1,e3,e18,e19,e20⟩
 by_cases hlt:i<ds.length
 ·obtain⟨c,hcc⟩:=aO hlt
  have hsx:=fR hcc
  have hA:=vq hcc
  have HA:=Lib.hid hA
  clear hcc hA
  obtain⟨cn,cz⟩:=c
  (repeat'(first|refine Ctl ?_|(with_reducible first|(refine Kof.use hK ?_;clear hK hE K E)|(refine Kof.use hKh ?_;clear hKh Kh)|(refine Kof.use hKb (aK ?_);clear hKb Kb)|refine au 5 [([0,1,2,3,4,5,6,7],8,[[]])] [] hQe fun K E hK hE=>?_)|((with_reducible refine aj (fun h=>?_) (fun h=>?_))<;>(try(exfalso;assumption)))|((first|(with_reducible first|refine ae fun K E hK hE=>?_|refine aE fun Kh hKh=>?_|refine aC fun Kh hKh=>?_|refine aL fun Kb hKb=>?_)|((with_reducible refine ao (fun b hb=>?_));(repeat(obtain⟨_,hb⟩:=hb));(try(obtain⟨_,_⟩:=nef hb hSxf))))<;>(try simp(disch:=first|assumption|omega) only[go_sem,seval,hl1,hsx,dmC, *]))))
  exact⟨_,Fg.of_set _ (by rw[St.set_other _ _ (by assumption),St.set_other _ _ (by assumption),St.set_other _ _ (by assumption)];exact hb),m - 1,by omega,i+1,by omega,by omega,by rw[HA.out],ab,ab,ab,ab,ab⟩
 ·obtain rfl:i=ds.length:=by omega
  rw[List.take_length,vp h1]
  (repeat'(first|refine Ctl ?_|((with_reducible refine Kof.use hK ?_);clear hK hE K E)|((with_reducible refine aj (fun h=>?_) (fun h=>?_))<;>(try(exfalso;assumption)))|(((with_reducible refine ae fun K E hK hE=>?_))<;>(try simp(disch:=omega) only[go_sem,seval,hl1,hl2, *]))))
  have hx2:(S.set b2 (.map (mpV bG (szA ds)))) bx=.obj 26 [.lst (ds.map dmC) .no,.lst (cs.map aB) .no,.lst (rs.map az) .no]:=by rw[St.set_other _ _ (by assumption)];exact hx0
  have hz2:(S.set b2 (.map (mpV bG (szA ds)))) b2=.map (mpV bG (szA ds)):=St.set_same _ _ _
  have g1:(S.set b2 (.map (mpV bG (szA ds)))) b1=.free:=by rw[St.set_other _ _ (by assumption)];exact f1
  have g3:(S.set b2 (.map (mpV bG (szA ds)))) pp=.free:=by rw[St.set_other _ _ (by assumption)];exact f3
  have hF2:Fg (S.set b2 (.map (mpV bG (szA ds)))) t:=Fg.setA HF.out HP2.out
  rw[show (S.set b1 (.map (mpV bG []))).set b2 (.map (mpV bG (szA ds)))=(S.set b2 (.map (mpV bG (szA ds)))).set b1 (.map (mpV bG [])) from cu (by assumption)]
  generalize S.set b2 (.map (mpV bG (szA ds)))=S2 at *
  clear e18 e19 e20 hi hm hlt f1 f2 f3 hx0 hSxf HF
  have HF:=Lib.hid hF2
  clear hF2
  refine eF (fun m env s'=>∃(i:Nat) (o:Own) (T:St) (X:List Tab),i≤cs.length∧m+i=cs.length∧OwnOk T o i∧ax o b1∧ax o pp ∧
   T bx=.obj 26 [.lst (ds.map dmC) .no,.lst (cs.map aB) .no,.lst (rs.map az) .no]∧T b2=.map (mpV bG (szA ds))∧T b1=.free∧T pp=.free∧Hid (Fg T t)∧Hid (TbsAt T X)∧Hid (X.map (·.l)=List.replicate i [])∧Hid (∀z,TbF X z→t z=.free∧z≠bx∧z≠b2) ∧
   s'=((T.own o 78 1 i).set b1 (.map (mpV bG (pU (cs.take i))))).set pp (.obj 77 [.lst (ds.map dmC) .no,.lst (cs.map aB) .no,.lst (rs.map az) .no,.mp b1,.mp b2,.lst (X.map fun y=>[.ptr y.b 0]) o,.lst [] .full]) ∧
   env 1=.ptr bx 0∧env 3=.ptr pp 0∧env 34=.lst (cs.map aB) .no∧env 35=.int .i64 cs.length∧env 36=.int .i64 i) cs.length ?_ ?_
  ·refine⟨_,GS.refl _,0,.full,S2,[],by omega,by omega,cx,trivial,trivial,hx2,hz2,g1,g3,HF,Lib.hid ⟨by simp,by simp⟩,Lib.hid rfl,Lib.hid (fun z hz=>by obtain⟨y,hy,_⟩:=hz;cases hy),rfl,ab,ab,ab,ab,ab⟩
  clear e1 e3 env m hx2 hz2 g1 g3 HF S2
  rintro m env s' ⟨i,o,T,X,hi,hm,ho,hom,hop,hx2,hz2,g1,g3,HF,HT,HL,HD,rfl,e1,e3,e34,e35,e36⟩
  have hTx:T bx≠.free:=by rw[hx2];simp
  have hTz:T b2≠.free:=by rw[hz2];simp
  have hox:=ho.not hTx
  have hoz:=ho.not hTz
  have hXl:X.length=i:=by have:=congrArg List.length HL.out;simpa using this
  have hXm:(X.map fun y=>[VV.ptr y.b 0]).length=i:=by rw[List.length_map];exact hXl
  by_cases hlt:i<cs.length
  ·obtain⟨c,hcc⟩:=aO hlt
   have hsx:=c9 hcc
   have hA:=vo hcc
   have HA:=Lib.hid hA
   clear hcc hA
   obtain⟨cn,cd⟩:=c
   have hXs:∀q:Tab,(X++[q]).map (fun y=>[VV.ptr y.b 0])=X.map (fun y=>[VV.ptr y.b 0])++[[.ptr q.b 0]]:=fun q=>by simp
   have HXS:=Lib.hid hXs
   have h1y:∀y,y∈X.map (fun y=>[VV.ptr y.b 0])→y.length=1:=fun y hy=>by
    obtain⟨q,_,rfl⟩:=List.mem_map.1 hy
    rfl
   clear hXs
   generalize X.map (fun y=>[VV.ptr y.b 0])=L at *
   (repeat'(first|refine Ctl ?_|(with_reducible first|(refine Kof.use hK ?_;clear hK hE K E)|(refine Kof.use hKh ?_;clear hKh Kh)|(refine Kof.use hKb (aK ?_);clear hKb Kb)|refine au 10 [([0,1,2,3,4,5,6],7,[[]])] [] hQe fun K E hK hE=>?_)|((with_reducible refine aj (fun h=>?_) (fun h=>?_))<;>(try(exfalso;assumption)))|((first|(with_reducible first|refine ae fun K E hK hE=>?_|refine aE fun Kh hKh=>?_|refine aC fun Kh hKh=>?_|refine aL fun Kb hKb=>?_)|((with_reducible refine ao (fun b hb=>?_));(repeat(obtain⟨_,hb⟩:=hb));(try(rw[aR]at hb;obtain⟨_,hb⟩:=hb;obtain⟨_,_⟩:=nef hb hTx;obtain⟨_,_⟩:=nef hb hTz)))|((with_reducible refine cB (fun o2 ho=>?_));(try simp(disch:=assumption) only[aJ,aM,aU,bP,List.length_map,List.length_cons,List.length_nil,Nat.zero_add,hl2,hsx,aB,hXm]at ho);(repeat(obtain⟨_,ho⟩:=ho))))<;>(try simp(disch:=first|assumption|omega) only[go_sem,seval,hl2,hsx,aB,hXm, *]))))
   rename_i bd _ _ _ _ _ hbd _ _ _ _ mt _ _ _ _ _ _ kq hmt _ _ _ _ _ _ _ _ _ _ _ _ _ _ _ _ _ k1 k2 k3 k4 k5
   obtain⟨bt,hbt⟩:∃x,x=b:=⟨_,rfl⟩
   subst hbt
   have hnm:¬ bt=mt:=by assumption
   have HT2:=TbsAt.new HT.out hmt hb hnm
   have HX2:=HXS.out ⟨bt,mt,0,[]⟩
   refine⟨_,?_,m - 1,by omega,i+1,o2,(T.set mt (.map [])).set bt (.obj 81 [.raw (.slice none 0 0),.mp mt]),X++[⟨bt,mt,0,[]⟩],by omega,by omega,?_,k5,k4,?_,?_,?_,?_,?_,Lib.hid HT2,?_,?_,rfl,ab,ab,ab,ab,ab⟩
   ·refine(GS.rawnil (i:=0) (St.set_same _ _ _) rfl).trans ?_
    rw[St.set_set]
    refine GS.of_fg ?_
    rw[fJ (show ax o2 bt from k1),fJ (show ax o2 mt from k2)]
    rw[HX2,HA.out,cu (x:=bt) (y:=b1) (by assumption),cu (x:=bt) (y:=pp) (by assumption),cu (x:=mt) (y:=b1) (by assumption),cu (x:=mt) (y:=pp) (by assumption)]
    exact Fg.set (Fg.set (Fg.of_set _ (by rw[St.set_other _ _ (by assumption),St.set_other _ _ (by assumption),aR];exact⟨k3,hbd⟩)) _ _) _ _
   ·rw[aU,bP];exact⟨k1,k2,ho⟩
   ·rw[St.set_other _ _ (by assumption),St.set_other _ _ (by assumption)];exact hx2
   ·rw[St.set_other _ _ (by assumption),St.set_other _ _ (by assumption)];exact hz2
   ·rw[St.set_other _ _ (by assumption),St.set_other _ _ (by assumption)];exact g1
   ·rw[St.set_other _ _ (by assumption),St.set_other _ _ (by assumption)];exact g3
   ·exact Lib.hid (Fg.setA (Fg.setA HF.out (HF.out.free hmt)) (HF.out.free hb))
   ·refine Lib.hid ?_
    rw[List.map_append,HL.out,List.replicate_succ']
    rfl
   ·refine Lib.hid fun z hz=>?_
    obtain⟨y,hy,hzF⟩:=hz
    rcases List.mem_append.1 hy with hy|hy
    ·exact HD.out z ⟨y,hy,hzF⟩
    ·rw[List.mem_singleton]at hy
     subst hy
     rcases hzF with rfl|rfl|⟨e,_⟩
     ·exact⟨HF.out.free hb,by assumption,by assumption⟩
     ·exact⟨HF.out.free hmt,by assumption,by assumption⟩
     ·exact absurd rfl e
  ·obtain rfl:i=cs.length:=by omega
   rw[List.take_length,vn h2]
   have hg:=GS.wkobj (s:=((T.own o 78 1 cs.length).set b1 (.map (mpV bG (rlA cs)))).set pp (.obj 77 [.lst (ds.map dmC) .no,.lst (cs.map aB) .no,.lst (rs.map az) .no,.mp b1,.mp b2,.lst (X.map fun y=>[.ptr y.b 0]) o,.lst [] .full])) (b:=pp) (ys:=[.lst (ds.map dmC) .no,.lst (cs.map aB) .no,.lst (rs.map az) .no,.mp b1,.mp b2,.lst (X.map fun y=>[.ptr y.b 0]) .no,.lst [] .full]) (St.set_same _ _ _) rfl (fun j y hy=>by
    match j with
    |0=>simp at hy;subst hy;exact⟨_,rfl,Wk.refl _,id⟩
    |1=>simp at hy;subst hy;exact⟨_,rfl,Wk.refl _,id⟩
    |2=>simp at hy;subst hy;exact⟨_,rfl,Wk.refl _,id⟩
    |3=>simp at hy;subst hy;exact⟨_,rfl,Wk.refl _,id⟩
    |4=>simp at hy;subst hy;exact⟨_,rfl,Wk.refl _,id⟩
    |5=>simp at hy;subst hy;exact⟨_,rfl,Wk.lst _ _,id⟩
    |6=>simp at hy;subst hy;exact⟨_,rfl,Wk.refl _,id⟩
    |j+7=>simp at hy)
   rw[St.set_set]at hg
   refine nU (hg.trans (GS.of_fg (((Fg.own ho).set b1 _).set pp _))) ?_
   clear hg
   have hx3:(T.set b1 (.map (mpV bG (rlA cs)))) bx=.obj 26 [.lst (ds.map dmC) .no,.lst (cs.map aB) .no,.lst (rs.map az) .no]:=by rw[St.set_other _ _ (by assumption)];exact hx2
   have hz3:(T.set b1 (.map (mpV bG (rlA cs)))) b2=.map (mpV bG (szA ds)):=by rw[St.set_other _ _ (by assumption)];exact hz2
   have ha3:(T.set b1 (.map (mpV bG (rlA cs)))) b1=.map (mpV bG (rlA cs)):=St.set_same _ _ _
   have g33:(T.set b1 (.map (mpV bG (rlA cs)))) pp=.free:=by rw[St.set_other _ _ (by assumption)];exact g3
   have hXf:∀z,TbF X z→z≠b1∧z≠pp:=fun z hz=>⟨by rintro rfl;exact HT.out.live hz g1,by rintro rfl;exact HT.out.live hz g3⟩
   have hT3:TbsAt (T.set b1 (.map (mpV bG (rlA cs)))) X:=HT.out.keep fun z hz=>St.set_other _ _ (hXf z hz).1
   have hF3:Fg (T.set b1 (.map (mpV bG (rlA cs)))) t:=Fg.setA HF.out HP1.out
   have HXF:=Lib.hid hXf
   clear hx2 hz2 g1 g3 hTx hTz hox hoz HT HF hXf
   generalize T.set b1 (.map (mpV bG (rlA cs)))=T3 at *
   have HT:=Lib.hid hT3
   have HF:=Lib.hid hF3
   clear hT3 hF3 ho hom hop
   (repeat'(first|refine Ctl ?_|((with_reducible refine Kof.use hK ?_);clear hK hE K E)|((with_reducible refine aj (fun h=>?_) (fun h=>?_))<;>(try(exfalso;assumption)))|(((with_reducible refine ae fun K E hK hE=>?_))<;>(try simp(disch:=omega) only[go_sem,seval,hl2,hl3, *]))))
   generalize hLX:X.map (fun y=>[VV.ptr y.b 0])=L at *
   have HLX:=Lib.hid hLX
   clear e34 e35 e36 hLX
   refine eF (fun m env s'=>∃(i:Nat) (o:Own),i≤rs.length∧m+i=rs.length∧OwnOk T3 o i∧ax o pp ∧
    s'=(T3.own o 64 1 i).set pp (.obj 77 [.lst (ds.map dmC) .no,.lst (cs.map aB) .no,.lst (rs.map az) .no,.mp b1,.mp b2,.lst L .no,.lst ((varsL ⟨ds,cs,rs⟩ i).map fun v=>[.lst (aw v) .no]) o]) ∧
    env 1=.ptr bx 0∧env 3=.ptr pp 0∧env 62=.lst (rs.map az) .no∧env 63=.int .i64 rs.length∧env 64=.int .i64 i) rs.length ?_ ?_
   ·exact⟨_,GS.refl _,0,.full,by omega,by omega,cx,trivial,rfl,ab,ab,ab,ab,ab⟩
   clear e1 e3 env hm hi hlt m
   rintro m env s' ⟨i,o,hi,hm,ho,hop,rfl,e1,e3,e62,e63,e64⟩
   have hTx:T3 bx≠.free:=by rw[hx3];simp
   have hox:=ho.not hTx
   have hVl:((varsL ⟨ds,cs,rs⟩ i).map fun v=>[VV.lst (aw v) .no]).length=i:=by simp[varsL]
   by_cases hlt:i<rs.length
   ·have w2:=w1 (i:Int)
    have hV:(varsL ⟨ds,cs,rs⟩ (i+1)).map (fun v=>[VV.lst (aw v) .no])=(varsL ⟨ds,cs,rs⟩ i).map (fun v=>[VV.lst (aw v) .no])++[[.lst (aw (varsP ⟨ds,cs,rs⟩ (i:Int)).1.vs) .no]]:=by
     unfold varsL
     rw[List.range_succ,List.map_append,List.map_append]
     rfl
    have HV:=Lib.hid hV
    have h1y:∀y,y∈(varsL ⟨ds,cs,rs⟩ i).map (fun v=>[VV.lst (aw v) .no])→y.length=1:=fun y hy=>by
     obtain⟨q,_,rfl⟩:=List.mem_map.1 hy
     rfl
    simp only[yi]at w2
    clear hV w1
    generalize (varsP ⟨ds,cs,rs⟩ (i:Int))=q at *
    generalize (varsL ⟨ds,cs,rs⟩ i).map (fun v=>[VV.lst (aw v) .no])=M at *
    (repeat'(first|refine Ctl ?_|((with_reducible refine Kof.use hK ?_);clear hK hE K E)|((with_reducible refine aj (fun h=>?_) (fun h=>?_))<;>(try(exfalso;assumption)))|((first|(with_reducible first|refine ae fun K E hK hE=>?_|refine ak KZ (w2 _) ?_)|((with_reducible refine cB (fun o2 ho=>?_));(try simp(disch:=assumption) only[aJ,aM,aU,bP,List.length_map,List.length_cons,List.length_nil,Nat.zero_add,hl3,hVl]at ho);(repeat(obtain⟨_,ho⟩:=ho))))<;>(try simp(disch:=first|assumption|omega) only[go_sem,seval,hl3,hVl, *]))))
    exact⟨_,GS.refl _,m - 1,by omega,i+1,o2,by omega,by omega,ho,by assumption,by rw[HV.out],ab,ab,ab,ab,ab⟩
   ·obtain rfl:i=rs.length:=by omega
    have hg:=GS.wkobj (s:=(T3.own o 64 1 rs.length).set pp (.obj 77 [.lst (ds.map dmC) .no,.lst (cs.map aB) .no,.lst (rs.map az) .no,.mp b1,.mp b2,.lst L .no,.lst ((varsL ⟨ds,cs,rs⟩ rs.length).map fun v=>[.lst (aw v) .no]) o])) (b:=pp) (ys:=[.lst (ds.map dmC) .no,.lst (cs.map aB) .no,.lst (rs.map az) .no,.mp b1,.mp b2,.lst L .no,.lst ((varsL ⟨ds,cs,rs⟩ rs.length).map fun v=>[.lst (aw v) .no]) .no]) (St.set_same _ _ _) rfl (fun j y hy=>by
     match j with
     |0=>simp at hy;subst hy;exact⟨_,rfl,Wk.refl _,id⟩
     |1=>simp at hy;subst hy;exact⟨_,rfl,Wk.refl _,id⟩
     |2=>simp at hy;subst hy;exact⟨_,rfl,Wk.refl _,id⟩
     |3=>simp at hy;subst hy;exact⟨_,rfl,Wk.refl _,id⟩
     |4=>simp at hy;subst hy;exact⟨_,rfl,Wk.refl _,id⟩
     |5=>simp at hy;subst hy;exact⟨_,rfl,Wk.refl _,id⟩
     |6=>simp at hy;subst hy;exact⟨_,rfl,Wk.lst _ _,id⟩
     |j+7=>simp at hy)
    rw[St.set_set]at hg
    refine nU (hg.trans (GS.of_fg ((Fg.own ho).set pp _))) ?_
    clear hg
    generalize hM:(varsL ⟨ds,cs,rs⟩ rs.length).map (fun v=>[VV.lst (aw v) .no])=M at *
    have HMM:=Lib.hid hM
    clear hM
    (repeat'(first|refine Ctl ?_|((with_reducible refine Kof.use hK ?_);clear hK hE K E)|((with_reducible refine aj (fun h=>?_) (fun h=>?_))<;>(try(exfalso;assumption)))|(((with_reducible refine ae fun K E hK hE=>?_))<;>(try simp(disch:=omega) only[go_sem,seval,hl3, *]))))
    all_goals(refine ap DK hQ ?_)
    refine⟨_,_,Wk.refl _,Fg.refl _,pp,b1,b2,X,rfl,⟨?_,?_,?_,?_,fun z hz=>⟨(HXF.out z hz).2,(HXF.out z hz).1,(HD.out z hz).2.2⟩⟩,HL.out,Fg.setA HF.out HP.out,?_⟩
    ·rw[St.set_same,HLX.out,HMM.out]
    ·rw[St.set_other _ _ (by assumption)];exact ha3
    ·rw[St.set_other _ _ (by assumption)];exact hz3
    ·exact HT.out.keep fun z hz=>St.set_other _ _ (HXF.out z hz).2
    ·rintro z (rfl|rfl|rfl|hz)
     ·exact HP.out
     ·exact HP1.out
     ·exact HP2.out
     ·exact(HD.out z hz).1
end Go.Proofs.YteldpmgepfaiiaaGreatDoor
namespace Go.Proofs.YteldpmgepfaiiaaGreatDoor
open Go.RowKit
theorem mL {l:List (List Int)}{k:Nat}:(aD l).take k=aD (l.take k):=by simp[aD,List.map_take]
theorem mM {l:List (List Int)}{k:Nat}:(aD l).drop k=aD (l.drop k):=by simp[aD,List.map_drop]
theorem fq {l:List (List Int)}:∀y,y∈aD l→y.length=1:=fun y hy=>by
 obtain⟨q,_,rfl⟩:=List.mem_map.1 hy
 rfl
attribute [local go_sem] aN aX cG
set_option maxHeartbeats 8000000 in
theorem sT (l:List (List Int))(r:List Int)(o1:Own)(hl:iU l)(hr:r.length≤1000000000)(t:St):SRet Tryz.prog 77 [.lst (aD l) o1,.lst (ay r) .no] t (.lst (aD (putRow l r)) .no) t:=by
 have hl1:(aD l).length=l.length:=cL
 obtain⟨ha1,ha2⟩:=hl
 generalize hR:putRow l r=R
 have HR:=Lib.hid hR
 clear hR
 refine av Tryz.func77 rfl Tryz.ntmps77 rfl fun Q hQ hQe=>?_
 (repeat'(first|refine Ctl ?_|((with_reducible refine Kof.use hK ?_);clear hK hE K E)|(((with_reducible refine ae fun K E hK hE=>?_))<;>(try simp(disch:=omega) only[go_sem,seval,hl1, *]))))
 refine bi (fun m env s'=>∃(i:Nat),i≤l.length∧m+i=l.length∧Hid (∀(j:Nat) (a:List Int),j<i→l[j]?=some a→eJ a r=true)∧s'=t∧env 0=.lst (aD l) o1∧env 1=.lst (ay r) .no∧env 5=.int .i64 i) l.length
  ⟨0,by omega,by omega,Lib.hid (fun j a h=>by omega),rfl,ab,ab,ab⟩ ?_
 rintro m env s' ⟨i,hi,hm,HH,rfl,e0,e1,e5⟩
 by_cases h2:i<l.length
 ·obtain⟨x,hx⟩:∃x,l[i]?=some x:=⟨_,List.getElem?_eq_getElem (by omega)⟩
  have sx:=dP hx
  have hxm:=List.mem_of_getElem? hx
  have w1:=fun s=>jQ x r .no .no (by have:=ha2 x hxm;omega) (by omega) s
  have w2:=fun s=>Bq x r .no .no (ha2 x hxm) hr s
  cases hlx:eJ x r with
  |true=>
   have HT:∀(j:Nat) (a:List Int),j<i+1→l[j]?=some a→eJ a r=true:=fun j a hj ha=>by
    by_cases e:j=i
    ·subst e;rw[hx]at ha;injection ha with ha;subst ha;exact hlx
    ·exact HH.out j a (by omega) ha
   have HT2:=Lib.hid HT
   rw[hlx]at w2
   clear HT hx hxm hlx w1
   (repeat'(first|refine Ctl ?_|((with_reducible refine Kof.use hK ?_);clear hK hE K E)|((with_reducible refine aj (fun h=>?_) (fun h=>?_))<;>(try(exfalso;assumption)))|(((with_reducible first|refine ae fun K E hK hE=>?_|refine ak ss (w2 _) ?_))<;>(try simp(disch:=omega) only[go_sem,seval,hl1,sx, *]))))
   all_goals exact⟨m - 1,by omega,i+1,by omega,by omega,HT2,rfl,ab,ab,ab⟩
  |false=>
   have hsp:=gV (l:=l) (r:=r) i HH.out (fun a ha=>by rw[hx]at ha;injection ha with ha;subst ha;exact hlx) hi
   rw[hx]at hsp
   rw[hlx]at w2
   by_cases e:x=r
   ·rw[if_pos (by rw[e])]at hsp
    have hR:R=l:=HR.out.symm.trans hsp
    subst hR
    rw[show decide (x=r)=true by simp[e]]at w1
    clear hsp hx hxm hlx e
    (repeat'(first|refine Ctl ?_|((with_reducible refine Kof.use hK ?_);clear hK hE K E)|((with_reducible refine aj (fun h=>?_) (fun h=>?_))<;>(try(exfalso;assumption)))|(((with_reducible first|refine ae fun K E hK hE=>?_|refine ak ss (w2 _) ?_|refine ak py (w1 _) ?_))<;>(try simp(disch:=omega) only[go_sem,seval,hl1,sx, *]))))
    all_goals(refine ap ve hQ ?_)
    all_goals exact⟨_,_,Wk.lst _ _,Fg.refl _,rfl,rfl⟩
   ·rw[if_neg (by intro h;injection h with h;exact e h)]at hsp
    have hRV:aD R=aD (l.take i)++[bV r]::aD (l.drop i):=by rw[← HR.out,hsp,oM];rfl
    have HRV:=Lib.hid hRV
    rw[show decide (x=r)=false by simp[e]]at w1
    have hlt:(aD (l.take i)).length=i:=by rw[cL,List.length_take];omega
    have hld:(aD (l.drop i)).length=l.length - i:=by rw[cL,List.length_drop]
    have ht1:=fq (l:=l.take i)
    have hd1:=fq (l:=l.drop i)
    have hz:(0≤i∧∀x,x∈aD l→x.length=1)=True:=eq_true ⟨Nat.zero_le i,fq⟩
    have hz2:(l.length≤l.length∧∀x,x∈aD l→x.length=1)=True:=eq_true ⟨Nat.le_refl _,fq⟩
    have hla:(aD (l.take i)++[[VV.lst (ay r) .no]]).length=i+1:=by rw[List.length_append,hlt];rfl
    have hly:∀y,y∈aD (l.take i)++[[VV.lst (ay r) .no]]→y.length=1:=fun y hy=>by
     rcases List.mem_append.1 hy with h|h
     ·exact ht1 y h
     ·rw[List.mem_singleton]at h;subst h;rfl
    clear hsp hx hxm hlx e hRV
    (repeat'(first|refine Ctl ?_|((with_reducible refine Kof.use hK ?_);clear hK hE K E)|((with_reducible refine aj (fun h=>?_) (fun h=>?_))<;>(try(exfalso;assumption)))|((first|(with_reducible first|refine ae fun K E hK hE=>?_|refine ak ss (w2 _) ?_|refine ak py (w1 _) ?_)|((with_reducible refine cB (fun o2 ho=>?_));(try simp(disch:=assumption) only[aJ,aM,aU,bP,List.length_map,List.length_cons,List.length_nil,Nat.zero_add,hl1,sx,mL,mM,hlt,hld,hz,hz2,hla,List.take_length]at ho);(try(simp only[aN]at ho))))<;>(try simp(disch:=first|assumption|omega) only[go_sem,seval,hl1,sx,mL,mM,hlt,hld,hz,hz2,hla,List.take_length, *]))))
    all_goals(refine ap ve hQ ?_)
    all_goals(have hv:aD R=(aD (l.take i)++[[VV.lst (ay r) .no]])++aD (l.drop i):=by rw[HRV.out,List.append_assoc];rfl)
    all_goals rw[hv]
    all_goals exact⟨_,_,Wk.lst _ _,Fg.own ho,rfl,rfl⟩
 ·obtain rfl:i=l.length:=by omega
  have hsp:=gV (l:=l) (r:=r) l.length HH.out (fun a ha=>by simp at ha) (Nat.le_refl _)
  rw[if_neg (by simp),List.take_length,List.drop_length]at hsp
  have hRV:aD R=aD l++[[bV r]]:=by rw[← HR.out,hsp,oM];rfl
  have HRV:=Lib.hid hRV
  clear hsp hRV
  have ht1:=fq (l:=l)
  have hz:(0≤l.length∧∀x,x∈aD l→x.length=1)=True:=eq_true ⟨Nat.zero_le _,fq⟩
  have htk:(aD l).take l.length=aD l:=by rw[List.take_of_length_le (by rw[hl1];omega)]
  have hdk:(aD l).drop l.length=[]:=by rw[List.drop_of_length_le (by rw[hl1];omega)]
  have hla:(aD l++[[VV.lst (ay r) .no]]).length=l.length+1:=by rw[List.length_append,hl1];rfl
  have hly:∀y,y∈aD l++[[VV.lst (ay r) .no]]→y.length=1:=fun y hy=>by
   rcases List.mem_append.1 hy with h|h
   ·exact ht1 y h
   ·rw[List.mem_singleton]at h;subst h;rfl
  have hn0:∀y,y∈([]:List (List VV))→y.length=1:=fun y hy=>by cases hy
  (repeat'(first|refine Ctl ?_|((with_reducible refine Kof.use hK ?_);clear hK hE K E)|((with_reducible refine aj (fun h=>?_) (fun h=>?_))<;>(try(exfalso;assumption)))|((first|(with_reducible first|refine ae fun K E hK hE=>?_|refine gm ?_)|((with_reducible refine cB (fun o2 ho=>?_));(try simp(disch:=assumption) only[aJ,aM,aU,bP,List.length_map,List.length_cons,List.length_nil,Nat.zero_add,hl1,hz,htk,hdk,hla]at ho);(try(simp only[aN]at ho))))<;>(try simp(disch:=first|assumption|omega) only[go_sem,seval,hl1,hz,htk,hdk,hla, *]))))
  all_goals(refine ap ve hQ ?_)
  all_goals rw[HRV.out]
  all_goals exact⟨_,_,Wk.lst _ _,Fg.own ho,rfl,rfl⟩
end Go.Proofs.YteldpmgepfaiiaaGreatDoor
namespace Go.Proofs.YteldpmgepfaiiaaGreatDoor
open Go.RowKit
def ij (vars:List (List UInt8))(n:Nat)(ts:List Trm):Prop:=∀x,x∈ts→x.var=true→∃k,ixT x.nm vars=some k∧k<n
attribute [local go_sem] aN aX cG
theorem jM {vars:List (List UInt8)}{row:List Int}{ts:List Trm}{i:Nat}{x:Trm}(h:ts[i]?=some x):ay (aS vars row (ts.take (i+1)))=ay (aS vars row (ts.take i))++[[.int .i64 (eq vars row x)]]:=by
 rw[b9 h]
 simp[aS,ay]
set_option maxHeartbeats 8000000 in
theorem ww (vars:List (List UInt8))(row:List Int)(o1 oR:Own)(a:Atm)(hv:vars.length≤1000000000)(ha:a.ts.length≤1000000000)(hf:ij vars row.length a.ts)(t:St) :
  SRet Tryz.prog 56 [.lst (aw vars) o1,.lst (ay row) oR,.agg (aF a)] t (.lst (ay (aS vars row a.ts)) .no) t:=by
 obtain⟨nt,rl,ts⟩:=a
 simp only at ha hf ⊢
 have hl1:(ts.map aA).length=ts.length:=by simp
 have w1:=fun n s=>pF vars n o1 hv s
 simp only[aF]
 refine av Tryz.func56 rfl Tryz.ntmps56 rfl fun Q hQ hQe=>?_
 (repeat'(first|refine Ctl ?_|((with_reducible refine Kof.use hK ?_);clear hK hE K E)|((first|(with_reducible refine ae fun K E hK hE=>?_)|((with_reducible refine ao (fun b hb=>?_))))<;>(try simp(disch:=omega) only[go_sem,seval,hl1, *]))))
 obtain⟨bx,hbx⟩:∃x,x=b:=⟨_,rfl⟩
 subst hbx
 generalize hR:ay (aS vars row ts)=R
 have HR:=Lib.hid hR
 clear hR
 refine aI (fun m env s'=>∃(i:Nat) (o:Own),i≤ts.length∧m+i=ts.length∧OwnOk t o i∧ax o bx∧s'=(t.own o 3 1 i).set bx (.obj 40 [.bool nt,.str rl,.lst (ts.map aA) .no]) ∧
  env 0=.lst (aw vars) o1∧env 1=.lst (ay row) oR∧env 5=.ptr bx 0∧env 7=.lst (ay (aS vars row (ts.take i))) o∧env 8=.int .i64 i) ts.length ?_ ?_
 ·exact⟨_,Fg.refl _,0,.full,by omega,by omega,cx,trivial,rfl,ab,ab,ab,ab,ab⟩
 rintro m env s' ⟨i,o,hi,hm,ho,hno,rfl,e0,e1,e5,e7,e8⟩
 have hLl:(ay (aS vars row (ts.take i))).length=i:=by rw[bH,aS,List.length_map,List.length_take];omega
 have h1y:∀y,y∈ay (aS vars row (ts.take i))→y.length=1:=fun y hy=>by
  obtain⟨q,_,rfl⟩:=List.mem_map.1 hy
  rfl
 have hrl:(ay row).length=row.length:=bH
 by_cases hlt:i<ts.length
 ·obtain⟨x,hx⟩:=aO hlt
  have hsx:=c7 hx
  have hS:=jM (vars:=vars) (row:=row) hx
  have HS:=Lib.hid hS
  have hfx:=hf x (List.mem_of_getElem? hx)
  obtain⟨xv,xn,xz⟩:=x
  simp only[aA]at hsx
  clear hx hS
  generalize ay (aS vars row (ts.take i))=L at *
  cases xv with
  |true=>
   obtain⟨k,hk1,hk2⟩:=hfx rfl
   have hfz:fQ xn vars=(k:Int):=by simp[fQ,hk1]
   obtain⟨z,hz⟩:=aO hk2
   have hsz:=cq hz
   have htz:eq vars row ⟨true,xn,xz⟩=z:=by simp[eq,hk1,hz]
   have w2:=w1 xn
   rw[hfz]at w2
   rw[htz]at HS
   clear hfx hk1 hz hfz htz w1
   (repeat'(first|refine Ctl ?_|((with_reducible refine Kof.use hK ?_);clear hK hE K E)|((with_reducible refine aj (fun h=>?_) (fun h=>?_))<;>(try(exfalso;assumption)))|((first|(with_reducible first|refine ae fun K E hK hE=>?_|refine ak vY (w2 _) ?_)|((with_reducible refine cB (fun o2 ho=>?_));(try simp(disch:=assumption) only[aJ,aM,aU,bP,List.length_map,List.length_cons,List.length_nil,Nat.zero_add,hl1,hsx,hrl,hLl,hsz]at ho);(repeat(obtain⟨_,ho⟩:=ho))))<;>(try simp(disch:=first|assumption|omega) only[go_sem,seval,hl1,hsx,hrl,hLl,hsz, *]))))
   exact⟨_,Fg.refl _,m - 1,by omega,i+1,o2,by omega,by omega,ho,by assumption,rfl,ab,ab,ab,by rw[HS.out];((try simp(disch:=assumption) only[go_sem,seval, *])<;>rfl),ab⟩
  |false=>
   have htz:eq vars row ⟨false,xn,xz⟩=xz:=by simp[eq]
   rw[htz]at HS
   clear hfx htz w1
   (repeat'(first|refine Ctl ?_|((with_reducible refine Kof.use hK ?_);clear hK hE K E)|((with_reducible refine aj (fun h=>?_) (fun h=>?_))<;>(try(exfalso;assumption)))|((first|(with_reducible refine ae fun K E hK hE=>?_)|((with_reducible refine cB (fun o2 ho=>?_));(try simp(disch:=assumption) only[aJ,aM,aU,bP,List.length_map,List.length_cons,List.length_nil,Nat.zero_add,hl1,hsx,hrl,hLl]at ho);(repeat(obtain⟨_,ho⟩:=ho))))<;>(try simp(disch:=first|assumption|omega) only[go_sem,seval,hl1,hsx,hrl,hLl, *]))))
   exact⟨_,Fg.refl _,m - 1,by omega,i+1,o2,by omega,by omega,ho,by assumption,rfl,ab,ab,ab,by rw[HS.out];((try simp(disch:=assumption) only[go_sem,seval, *])<;>rfl),ab⟩
 ·obtain rfl:i=ts.length:=by omega
  rw[List.take_length,HR.out]at e7
  (repeat'(first|refine Ctl ?_|((with_reducible refine Kof.use hK ?_);clear hK hE K E)|((with_reducible refine aj (fun h=>?_) (fun h=>?_))<;>(try(exfalso;assumption)))|(((with_reducible refine ae fun K E hK hE=>?_))<;>(try simp(disch:=omega) only[go_sem,seval,hl1, *]))))
  all_goals(refine ap DD hQ ?_)
  all_goals exact⟨_,_,Wk.lst _ _,Fg.setA (Fg.own ho) hb,by rw[HR.out],rfl⟩
end Go.Proofs.YteldpmgepfaiiaaGreatDoor
namespace Go.Proofs.YteldpmgepfaiiaaGreatDoor
open Go.RowKit
def eA (vars:List (List UInt8)):List (List UInt8×Int):=dH (fun v:List UInt8=>v) (fun(i:Nat) (_:List UInt8)=>(i:Int)) 0 vars
def oF (vars:List (List UInt8)):List (List UInt8×Int):=fH (fun v:List UInt8=>v) (fun(i:Nat) (_:List UInt8)=>(i:Int)) 0 vars []
theorem yD {vars:List (List UInt8)}{i:Nat}{v:List UInt8}(h:vars[i]?=some v):oF (vars.take (i+1))=ptA v (i:Int) (oF (vars.take i)):=by
 unfold oF;rw[b9 h,i8,List.length_take,Nat.min_eq_left (Nat.le_of_lt (List.getElem?_eq_some_iff.1 h).1),Nat.zero_add]
theorem yC {vars:List (List UInt8)}(h:vars.Nodup):oF vars=eA vars:=by unfold oF eA;rw[eZ 0 vars [] (by simpa using h),List.nil_append]
theorem qV {vars:List (List UInt8)}(n:List UInt8):lkA n (eA vars)=Option.map (fun i:Nat=>(i:Int)) (ixT n vars):=by
 unfold eA
 rw[jb,List.map_id']
 cases h:ixT n vars with
 |none=>rfl
 |some j=>simp[cN h]
theorem my {vars:List (List UInt8)}{rv:List Int}{n:List UInt8}{c z:Int}{k:Nat}(h1:ixT n vars=some k)(h2:rv[k]?=some z):eq vars rv ⟨true,n,c⟩=z:=by simp[eq,h1,h2]
def co (l:List Bool):List VV:=l.map VV.bool
theorem fA {l:List Bool}:(co l).length=l.length:=by simp[co]
theorem sC {l:List Bool}{i:Nat}{n:Bool}(h:l[i]?=some n):(co l)[i]?=some (.bool n):=by simp[co,h]
theorem xN {n:Nat}:List.replicate n (VV.bool false)=co (List.replicate n false):=by simp[co]
theorem jg {l:List Bool}{i:Nat}{n:Bool}(h:i<l.length):(co l).take i++[.bool n]++(co l).drop (i+1)=co (l.set i n):=by
 have h1:co (l.set i n)=(co l).set i (.bool n):=by simp[co,List.map_set]
 rw[h1,List.set_eq_take_append_cons_drop,if_pos (by rw[fA];exact h),List.append_assoc]
 rfl
theorem zZ {l:List Int}{i:Nat}{n:Int}(h:i<l.length):(cQ l).take i++[.int .i64 n]++(cQ l).drop (i+1)=cQ (l.set i n):=by
 have h1:cQ (l.set i n)=(cQ l).set i (.int .i64 n):=by simp[cQ,List.map_set]
 rw[h1,List.set_eq_take_append_cons_drop,if_pos (by rw[nk];exact h),List.append_assoc]
 rfl
set_option maxHeartbeats 4000000 in
theorem uG (vars:List (List UInt8))(br bs rb sb:Nat)(rv:List Int)(x:Trm)(t:St)(h1:t br=.obj 48 [.msl rb rv.length])(h2:t rb=.obj 3 (cQ rv))(h3:t bs=.obj 73 [.mp sb])
  (h4:t sb=.map (mpV bG (eA vars))) (hf:x.var=true→∃k,ixT x.nm vars=some k∧k<rv.length) (hl:rv.length≤1000000000) :
  SRet Tryz.prog 79 [.agg (aA x),.ptr br 0,.ptr bs 0] t (.int .i64 (eq vars rv x)) t:=by
 obtain⟨xv,xn,xz⟩:=x
 have l1:t br≠.free:=by rw[h1];simp
 have l2:t rb≠.free:=by rw[h2];simp
 have l3:t bs≠.free:=by rw[h3];simp
 have l4:t sb≠.free:=by rw[h4];simp
 cases xv with
 |true=>
  obtain⟨k,hk1,hk2⟩:=hf rfl
  have hlk:lkA xn (eA vars)=some (k:Int):=by rw[qV,hk1];rfl
  obtain⟨z,hz⟩:=aO hk2
  have hrk:=CB hz
  rw[my hk1 hz]
  have hil:(cQ rv).length=rv.length:=nk
  clear hf hk1 hz
  simp only[aA]
  generalize eA vars=SL at *
  refine av Tryz.func79 rfl Tryz.ntmps79 rfl fun Q hQ hQe=>?_
  (repeat'(first|refine Ctl ?_|((with_reducible refine Kof.use hK ?_);clear hK hE K E)|((with_reducible refine aj (fun h=>?_) (fun h=>?_))<;>(try(exfalso;assumption)))|((first|(with_reducible first|refine ae fun K E hK hE=>?_|refine gm ?_)|((with_reducible refine ao (fun b hb=>?_));(try(obtain⟨_,_⟩:=nef hb l1;obtain⟨_,_⟩:=nef hb l2;obtain⟨_,_⟩:=nef hb l3;obtain⟨_,_⟩:=nef hb l4))))<;>(try simp(disch:=omega) only[go_sem,seval,hlk,hrk,hil,Option.getD_some, *]))))
  all_goals(refine ap yQ hQ ?_)
  all_goals(refine⟨_,_,Wk.of_eq ?_,?_,rfl,rfl⟩)
  all_goals first|rfl|(exact bj)
 |false=>
  rw[show eq vars rv ⟨false,xn,xz⟩=xz from rfl]
  clear hf
  simp only[aA]
  refine av Tryz.func79 rfl Tryz.ntmps79 rfl fun Q hQ hQe=>?_
  (repeat'(first|refine Ctl ?_|((with_reducible refine Kof.use hK ?_);clear hK hE K E)|((with_reducible refine aj (fun h=>?_) (fun h=>?_))<;>(try(exfalso;assumption)))|((first|(with_reducible refine ae fun K E hK hE=>?_)|((with_reducible refine ao (fun b hb=>?_))))<;>(try simp(disch:=omega) only[go_sem,seval, *]))))
  all_goals(refine ap yQ hQ ?_)
  all_goals(refine⟨_,_,Wk.of_eq ?_,?_,rfl,rfl⟩)
  all_goals first|rfl|(exact bj)
section
variable {P : Program} {N : Nat} {D : List Deferred} {c : Code} {k : List Itm} {Q : Pst} {env : Env} {s : St}
theorem Dr (t g n:Nat){T:TypeId}{xs:List VV}(hb:s g=.row T 1 xs)(ht:env t=.mrw g n)(hn:xs.length=n)
  (h:Kp P N D (.code c::k) Q .norm (upd env t (.lst (xs.map fun y=>[y]) .no)) (s.set g .free)):Kp P N D (.code c::k) Q .norm env s:=by
 intro w0 G w a hfr hD hS
 obtain⟨G',hle,hS',hK,_⟩:=hS.frzR hb
 refine wp_mono (h w0 G' w a ⟨hfr.size,fun i=>?_⟩ hD hS') fun e a w=>Up.back hle
 by_cases e:i=t
 ·subst e
  have hr:=(hfr.rel i).mono hle
  rw[ht]at hr
  simp only[upd,if_true]
  exact hr.frz hn hK
 ·simp only[upd,if_neg e]
  exact(hfr.rel i).mono hle
theorem yd (t:Nat)(ht:env t=.lst [] .full)(h:Kp P N D (.code c::k) Q .norm (upd env t (.raw (.slice none 0 0))) s):Kp P N D (.code c::k) Q .norm env s:=by
 refine nT t ht (fun G v hr=>?_) h
 cases hr with
 |emp a cap o ho=>
  rcases ho with ho|⟨_,rfl,rfl⟩
  ·cases ho
  ·exact .raw _
 |lst b off len cap sz xs o f hl hc hz h1 hK hR ho=>
  simp at hl
  subst hl
  rcases ho with ho|⟨_,_,h0⟩|⟨ho,_⟩
  ·cases ho
  ·omega
  ·cases ho
end
end Go.Proofs.YteldpmgepfaiiaaGreatDoor
