/- Walks of functions that the claim reaches, and plain facts of them. Conditions: those in the statements. -/
import Derived.Test.YtgdbgfjhenobdaaGreatDoorJmPkj
import Derived.Test.YtgdbgfjhenobdaaGreatDoorJmGpj
import Derived.Test.YtgdbgfjhenobdaaGreatDoorJmDefer
set_option linter.unusedSimpArgs false
set_option linter.unusedVariables false
set_option maxRecDepth 100000
namespace Go.Proofs.YtgdbgfjhenobdaaGreatDoor
open Go.RowKit
attribute [local go_sem] Ru_at Ru_mk2 Ru_free Ru_set Ru_gt Ru_dis Ru_own Ru_ok Ru_ownd
theorem uatoml_S (s:St)(r e b b2:Nat)(nt:Bool)(rel:List UInt8)(ow:Own)(L:List Sgn)(hG:GoodU L)(hL:L.length≤50000)(hb:s b=.free)(n1:¬ b=r)(n2:¬ b2=b)(n3:¬ b2=r)(h2:s b2=.obj 111 [.ptr r 0]) :
  SCalls Tryz.prog 81 [.ptr r 0,.fn 152 [.ptr b 0,.ptr b2 0],.lst [[.int .i64 1],[.int .i64 2]] ow] (Ru (s.set b (.obj 71 [.bool nt,.str rel,.lst [] .full])) r e L)
   (PQ (fun _=>.tup []) (fun xs L o'=>Ru (Am s b nt rel xs o') r e L) (fun xs _ o'=>AmC s b r b2 xs o') (fun L=>Ru s r e L) (listU e (termU e) [1,2] L)):=
 ulist_S (fun ts o=>Am s b nt rel ts o) (AmC s b r b2) s r e (termU e) 152 [.ptr b 0,.ptr b2 0] [1,2] ow (by decide) can152
  (fun ts o L hC hG hl=>uone_S s r e b b2 nt rel hb n1 n2 n3 h2 ts o L hC hG hl) (fun L x L' h=>termU_sub h)
  (fun ts o hC=>(Fg.of_set _ (by rw[own_rd hC.2.1];exact hb)).trans (Fg.own hC.1)) .full ⟨rfl,trivial,trivial,trivial⟩ L hG hL
set_option maxHeartbeats 2000000 in
theorem uatom_S (s:St)(r e:Nat)(L:List Sgn)(nt:Bool)(hG:GoodU L)(hL:L.length≤50000):SCalls Tryz.prog 128 [.ptr r 0,.bool nt] (Ru s r e L) (PW (fun a=>.agg (atmC a)) s r e (atomU e L nt)):=by
  have h1:=fun s=>uname_S s r e L
  generalize hres:atomU e L nt=res
  unfold atomU at hres
  cases hr:nameU e L with
  |error q=>
    rw[hr]at h1 hres
    have HR:=Lib.hid hres
    clear hr hres
    refine G_enter Tryz.func128 rfl Tryz.ntmps128 rfl fun Q hQ hQe=>?_
    (repeat'(first|refine Ctl ?_|((with_reducible refine Kof.use hK ?_);clear hK hE K E)|((with_reducible refine Eof.use hE ?_);(try clear hK hE K E))|((first|(with_reducible refine G_region fun K E hK hE=>?_)|((with_reducible refine call_pw can79 (h1 _) (fun a Lx h=>?_) (fun at_ er Lx h=>?_)))|((with_reducible refine W_fresh (fun b hb=>?_));(repeat(obtain⟨_,hb⟩:=hb))))<;>(try simp(disch:=first|assumption|omega) only[go_sem,seval, *]))))
    all_goals first
      |(cases h;done)
      | (refine G_pan hQ ?_
         cases h
         exact⟨Ru s r e _,z_fg,by rw[← show _=res from HR];exact⟨rfl,_,rfl⟩⟩)
  |ok q=>
    obtain⟨rel,L1⟩:=q
    obtain⟨hs1,hs2⟩:=nameU_sub hr
    have hG1:GoodU L1:=hG.sub hs2
    have hL1:L1.length≤50000:=by omega
    rw[hr]at h1 hres
    rw[bu_ok]at hres
    have h1r:=fun s=>(h1 s).ret
    clear h1 hr hs2
    refine G_enter Tryz.func128 rfl Tryz.ntmps128 rfl fun Q hQ hQe=>?_
    (repeat'(first|refine Ctl ?_|((with_reducible refine Kof.use hK ?_);clear hK hE K E)|((with_reducible refine Eof.use hE ?_);(try clear hK hE K E))|((first|(with_reducible first|refine G_region fun K E hK hE=>?_|refine call_ret can79 (h1r _) ?_)|((with_reducible refine call_pq can81 (uatoml_S _ _ _ _ _ _ _ _ _ hG1 hL1 (by simp(disch:=assumption) only[go_sem,seval, *]) (by assumption) (by assumption) (by assumption) (by simp(disch:=assumption) only[go_sem,seval, *])) (fun a Lx ix h hc=>?_) (fun at_ er Lx h=>?_))<;>(try(obtain⟨hO,hcb,hcr,hcb2⟩:=hc;simp(disch:=assumption) only[ownok_o]at hO;obtain⟨hq4,hq2,hO⟩:=hO)))|((with_reducible refine W_fresh (fun b hb=>?_));(repeat(obtain⟨_,hb⟩:=hb))))<;>(try simp(disch:=first|assumption|omega) only[go_sem,seval,Am, *]))))
    · (refine W_ret res128 hQ ?_)
      refine⟨.agg (atmC ⟨nt,rel,a⟩),Ru s r e Lx,Wk.agg ?_,?_,by rw[← hres,h,bu_ok];exact⟨rfl,rfl⟩⟩
      · simp only[atmC];(repeat(first|exact WkL.nil|apply WkL.same|apply WkL.lst))
      · refine Fg.ru ?_
        (exact z_fg)
    · refine G_pan hQ ?_
      exact⟨Ru s r e Lx,by refine Fg.ru ?_;(exact z_fg),by rw[← hres,h,bu_err];exact⟨rfl,_,rfl⟩⟩
end Go.Proofs.YtgdbgfjhenobdaaGreatDoor
namespace Go.Proofs.YtgdbgfjhenobdaaGreatDoor
open Go.RowKit
attribute [local go_sem] Ru_at Ru_mk2 Ru_free Ru_set Ru_gt Ru_dis Ru_own Ru_ok Ru_ownd
structure Rul where
 head:Atm
 body:List Atm
def rulC (x:Rul):List VV:=[.bool x.head.not,.str x.head.rel,.lst (x.head.ts.map trmC) .no,.lst (x.body.map atmC) .no]
def bodyGo (e:Nat):Nat→List Atm→List Sgn→PU (List Atm)
 |0,_,_=>.error (0,0)
 |f+1,out,L=>bu (roomU e L out.length 8 (nextB [1] L || isT L 0 [33])) fun _ L=>bu (atomU e (if isT L 0 [33]=true then L.tail else L) (isT L 0 [33])) fun a L=>if isT L 0 [44]=true then bodyGo e f (out++[a]) L.tail else .ok (out++[a],L)
def ruleU (e:Nat)(L:List Sgn):PU Rul:=
 bu (atomU e L false) fun h L=>bu (if isT L 0 [58,45]=true then bodyGo e (L.length+1) [] L.tail else .ok ([],L)) fun b L=>bu (mustU e L [46]) fun _ L=>.ok (⟨h,b⟩,L)
theorem listGo_sub {α:Type}{e:Nat}{one:List Sgn→PU α}{ks:List Int}(hone:∀L x L',one L=.ok (x,L')→L'.length<L.length∧∀y,y∈L'→y∈L) :
  ∀(f:Nat) (out:List α) (L:List Sgn) (xs:List α) (L':List Sgn),listGo e one ks f out L=.ok (xs,L')→L'.length<L.length∧∀y,y∈L'→y∈L
 |0,_,_,_,_,h=>by cases h
 |f+1,out,L,xs,L',h=>by
  simp only[listGo]at h
  cases h1:roomU e L out.length 8 (nextB ks L)with
  |error q=>rw[h1]at h;cases h
  |ok q=>
   obtain⟨u,L1⟩:=q
   obtain rfl:=roomU_inv h1
   rw[h1,bu_ok]at h
   cases h2:one L1 with
   |error q=>rw[h2]at h;cases h
   |ok q=>
    obtain⟨x,L2⟩:=q
    rw[h2,bu_ok]at h
    obtain⟨a1,a2⟩:=hone _ _ _ h2
    split at h
    ·obtain⟨b1,b2⟩:=listGo_sub hone f _ _ _ _ h
     refine⟨by rw[List.length_tail]at b1;omega,fun y hy=>a2 y (List.mem_of_mem_tail (b2 y hy))⟩
    ·injection h with h;injection h with _ h;subst h;exact⟨a1,a2⟩
theorem listU_sub {α:Type}{e:Nat}{one:List Sgn→PU α}{ks:List Int}(hone:∀L x L',one L=.ok (x,L')→L'.length<L.length∧∀y,y∈L'→y∈L){L L':List Sgn}{xs:List α}(h:listU e one ks L=.ok (xs,L')) :
  L'.length<L.length∧∀y,y∈L'→y∈L:=by
 unfold listU at h
 cases h1:mustU e L [40]with
 |error q=>rw[h1]at h;cases h
 |ok q=>
  obtain⟨u,L1⟩:=q
  obtain⟨rfl,_,a1⟩:=mustU_inv h1
  rw[h1,bu_ok]at h
  cases h2:listGo e one ks (L.tail.length+1) [] L.tail with
  |error q=>rw[h2]at h;cases h
  |ok q=>
   obtain⟨zs,L2⟩:=q
   obtain⟨b1,b2⟩:=listGo_sub hone _ _ _ _ _ h2
   rw[h2,bu_ok]at h
   cases h3:mustU e L2 [41]with
   |error q=>rw[h3]at h;cases h
   |ok q=>
    obtain⟨u,L3⟩:=q
    obtain⟨rfl,_,c1⟩:=mustU_inv h3
    rw[h3,bu_ok]at h
    injection h with h;injection h with _ h;subst h
    exact⟨by omega,fun y hy=>List.mem_of_mem_tail (b2 y (List.mem_of_mem_tail hy))⟩
theorem atomU_sub {e:Nat}{L L':List Sgn}{nt:Bool}{a:Atm}(h:atomU e L nt=.ok (a,L')):L'.length<L.length∧∀y,y∈L'→y∈L:=by
 unfold atomU at h
 cases h1:nameU e L with
 |error q=>rw[h1]at h;cases h
 |ok q=>
  obtain⟨t,L1⟩:=q
  obtain⟨a1,a2⟩:=nameU_sub h1
  rw[h1,bu_ok]at h
  cases h2:listU e (termU e) [1,2] L1 with
  |error q=>rw[h2]at h;cases h
  |ok q=>
   obtain⟨ts,L2⟩:=q
   obtain⟨b1,b2⟩:=listU_sub (fun L x L' h=>termU_sub h) h2
   rw[h2,bu_ok]at h
   injection h with h;injection h with _ h;subst h
   exact⟨by omega,fun y hy=>a2 y (b2 y hy)⟩
abbrev Rm (s:St)(b:Nat)(h:Atm)(bd:List Atm)(o:Own):St:=(s.own o 71 3 bd.length).set b (.obj 74 [.bool h.not,.str h.rel,.lst (h.ts.map trmC) .no,.lst (bd.map atmC) o])
theorem next1_S (s:St)(r e:Nat)(L:List Sgn)(o:Own):SRet Tryz.prog 83 [.ptr r 0,.lst [[.int .i64 1]] o] (Ru s r e L) (.bool (nextB [1] L)) (Ru s r e L):=unext_S s r e L [1] o (by decide)
theorem room8_S (s:St)(r e:Nat)(L:List Sgn)(hv:Nat)(b:Bool):SCalls Tryz.prog 77 [.ptr r 0,.int .i64 hv,.int .i64 8,.bool b] (Ru s r e L) (PW unitV s r e (roomU e L hv 8 b)):=uroom_S s r e L hv 8 b
set_option maxHeartbeats 4000000 in
theorem urule_S (s:St)(r e:Nat)(L:List Sgn)(hG:GoodU L)(hL:L.length≤40000):SCalls Tryz.prog 84 [.ptr r 0] (Ru s r e L) (PW (fun x=>.agg (rulC x)) s r e (ruleU e L)):=by
  have h1:=fun s=>uatom_S s r e L false hG (by omega)
  generalize hres:ruleU e L=res
  unfold ruleU at hres
  cases hr:atomU e L false with
  |error q=>
    rw[hr]at h1 hres
    have HR:=Lib.hid hres
    clear hr hres
    refine G_enter Tryz.func84 rfl Tryz.ntmps84 rfl fun Q hQ hQe=>?_
    (repeat'(first|refine Ctl ?_|((with_reducible refine Kof.use hK ?_);clear hK hE K E)|((with_reducible refine Eof.use hE ?_);(try clear hK hE K E))|((first|(with_reducible refine G_region fun K E hK hE=>?_)|((with_reducible refine call_pw can128 (h1 _) (fun a Lx h=>?_) (fun at_ er Lx h=>?_)))|((with_reducible refine W_fresh (fun b hb=>?_));(repeat(obtain⟨_,hb⟩:=hb))))<;>(try simp(disch:=first|assumption|omega) only[go_sem,seval, *]))))
    all_goals first
      |(cases h;done)
      | (refine G_pan hQ ?_
         cases h
         exact⟨Ru s r e _,z_fg,by rw[← show _=res from HR];exact⟨rfl,_,rfl⟩⟩)
  |ok q=>
    obtain⟨hd,L1⟩:=q
    obtain⟨hs1,hs2⟩:=atomU_sub hr
    have hG1:GoodU L1:=hG.sub hs2
    rw[hr]at h1 hres
    rw[bu_ok]at hres
    have h1r:=fun s=>(h1 s).ret
    clear h1 hr hs2
    obtain⟨hn,hrel,hts⟩:=hd
    simp only[atmC]at h1r
    have h2:=fun s=>ugiven_S s r e L1 [58,45]
    have HR:=Lib.hid hres
    cases hi:isT L1 0 [58,45]with
    |false=>
      rw[hi]at hres h2
      simp only[Bool.false_eq_true,if_false,bu_ok]at hres h2
      have h3:=fun s=>umust_S s r e L1 [46]
      have HR:=Lib.hid hres
      clear hres
      refine G_enter Tryz.func84 rfl Tryz.ntmps84 rfl fun Q hQ hQe=>?_
      (repeat'(first|refine Ctl ?_|((with_reducible refine Kof.use hK ?_);clear hK hE K E)|((with_reducible refine Eof.use hE ?_);(try clear hK hE K E))|((with_reducible refine W_cond (fun h=>?_) (fun h=>?_))<;>(try(exfalso;assumption)))|((first|(with_reducible first|refine G_region fun K E hK hE=>?_|refine call_ret can128 (h1r _) ?_|refine call_ret can125 (h2 _) ?_)|((with_reducible refine call_pw can78 (h3 _) (fun a Lx h=>?_) (fun at_ er Lx h=>?_)))|((with_reducible refine W_fresh (fun b hb=>?_));(repeat(obtain⟨_,hb⟩:=hb))))<;>(try simp(disch:=first|assumption|omega) only[go_sem,seval, *]))))
      · (refine W_ret res84 hQ ?_)
        refine⟨.agg (rulC ⟨⟨hn,hrel,hts⟩,[]⟩),Ru s r e Lx,Wk.agg ?_,?_,by rw[← show _=res from HR,h,bu_ok];exact⟨rfl,rfl⟩⟩
        · simp only[rulC,List.map_nil];(repeat(first|exact WkL.nil|apply WkL.same|apply WkL.lst))
        · (exact z_fg)
      · refine G_pan hQ ?_
        exact⟨Ru s r e Lx,z_fg,by rw[← show _=res from HR,h,bu_err];exact⟨rfl,_,rfl⟩⟩
    |true=>
      rw[hi]at hres h2
      simp only[if_true]at hres h2
      have hG2:GoodU L1.tail:=hG1.tail
      have hl2:L1.tail.length<L1.length:=by
        cases L1 with
        |nil=>simp[isT]at hi
        |cons x L=>simp
      have HR:=Lib.hid hres
      clear hres hi
      refine G_enter Tryz.func84 rfl Tryz.ntmps84 rfl fun Q hQ hQe=>?_
      (repeat'(first|refine Ctl ?_|((with_reducible refine Kof.use hK ?_);clear hK hE K E)|((with_reducible refine W_cond (fun h=>?_) (fun h=>?_))<;>(try(exfalso;assumption)))|((first|(with_reducible first|refine G_region fun K E hK hE=>?_|refine call_ret can128 (h1r _) ?_|refine call_ret can125 (h2 _) ?_)|((with_reducible refine W_fresh (fun b hb=>?_));(repeat(obtain⟨_,hb⟩:=hb))))<;>(try simp(disch:=first|assumption|omega) only[go_sem,seval, *]))))
      rename_i b2 q1 q2 hb2 q3 q4 q5 q6
      have hDb:(s.set b2 (.obj 74 [.bool false,.str [],.lst [] .full,.lst [] .full])) b=.free:=by rw[St.set_other _ _ q5];exact hb
      have hD2:=St.set_same s b2 (.obj 74 [.bool false,.str [],.lst [] .full,.lst [] .full])
      have hFD:Fg (s.set b2 (.obj 74 [.bool false,.str [],.lst [] .full,.lst [] .full])) s:=Fg.of_set _ hb2
      generalize s.set b2 (.obj 74 [.bool false,.str [],.lst [] .full,.lst [] .full])=D at *
      have HFD:=Lib.hid hFD
      have hD2n:D b2≠.free:=by rw[hD2];simp
      have HB2:=Lib.hid hb2
      clear hFD h2 hb hb2
      refine L_loop (fun m env s'=>∃(bd:List Atm) (o:Own) (L2:List Sgn) (okb:Bool),OwnOk D o bd.length∧NotOwn o b∧NotOwn o r∧GoodU L2∧L2.length<m∧bd.length+L2.length≤50000∧s'=Ru (Rm D b ⟨hn,hrel,hts⟩ bd o) r e L2 ∧
        res=bu (if okb=true then bodyGo e m bd L2 else .ok (bd,L2)) (fun b L=>bu (mustU e L [46]) fun _ L=>.ok (⟨⟨hn,hrel,hts⟩,b⟩,L))∧env 0=.ptr r 0∧env 2=.ptr b2 0∧env 3=.ptr b 0∧env 4=.bool okb) (L1.length+1)
        ⟨[],.full,L1.tail,true,rfl,trivial,trivial,hG2,by omega,by simp;omega,rfl,HR.symm,z_sl,z_sl,z_sl,z_sl⟩ ?_
      rintro m env s' ⟨bd,o,L2,okb,hO,ho1,ho2,hG3,hm,hlen,rfl,hgo,e0,e2,e3,e4⟩
      clear HR hG2 hl2 hs1 hG1
      have ho3:=hO.not hD2n
      have hbm:(bd.map atmC).length=bd.length:=by simp
      have hfg:Fg (Rm D b ⟨hn,hrel,hts⟩ bd o) s:=((Fg.of_set _ (by rw[own_rd ho1];exact hDb)).trans (Fg.own hO)).trans HFD
      have HF:=Lib.hid hfg
      clear hfg
      cases okb with
      |false=>
        rw[if_neg (by decide),bu_ok]at hgo
        have h3:=fun s=>umust_S s r e L2 [46]
        have HG:=Lib.hid hgo
        clear hgo
        (repeat'(first|refine Ctl ?_|((with_reducible refine Kof.use hK ?_);clear hK hE K E)|((with_reducible refine Eof.use hE ?_);(try clear hK hE K E))|((with_reducible refine W_cond (fun h=>?_) (fun h=>?_))<;>(try(exfalso;assumption)))|((first|(with_reducible refine G_region fun K E hK hE=>?_)|((with_reducible refine call_pw can78 (h3 _) (fun a Lx h=>?_) (fun at_ er Lx h=>?_))))<;>(try simp(disch:=first|assumption|omega) only[go_sem,seval,hbm,Rm, *]))))
        · (refine W_ret res84 hQ ?_)
          refine⟨.agg (rulC ⟨⟨hn,hrel,hts⟩,bd⟩),Ru s r e Lx,Wk.agg ?_,?_,by rw[show res=_ from HG,h,bu_ok];exact⟨rfl,rfl⟩⟩
          · simp only[rulC];(repeat(first|exact WkL.nil|apply WkL.same|apply WkL.lst))
          · exact Fg.ru (Fg.setA HF HB2)
        · refine G_pan hQ ?_
          exact⟨Ru s r e Lx,Fg.ru HF,by rw[show res=_ from HG,h,bu_err];exact⟨rfl,_,rfl⟩⟩
      |true=>
        obtain⟨g,rfl⟩:∃g,m=g+1:=⟨m - 1,by omega⟩
        rw[if_pos rfl,bodyGo,bu_assoc]at hgo
        have h7:=fun s ow=>next1_S s r e L2 ow
        have h8:=fun s=>uis_S s r e L2 [33]
        have h5:=fun s=>ugiven_S s r e L2 [33]
        obtain⟨nt,hnt⟩:∃nt,isT L2 0 [33]=nt:=⟨_,rfl⟩
        obtain⟨nb,hnb⟩:∃nb,nextB [1] L2=nb:=⟨_,rfl⟩
        obtain⟨L4,hL4⟩:∃L4,(if isT L2 0 [33]=true then L2.tail else L2)=L4:=⟨_,rfl⟩
        have hG4:GoodU L4:=by rw[← hL4];split;exact hG3.tail;exact hG3
        have hl4:L4.length≤L2.length:=by rw[← hL4];split<;>(try simp only[List.length_tail])<;>omega
        have hl4':L4.length≤50000:=by omega
        have h4:=fun s=>uatom_S s r e L4 nt hG4 hl4'
        have h3:=fun s=>room8_S s r e L2 bd.length (nb || nt)
        rw[hnb,hnt]at hgo
        rw[hnb]at h7
        rw[hnt]at h8
        rw[hL4,hnt]at h5
        cases hr2:roomU e L2 bd.length 8 (nb || nt)with
        |error q=>
          rw[hr2]at h3 hgo
          have HG:=Lib.hid hgo
          clear hgo hr2 hL4 hnb hnt
          cases nb
          all_goals
            simp only[Bool.true_or,Bool.false_or]at h3
            (repeat'(first|refine Ctl ?_|((with_reducible refine Kof.use hK ?_);clear hK hE K E)|((with_reducible refine Eof.use hE ?_))|(with_reducible first|(refine Kof.use hKh ?_;clear hKh Kh)|(refine Kof.use hKb (P_next ?_);clear hKb Kb)|refine G_plan 6 [([0,1,2,3,4,5],6,[[0,1,2,3]]),([7,8],9,[[],[0,1,2,3]]),([10],11,[[],[],[]])] [] hQe fun K E hK hE=>?_|refine G_plan 7 [([0,1,2,3],4,[[0,1,2]]),([],5,[[],[0,1]]),([6],7,[[],[],[]]),([8],9,[[],[],[],[]])] [] hQe fun K E hK hE=>?_)|((with_reducible refine W_cond (fun h=>?_) (fun h=>?_))<;>(try(exfalso;assumption)))|((first|(with_reducible first|refine G_region fun K E hK hE=>?_|refine call_ret can83 (h7 _ _) ?_|refine call_ret can76 (h8 _) ?_|refine P_heads fun Kh hKh=>?_|refine P_fin fun Kh hKh=>?_|refine P_each fun Kb hKb=>?_)|((with_reducible refine call_pw can77 (h3 _) (fun a Lx h=>?_) (fun at_ er Lx h=>?_))))<;>(try simp(disch:=first|assumption|omega) only[go_sem,seval,hbm,Rm, *]))))
          all_goals first
            |(cases h;done)
            | (refine G_pan hQ ?_
               cases h
               exact⟨Ru s r e _,Fg.ru HF,by rw[show res=_ from HG];exact⟨rfl,_,rfl⟩⟩)
        |ok q=>
          obtain⟨u,L3⟩:=q
          obtain rfl:=roomU_inv hr2
          rw[hr2]at h3 hgo
          rw[bu_ok,bu_assoc,hL4,hnt]at hgo
          have h3r:=fun s=>(h3 s).ret
          clear hr2 hL4 h3 hnb hnt
          cases ha:atomU e L4 nt with
          |error q=>
            rw[ha]at h4 hgo
            have HG:=Lib.hid hgo
            clear hgo ha
            cases nb
            all_goals
              simp only[Bool.true_or,Bool.false_or]at h3r
              (repeat'(first|refine Ctl ?_|((with_reducible refine Kof.use hK ?_);clear hK hE K E)|((with_reducible refine Eof.use hE ?_))|(with_reducible first|(refine Kof.use hKh ?_;clear hKh Kh)|(refine Kof.use hKb (P_next ?_);clear hKb Kb)|refine G_plan 6 [([0,1,2,3,4,5],6,[[0,1,2,3]]),([7,8],9,[[],[0,1,2,3]]),([10],11,[[],[],[]])] [] hQe fun K E hK hE=>?_|refine G_plan 7 [([0,1,2,3],4,[[0,1,2]]),([],5,[[],[0,1]]),([6],7,[[],[],[]]),([8],9,[[],[],[],[]])] [] hQe fun K E hK hE=>?_)|((with_reducible refine W_cond (fun h=>?_) (fun h=>?_))<;>(try(exfalso;assumption)))|((first|(with_reducible first|refine G_region fun K E hK hE=>?_|refine call_ret can77 (h3r _) ?_|refine call_ret can83 (h7 _ _) ?_|refine call_ret can76 (h8 _) ?_|refine call_ret can125 (h5 _) ?_|refine P_heads fun Kh hKh=>?_|refine P_fin fun Kh hKh=>?_|refine P_each fun Kb hKb=>?_)|((with_reducible refine call_pw can128 (h4 _) (fun a Lx h=>?_) (fun at_ er Lx h=>?_))))<;>(try simp(disch:=first|assumption|omega) only[go_sem,seval,hbm,Rm, *]))))
            all_goals first
              |(cases h;done)
              | (refine G_pan hQ ?_
                 cases h
                 exact⟨Ru s r e _,Fg.ru HF,by rw[show res=_ from HG];exact⟨rfl,_,rfl⟩⟩)
          |ok q=>
            obtain⟨a,L5⟩:=q
            obtain⟨hs5,hs6⟩:=atomU_sub ha
            have hG5:=hG4.sub hs6
            obtain⟨an,ar,ats⟩:=a
            rw[ha]at h4 hgo
            rw[bu_ok]at hgo
            have h4r:=fun s=>(h4 s).ret
            simp only[atmC]at h4r
            have h6:=fun s=>ugiven_S s r e L5 [44]
            have HG:=Lib.hid hgo
            clear hgo ha h4 hs6
            cases nb
            all_goals
              simp only[Bool.true_or,Bool.false_or]at h3r
              (repeat'(first|refine Ctl ?_|(with_reducible first|(refine Kof.use hK ?_;clear hK hE K E)|(refine Kof.use hKh ?_;clear hKh Kh)|(refine Kof.use hKb (P_next ?_);clear hKb Kb)|refine G_plan 6 [([0,1,2,3,4,5],6,[[0,1,2,3]]),([7,8],9,[[],[0,1,2,3]]),([10],11,[[],[],[]])] [] hQe fun K E hK hE=>?_|refine G_plan 7 [([0,1,2,3],4,[[0,1,2]]),([],5,[[],[0,1]]),([6],7,[[],[],[]]),([8],9,[[],[],[],[]])] [] hQe fun K E hK hE=>?_)|((with_reducible refine W_cond (fun h=>?_) (fun h=>?_))<;>(try(exfalso;assumption)))|((first|(with_reducible first|refine G_region fun K E hK hE=>?_|refine call_ret can77 (h3r _) ?_|refine call_ret can83 (h7 _ _) ?_|refine call_ret can76 (h8 _) ?_|refine call_ret can125 (h5 _) ?_|refine call_ret can125 (h6 _) ?_|refine call_ret can128 (h4r _) ?_|refine P_heads fun Kh hKh=>?_|refine P_fin fun Kh hKh=>?_|refine P_each fun Kb hKb=>?_)|((with_reducible refine W_app (fun o2 ho=>?_));(try simp(disch:=assumption) only[disown_set,disown_own,ownok_o,ownok_m,List.length_map,List.length_cons,List.length_nil,Nat.zero_add,hbm,Rm,Ru_ok,Ru_dis,Ru_own,Ru_ownd]at ho);(repeat(obtain⟨_,ho⟩:=ho))))<;>(try simp(disch:=first|assumption|omega) only[go_sem,seval,hbm,Rm,Ru_ok,Ru_dis,Ru_own,Ru_ownd, *]))))
            all_goals exact⟨g,by omega,bd++[⟨an,ar,ats⟩],o2,if isT L5 0 [44]=true then L5.tail else L5,isT L5 0 [44],by simpa using ho,by assumption,by assumption,by(split;exact hG5.tail;exact hG5),by(split<;>(try simp only[List.length_tail])<;>omega),
              by(simp only[List.length_append,List.length_cons,List.length_nil];split<;>(try simp only[List.length_tail])<;>omega),by simp[Rm,atmC],by(rw[show res=_ from HG];cases isT L5 0 [44]<;>rfl),z_sl,z_sl,z_sl,z_sl⟩
end Go.Proofs.YtgdbgfjhenobdaaGreatDoor
namespace Go.Proofs.YtgdbgfjhenobdaaGreatDoor
open Go.RowKit
attribute [local go_sem] Ru_at Ru_mk2 Ru_free Ru_set Ru_gt Ru_dis Ru_own Ru_ok Ru_ownd
abbrev Dc (s:St)(b:Nat)(nm:List UInt8)(ts:List (List UInt8))(o:Own):St:=(s.own o 9 1 ts.length).set b (.obj 67 [.str nm,.lst (strs ts) o])
def DcC (s:St)(b r b2:Nat)(ts:List (List UInt8))(o:Own):Prop:=OwnOk s o ts.length∧NotOwn o b∧NotOwn o r∧NotOwn o b2
set_option maxHeartbeats 2000000 in
theorem udom_S (s:St)(r e b b2:Nat)(nm:List UInt8)(hb:s b=.free)(n1:¬ b=r)(n2:¬ b2=b)(n3:¬ b2=r)(h2:s b2=.obj 111 [.ptr r 0])
    (ts:List (List UInt8)) (o:Own) (L:List Sgn) (hC:DcC s b r b2 ts o) (hl:ts.length≤100000) :
    SCalls Tryz.prog 82 [.ptr b 0,.ptr b2 0] (Ru (Dc s b nm ts o) r e L)
      (PQ (fun _=>.tup []) (fun x L o'=>Ru (Dc s b nm (ts++[x]) o') r e L) (fun x _ o'=>DcC s b r b2 (ts++[x]) o') (fun L=>Ru s r e L) (nameU e L)):=by
  obtain⟨hO,q1,q2,q3⟩:=hC
  have h1:=fun s=>uname_S s r e L
  have hm:(strs ts).length=ts.length:=by simp[strs]
  have hfg:Fg (Dc s b nm ts o) s:=(Fg.of_set _ (by rw[own_rd q1];exact hb)).trans (Fg.own hO)
  have HF:=Lib.hid hfg
  clear hfg
  cases hr:nameU e L with
  |error q=>
    rw[hr]at h1
    clear hr
    refine G_enter Tryz.func82 rfl Tryz.ntmps82 rfl fun Q hQ hQe=>?_
    (repeat'(first|((with_reducible refine Eof.use hE ?_))|(with_reducible first|(refine Kof.use hKh ?_;clear hKh Kh)|(refine Kof.use hKb (P_next ?_);clear hKb Kb)|refine G_plan 0 [([0,1,2],3,[[0,1]]),([4],5,[[],[]]),([6],7,[[],[],[]])] [] hQe fun K E hK hE=>?_)|((first|(with_reducible first|refine P_heads fun Kh hKh=>?_|refine P_each fun Kb hKb=>?_)|((with_reducible refine call_pw can79 (h1 _) (fun a Lx h=>?_) (fun at_ er Lx h=>?_)))|((with_reducible refine W_app (fun o2 ho=>?_));(try simp(disch:=assumption) only[disown_set,disown_own,ownok_o,ownok_m,List.length_map,List.length_cons,List.length_nil,Nat.zero_add,hm]at ho)))<;>(try simp(disch:=first|assumption|omega) only[go_sem,seval,hm, *]))))
    all_goals first
      |(cases h;done)
      | (refine G_pan hQ ?_
         cases h
         exact⟨_,Fg.ru HF,rfl,_,rfl⟩)
  |ok q=>
    obtain⟨x,L'⟩:=q
    rw[hr]at h1
    have h1r:=fun s=>(h1 s).ret
    clear hr h1
    refine G_enter Tryz.func82 rfl Tryz.ntmps82 rfl fun Q hQ hQe=>?_
    (repeat'(first|(with_reducible first|(refine Kof.use hK ?_;clear hK hE K E)|(refine Kof.use hKh ?_;clear hKh Kh)|(refine Kof.use hKb (P_next ?_);clear hKb Kb)|refine G_plan 0 [([0,1,2],3,[[0,1]]),([4],5,[[],[]]),([6],7,[[],[],[]])] [] hQe fun K E hK hE=>?_)|((first|(with_reducible first|refine call_ret can79 (h1r _) ?_|refine P_heads fun Kh hKh=>?_|refine P_fin fun Kh hKh=>?_|refine P_each fun Kb hKb=>?_)|((with_reducible refine W_app (fun o2 ho=>?_));(try simp(disch:=assumption) only[disown_set,disown_own,ownok_o,ownok_m,List.length_map,List.length_cons,List.length_nil,Nat.zero_add,hm,Ru_ok,Ru_dis,Ru_own,Ru_ownd]at ho);(repeat(obtain⟨_,ho⟩:=ho))))<;>(try simp(disch:=first|assumption|omega) only[go_sem,seval,hm,Ru_ok,Ru_dis,Ru_own,Ru_ownd, *]))))
    all_goals(refine W_norm res82 hQ ?_)
    all_goals exact⟨_,_,Wk.refl _,Fg.refl _,rfl,o2,by simp[Dc,strs],by simpa using ho,by assumption,by assumption,ho.not (by rw[h2];simp)⟩
theorem udoms_S (s:St)(r e b b2:Nat)(nm:List UInt8)(ow:Own)(L:List Sgn)(hG:GoodU L)(hL:L.length≤50000)(hb:s b=.free)(n1:¬ b=r)(n2:¬ b2=b)(n3:¬ b2=r)(h2:s b2=.obj 111 [.ptr r 0]) :
  SCalls Tryz.prog 81 [.ptr r 0,.fn 82 [.ptr b 0,.ptr b2 0],.lst [[.int .i64 1]] ow] (Ru (s.set b (.obj 67 [.str nm,.lst [] .full])) r e L)
   (PQ (fun _=>.tup []) (fun xs L o'=>Ru (Dc s b nm xs o') r e L) (fun xs _ o'=>DcC s b r b2 xs o') (fun L=>Ru s r e L) (listU e (nameU e) [1] L)):=
 ulist_S (fun ts o=>Dc s b nm ts o) (DcC s b r b2) s r e (nameU e) 82 [.ptr b 0,.ptr b2 0] [1] ow (by decide) can82
  (fun ts o L hC hG hl=>udom_S s r e b b2 nm hb n1 n2 n3 h2 ts o L hC hl) (fun L x L' h=>nameU_sub h)
  (fun ts o hC=>(Fg.of_set _ (by rw[own_rd hC.2.1];exact hb)).trans (Fg.own hC.1)) .full ⟨rfl,trivial,trivial,trivial⟩ L hG hL
structure Dm where
 name:List UInt8
 size:Int
def dmC (d:Dm):List VV:=[.str d.name,.int .i64 d.size]
structure Dcl where
 name:List UInt8
 doms:List (List UInt8)
def dclC (d:Dcl):List VV:=[.str d.name,.lst (strs d.doms) .no]
structure Pgm where
 doms:List Dm
 decls:List Dcl
 rules:List Rul
def pgC (x:Pgm):List VV:=[.lst (x.doms.map dmC) .no,.lst (x.decls.map dclC) .no,.lst (x.rules.map rulC) .no]
abbrev rsP:List (Nat×TypeId×Nat):=[(0,57,2),(1,67,2),(2,74,4)]
abbrev Pg (s:St)(p r e:Nat)(x:Pgm)(L:List Sgn):St:=Ru (s.set p (.pk 33 (pgC x) rsP)) r e L
def domU (e:Nat)(x:Pgm)(L:List Sgn):PU Pgm:=
 bu (roomU e L x.doms.length 32 true) fun _ L=>bu (mustU e L [100,111,109]) fun _ L=>bu (nameU e L) fun n L=>bu (numU e L) fun z L=>bu (mustU e L [46]) fun _ L=>.ok (⟨x.doms++[⟨n,(z:Nat)⟩],x.decls,x.rules⟩,L)
def relU (e:Nat)(x:Pgm)(L:List Sgn):PU Pgm:=
 bu (roomU e L x.decls.length 32 true) fun _ L=>bu (mustU e L [114,101,108]) fun _ L=>bu (nameU e L) fun n L=>bu (listU e (nameU e) [1] L) fun ds L=>bu (mustU e L [46]) fun _ L=>.ok (⟨x.doms,x.decls++[⟨n,ds⟩],x.rules⟩,L)
def rulU (e:Nat)(x:Pgm)(L:List Sgn):PU Pgm:=
 bu (roomU e L x.rules.length 64 (nextB [1] L)) fun _ L=>bu (ruleU e L) fun y L=>.ok (⟨x.doms,x.decls,x.rules++[y]⟩,L)
def itemU (e:Nat)(x:Pgm)(L:List Sgn):PU Pgm:=if isT L 0 [100,111,109]=true then domU e x L else if isT L 0 [114,101,108]=true then relU e x L else rulU e x L
theorem Ru_unpk {s:St}{p r e T' sz n:Nat}{L:List Sgn}{o:Own}{c c':Cell}(hpr:¬ p=r)(ho:NotOwn o p)(hr:NotOwn o r) :
  ((Ru (s.set p c) r e L).own o T' sz n).set p c'=Ru ((s.own o T' sz n).set p c') r e L:=by
 rw[Ru_own hr,own_push ho,Ru_set (by simp[hpr]),St.set_set]
theorem Ru_pack {s:St}{p r e T T' sz i n:Nat}{L:List Sgn}{o:Own}{xs ys:List VV}{rs rs':List (Nat×TypeId×Nat)}{l:List (List VV)}(hpr:¬ p=r)(ho:NotOwn o p)(hr:NotOwn o r)(hO:OwnOk s o n)(hn:l.length=n)
  (hi:xs[i]?=some (.lst l o)) (hy:ys=xs.set i (.lst l .no)) (hrs:∀r,r∈rs'→r=(i,T',sz)∨(r∈rs∧r.1≠i)) :
  GS (Ru ((s.own o T' sz n).set p (.pk T xs rs)) r e L) (Ru (s.set p (.pk T ys rs')) r e L):=by
 subst hy
 subst hn
 have h:=GS.pack (s:=Ru ((s.own o T' sz l.length).set p (.pk T xs rs)) r e L) (b:=p) (T:=T) (xs:=xs) (rs:=rs) (rs':=rs') (i:=i) (l:=l) (o:=o) (T':=T') (sz:=sz)
  (by rw[Ru_gt hpr,St.set_same]) hi (by rw[Ru_ownd hr,owned_set ho,owned_own hO];trivial) hrs
 rwa [Ru_dis hr,disown_set ho,disown_own hO,Ru_set (by simp[hpr]),St.set_set]at h
theorem WkL.refl:∀x:List VV,WkL x x
 |[]=>.nil
 |x::xs=>.same x (WkL.refl xs)
theorem Ru_wk {s:St}{p r e T i:Nat}{L:List Sgn}{xs ys:List VV}{rs:List (Nat×TypeId×Nat)}{l l':List (List VV)}(hpr:¬ p=r)(hi:xs[i]?=some (.lst l .no))(hl:l'.length=l.length)
  (hw:∀(i:Nat) (x':List VV),l'[i]?=some x'→∃x,l[i]?=some x∧WkL x x') (hy:ys=xs.set i (.lst l' .no)) :
  GS (Ru (s.set p (.pk T xs rs)) r e L) (Ru (s.set p (.pk T ys rs)) r e L):=by
 subst hy
 have h:=GS.wkrow (s:=Ru (s.set p (.pk T xs rs)) r e L) (b:=p) (T:=T) (xs:=xs) (rs:=rs) (by rw[Ru_gt hpr,St.set_same]) hi hl hw
 rwa [Ru_set (by simp[hpr]),St.set_set]at h
theorem wk_last {l:List (List VV)}{x x':List VV}(h:WkL x x'):∀(i:Nat) (y':List VV),(l++[x'])[i]?=some y'→∃y,(l++[x])[i]?=some y∧WkL y y':=by
 intro i y' hy
 by_cases hi:i<l.length
 ·rw[List.getElem?_append_left hi]at hy ⊢
  exact⟨y',hy,WkL.refl y'⟩
 ·rw[List.getElem?_append_right (by omega)]at hy ⊢
  cases hk:i - l.length with
  |zero=>rw[hk]at hy;simp at hy;subst hy;exact⟨x,rfl,h⟩
  |succ k=>rw[hk]at hy;simp at hy
theorem own_base {s:St}{o o2:Own}{T sz n m:Nat}(h:OwnOk (s.own o2 T sz n) o m):OwnOk s o m:=by
 cases o with
 |at_ x=>simp only[OwnOk,own_fr]at h;exact h.2
 |_=>exact h
end Go.Proofs.YtgdbgfjhenobdaaGreatDoor
namespace Go.Proofs.YtgdbgfjhenobdaaGreatDoor
open Go.RowKit
attribute [local go_sem] Ru_at Ru_mk2 Ru_free Ru_set Ru_gt Ru_dis Ru_own Ru_ok Ru_ownd
theorem roomU_good {e hv m:Nat}{L L':List Sgn}{b:Bool}{u:Unit}(h:roomU e L hv m b=.ok (u,L'))(hG:GoodU L)(hl:L.length≤40000):GoodU L'∧L'.length≤40000:=by
 obtain rfl:=roomU_inv h;exact⟨hG,hl⟩
theorem mustU_good {e:Nat}{L L':List Sgn}{t:List UInt8}{u:Unit}(h:mustU e L t=.ok (u,L'))(hG:GoodU L)(hl:L.length≤40000):GoodU L'∧L'.length≤40000:=by
 obtain⟨rfl,_,h1⟩:=mustU_inv h
 exact⟨hG.tail,by omega⟩
theorem nameU_good {e:Nat}{L L':List Sgn}{t:List UInt8}(h:nameU e L=.ok (t,L'))(hG:GoodU L)(hl:L.length≤40000):GoodU L'∧L'.length≤40000:=by
 obtain⟨h1,h2⟩:=nameU_sub h
 exact⟨hG.sub h2,by omega⟩
theorem numU_good {e:Nat}{L L':List Sgn}{z:Nat}(h:numU e L=.ok (z,L'))(hG:GoodU L)(hl:L.length≤40000):GoodU L'∧L'.length≤40000:=by
 unfold numU at h
 cases h1:kindU e L 2 with
 |error q=>rw[h1]at h;cases h
 |ok q=>
  obtain⟨t,L1⟩:=q
  rw[h1]at h;simp only[bu_ok]at h;injection h with h;injection h with _ h;subst h
  obtain⟨h1,h2⟩:=nameU_sub h1
  exact⟨hG.sub h2,by omega⟩
theorem room32_S (s:St)(r e:Nat)(L:List Sgn)(hv:Nat)(b:Bool):SCalls Tryz.prog 77 [.ptr r 0,.int .i64 hv,.int .i64 32,.bool b] (Ru s r e L) (PW unitV s r e (roomU e L hv 32 b)):=uroom_S s r e L hv 32 b
theorem room64_S (s:St)(r e:Nat)(L:List Sgn)(hv:Nat)(b:Bool):SCalls Tryz.prog 77 [.ptr r 0,.int .i64 hv,.int .i64 64,.bool b] (Ru s r e L) (PW unitV s r e (roomU e L hv 64 b)):=uroom_S s r e L hv 64 b
abbrev PI (s:St)(p r e:Nat)(x:PU Pgm):SEnd→St→Prop:=PQ (ι:=Unit) (κ:=Pgm×List Sgn) (fun _=>.tup []) (fun y L _=>Pg s p r e y L) (fun _ _ _=>True) (fun q=>Pg s p r e q.1 q.2) x
theorem Pg_at {s:St}{p r e:Nat}{x:Pgm}{L:List Sgn}(hpr:¬ p=r):(Pg s p r e x L) p=.pk 33 (pgC x) rsP:=(Ru_gt hpr).trans (St.set_same _ _ _)
set_option maxHeartbeats 4000000 in
theorem udomi_S (s:St)(p r e:Nat)(x:Pgm)(L:List Sgn)(hG:GoodU L)(hl:L.length≤40000)(hpr:¬ p=r)(hx:x.doms.length≤40000)(hd:isT L 0 [100,111,109]=true) :
    SCalls Tryz.prog 42 [.ptr r 0,.ptr p 0] (Pg s p r e x L) (PI s p r e (domU e x L)):=by
  have h1:=fun s=>uis_S s r e L [100,111,109]
  rw[hd]at h1
  clear hd
  have hm:(x.doms.map dmC).length=x.doms.length:=by simp
  generalize hres:domU e x L=res
  unfold domU at hres
  have HR:=Lib.hid hres
  clear hres
  refine SCalls.gs ?_
  refine G_enter Tryz.func42 rfl Tryz.ntmps42 rfl fun Q hQ hQe=>?_
  refine Kp_unpk p 0 (T':=57) (sz:=2) [(1,67,2),(2,74,4)] (Pg_at hpr) rfl (by simp) (by simp) ?_
  intro o hO hop
  have hor:NotOwn o r:=hO.not (by simp only[Pg,Ru_at];simp)
  simp only[Pg]
  rw[Ru_unpk hpr hop hor]
  simp only[Pg,Ru_ok,ownok_pk,hm,pgC,List.set]at hO ⊢
  obtain⟨_,_,hO⟩:=hO
  (repeat'(first|refine Ctl ?_|((with_reducible refine Kof.use hK ?_);clear hK hE K E)|((with_reducible refine Eof.use hE ?_);(try clear hK hE K E))|(with_reducible first|(refine Kof.use hKh ?_;clear hKh Kh)|(refine Kof.use hKb (P_next ?_);clear hKb Kb)|refine G_plan 4 [([0,1,2,3,4,5],6,[[]])] [] hQe fun K E hK hE=>?_|refine G_plan 6 [([0,1,2,3,4,5,7],6,[[0,1,2,3,4,7]]),([],8,[[],[0,1,2,3,4]]),([9,10],11,[[],[],[0]]),([12,13],14,[[],[],[],[]])] [] hQe fun K E hK hE=>?_)|((with_reducible refine W_cond (fun h=>?_) (fun h=>?_))<;>(try(exfalso;assumption)))|((first|(with_reducible first|refine G_region fun K E hK hE=>?_|refine call_ret can76 (h1 _) ?_|refine P_heads fun Kh hKh=>?_|refine P_fin fun Kh hKh=>?_|refine P_each fun Kb hKb=>?_)|((with_reducible refine call_pw can77 (room32_S _ _ _ _ _ _) (fun a Lx h=>?_) (fun at_ er Lx h=>?_))<;>(try(have hGx:=roomU_good h (by assumption) (by assumption));try(obtain⟨hGy,hGl⟩:=hGx)))|((with_reducible refine call_pw can78 (umust_S _ _ _ _ _) (fun a Lx h=>?_) (fun at_ er Lx h=>?_))<;>(try(have hGx:=mustU_good h (by assumption) (by assumption));try(obtain⟨hGy,hGl⟩:=hGx)))|((with_reducible refine call_pw can79 (uname_S _ _ _ _) (fun a Lx h=>?_) (fun at_ er Lx h=>?_))<;>(try((have hGx:=nameU_good h (by assumption) (by assumption);generalize a=nm at *));try(obtain⟨hGy,hGl⟩:=hGx)))|((with_reducible refine call_pw can80 (unum_S _ _ _ _ (by assumption)) (fun a Lx h=>?_) (fun at_ er Lx h=>?_))<;>(try((have hGx:=numU_good h (by assumption) (by assumption);generalize a=z at *));try(obtain⟨hGy,hGl⟩:=hGx)))|((with_reducible refine W_fresh (fun b hb=>?_));(repeat(obtain⟨_,hb⟩:=hb));(try(try(rw[own_fr]at hb;obtain⟨hob,hb⟩:=hb))))|((with_reducible refine W_app (fun o2 ho=>?_));(try simp(disch:=assumption) only[disown_set,disown_own,ownok_o,ownok_m,List.length_map,List.length_cons,List.length_nil,Nat.zero_add,hm,dmC,Ru_ok,Ru_dis,Ru_own,Ru_ownd,ownok_pk,or_true,if_true]at ho);(repeat(obtain⟨_,ho⟩:=ho))))<;>(try simp(disch:=first|assumption|omega) only[go_sem,seval,hm,dmC,Ru_ok,Ru_dis,Ru_own,Ru_ownd,ownok_pk,or_true,if_true, *]))))
  all_goals first
    | (refine G_pan hQ ?_
       refine⟨Ru ((s.own o2 57 2 (x.doms.length+1)).set p (.pk 33 [.lst (x.doms.map dmC++[dmC ⟨nm,z⟩]) o2,.lst (x.decls.map dclC) .no,.lst (x.rules.map rulC) .no] [(1,67,2),(2,74,4)])) r e Lx,by simp only[dmC];(exact z_fg),Pg s p r e ⟨x.doms++[⟨nm,z⟩],x.decls,x.rules⟩ Lx,
         Ru_pack hpr (by assumption) (by assumption) ho (by simp) (i:=0) rfl (by simp[pgC]) (by simp),?_⟩
       rw[← show _=res from HR]
       simp only[bu_ok,bu_err, *]
       exact⟨rfl,(⟨x.doms++[⟨nm,z⟩],x.decls,x.rules⟩,Lx),rfl⟩)
    | (refine G_pan hQ ?_
       refine⟨Ru ((s.own o 57 2 x.doms.length).set p (.pk 33 [.lst (x.doms.map dmC) o,.lst (x.decls.map dclC) .no,.lst (x.rules.map rulC) .no] [(1,67,2),(2,74,4)])) r e Lx,z_fg,Pg s p r e x Lx,
         Ru_pack hpr hop hor hO hm (i:=0) rfl rfl (by simp),?_⟩
       rw[← show _=res from HR]
       simp only[bu_ok,bu_err, *]
       exact⟨rfl,(x,Lx),rfl⟩)
    | ((first | refine W_ret res42 hQ ?_ | refine W_norm res42 hQ ?_ | refine G_pan hQ ?_)
       refine⟨.tup [],Ru ((s.own o2 57 2 (x.doms.length+1)).set p (.pk 33 [.lst (x.doms.map dmC++[dmC ⟨nm,z⟩]) o2,.lst (x.decls.map dclC) .no,.lst (x.rules.map rulC) .no] [(1,67,2),(2,74,4)])) r e Lx,Wk.refl _,by simp only[dmC];(exact z_fg),Pg s p r e ⟨x.doms++[⟨nm,z⟩],x.decls,x.rules⟩ Lx,
         Ru_pack hpr (by assumption) (by assumption) ho (by simp) (i:=0) rfl (by simp[pgC]) (by simp),?_⟩
       rw[← show _=res from HR]
       simp only[bu_ok,bu_err, *]
       exact⟨rfl,(),rfl,trivial⟩)
    |skip
theorem listU_good {α:Type}{e:Nat}{one:List Sgn→PU α}{ks:List Int}(hone:∀L x L',one L=.ok (x,L')→L'.length<L.length∧∀y,y∈L'→y∈L){L L':List Sgn}{xs:List α}(h:listU e one ks L=.ok (xs,L'))(hG:GoodU L)(hl:L.length≤40000):GoodU L'∧L'.length≤40000:=by
 obtain⟨h1,h2⟩:=listU_sub hone h
 exact⟨hG.sub h2,by omega⟩
end Go.Proofs.YtgdbgfjhenobdaaGreatDoor
namespace Go.Proofs.YtgdbgfjhenobdaaGreatDoor
open Go.RowKit
attribute [local go_sem] Ru_at Ru_mk2 Ru_free Ru_set Ru_gt Ru_dis Ru_own Ru_ok Ru_ownd
theorem owned_other {s:St}{o o2:Own}{T T' sz sz' n m:Nat}(h:OwnOk (s.own o2 T sz n) o m)(h2:OwnOk s o2 n):Owned ((s.own o2 T sz n).own o T' sz' m) o2 T sz n=True:=by
 apply eq_true
 cases o2 with
 |no=>exact h2
 |full=>exact h2
 |at_ y=>
  cases o with
  |at_ x=>
   simp only[OwnOk,own_fr]at h
   simp only[NotOwn]at h
   have h':¬ y=x:=fun e=>h.1 e.symm
   simp[Owned,St.own,St.set,h']
  |_=>simp[Owned,St.own,St.set]
attribute [local go_sem] owned_other disown_other
set_option maxHeartbeats 4000000 in
theorem ureli_S (s:St)(p r e:Nat)(x:Pgm)(L:List Sgn)(hG:GoodU L)(hl:L.length≤40000)(hpr:¬ p=r)(hx:x.decls.length≤40000)(hd:isT L 0 [100,111,109]=false)(hd2:isT L 0 [114,101,108]=true) :
    SCalls Tryz.prog 42 [.ptr r 0,.ptr p 0] (Pg s p r e x L) (PI s p r e (relU e x L)):=by
  have h1:=fun s=>uis_S s r e L [100,111,109]
  have h2:=fun s=>uis_S s r e L [114,101,108]
  rw[hd]at h1
  rw[hd2]at h2
  clear hd hd2
  have hm:(x.decls.map dclC).length=x.decls.length:=by simp
  generalize hres:relU e x L=res
  unfold relU at hres
  have HR:=Lib.hid hres
  clear hres
  refine SCalls.gs ?_
  refine G_enter Tryz.func42 rfl Tryz.ntmps42 rfl fun Q hQ hQe=>?_
  refine Kp_unpk p 1 (T':=67) (sz:=2) [(0,57,2),(2,74,4)] (Pg_at hpr) rfl (by simp) (by simp) ?_
  intro o hO hop
  have hor:NotOwn o r:=hO.not (by simp only[Pg,Ru_at];simp)
  simp only[Pg]
  rw[Ru_unpk hpr hop hor]
  simp only[Pg,Ru_ok,ownok_pk,hm,pgC,List.set]at hO ⊢
  obtain⟨_,_,hO⟩:=hO
  (repeat'(first|refine Ctl ?_|((with_reducible refine Kof.use hK ?_);clear hK hE K E)|((with_reducible refine Eof.use hE ?_);(try clear hK hE K E))|(with_reducible first|(refine Kof.use hKh ?_;clear hKh Kh)|(refine Kof.use hKb (P_next ?_);clear hKb Kb)|refine G_plan 9 [([0,1,2,3,4,5],6,[[]])] [] hQe fun K E hK hE=>?_|refine G_plan 14 [([0,1,2,3,4,5,6],7,[[0]]),([8,9],10,[[],[]])] [] hQe fun K E hK hE=>?_)|((with_reducible refine W_cond (fun h=>?_) (fun h=>?_))<;>(try(exfalso;assumption)))|((first|(with_reducible first|refine G_region fun K E hK hE=>?_|refine call_ret can76 (h1 _) ?_|refine call_ret can76 (h2 _) ?_|refine P_heads fun Kh hKh=>?_|refine P_fin fun Kh hKh=>?_|refine P_each fun Kb hKb=>?_)|((with_reducible refine call_pw can77 (room32_S _ _ _ _ _ _) (fun a Lx h=>?_) (fun at_ er Lx h=>?_))<;>(try(have hGx:=roomU_good h (by assumption) (by assumption));try(obtain⟨hGy,hGl⟩:=hGx);try(obtain⟨hO3,hcb,hcr,hcb2⟩:=hc;simp(disch:=assumption) only[ownok_o,ownok_pk]at hO3;obtain⟨hc1,hc2,hO3⟩:=hO3)))|((with_reducible refine call_pq can81 (udoms_S _ _ _ _ _ _ _ _ (by assumption) (by omega) (by simp(disch:=assumption) only[go_sem,seval, *]) (by assumption) (by assumption) (by assumption) (by simp(disch:=assumption) only[go_sem,seval, *])) (fun a Lx ix h hc=>?_) (fun at_ er Lx h=>?_))<;>(try((have hGx:=listU_good (fun L x L' h=>nameU_sub h) h (by assumption) (by assumption);generalize a=ds at *));try(obtain⟨hGy,hGl⟩:=hGx);try(obtain⟨hO3,hcb,hcr,hcb2⟩:=hc;simp(disch:=assumption) only[ownok_o,ownok_pk]at hO3;obtain⟨hc1,hc2,hO3⟩:=hO3)))|((with_reducible refine call_pw can78 (umust_S _ _ _ _ _) (fun a Lx h=>?_) (fun at_ er Lx h=>?_))<;>(try(have hGx:=mustU_good h (by assumption) (by assumption));try(obtain⟨hGy,hGl⟩:=hGx);try(obtain⟨hO3,hcb,hcr,hcb2⟩:=hc;simp(disch:=assumption) only[ownok_o,ownok_pk]at hO3;obtain⟨hc1,hc2,hO3⟩:=hO3)))|((with_reducible refine call_pw can79 (uname_S _ _ _ _) (fun a Lx h=>?_) (fun at_ er Lx h=>?_))<;>(try((have hGx:=nameU_good h (by assumption) (by assumption);generalize a=nm at *));try(obtain⟨hGy,hGl⟩:=hGx);try(obtain⟨hO3,hcb,hcr,hcb2⟩:=hc;simp(disch:=assumption) only[ownok_o,ownok_pk]at hO3;obtain⟨hc1,hc2,hO3⟩:=hO3)))|((with_reducible refine W_fresh (fun b hb=>?_));(repeat(obtain⟨_,hb⟩:=hb));(try(try(rw[own_fr]at hb;obtain⟨hob,hb⟩:=hb))))|((with_reducible refine W_app (fun o2 ho=>?_));(try simp(disch:=assumption) only[disown_set,disown_own,ownok_o,ownok_m,List.length_map,List.length_cons,List.length_nil,Nat.zero_add,hm,dclC,Dc,Ru_ok,Ru_dis,Ru_own,Ru_ownd,ownok_pk,or_true,true_or,if_true,disown_other]at ho);(repeat(obtain⟨_,ho⟩:=ho))))<;>(try simp(disch:=first|assumption|omega) only[go_sem,seval,hm,dclC,Dc,Ru_ok,Ru_dis,Ru_own,Ru_ownd,ownok_pk,or_true,true_or,if_true,disown_other, *]))))
  all_goals first
    | (refine G_pan hQ ?_
       refine⟨Ru ((s.own o 67 2 x.decls.length).set p (.pk 33 [.lst (x.doms.map dmC) .no,.lst (x.decls.map dclC) o,.lst (x.rules.map rulC) .no] [(0,57,2),(2,74,4)])) r e Lx,z_fg,Pg s p r e x Lx,
         Ru_pack hpr hop hor hO hm (i:=1) rfl rfl (by simp),?_⟩
       rw[← show _=res from HR]
       simp only[bu_ok,bu_err, *]
       exact⟨rfl,(x,Lx),rfl⟩)
    | ((first | refine W_ret res42 hQ ?_ | refine W_norm res42 hQ ?_ | refine G_pan hQ ?_)
       have hb3:=own_base hO3
       refine⟨.tup [],Ru (((s.own ix 9 1 ds.length).own o2 67 2 (x.decls.length+1)).set p (.pk 33 [.lst (x.doms.map dmC) .no,.lst (x.decls.map dclC++[[.str nm,.lst (strs ds) ix]]) o2,.lst (x.rules.map rulC) .no] [(0,57,2),(2,74,4)])) r e Lx,Wk.refl _,z_fg,Pg s p r e ⟨x.doms,x.decls++[⟨nm,ds⟩],x.rules⟩ Lx,
         (Ru_pack (ys:=[.lst (x.doms.map dmC) .no,.lst (x.decls.map dclC++[[.str nm,.lst (strs ds) ix]]) .no,.lst (x.rules.map rulC) .no]) (rs':=rsP) hpr (by assumption) (by assumption) ho (by simp) (i:=1) rfl rfl (by simp)).trans ((GS.of_fg (Fg.ru ((Fg.own hb3).set _ _))).trans
           (Ru_wk hpr (i:=1) (l':=x.decls.map dclC++[dclC ⟨nm,ds⟩]) rfl (by simp) (wk_last (.same _ (.lst _ _ .nil))) (by simp[pgC]))),?_⟩
       rw[← show _=res from HR]
       simp only[bu_ok,bu_err, *]
       exact⟨rfl,(),rfl,trivial⟩)
    |skip
end Go.Proofs.YtgdbgfjhenobdaaGreatDoor
namespace Go.Proofs.YtgdbgfjhenobdaaGreatDoor
open Go.RowKit
attribute [local go_sem] Ru_at Ru_mk2 Ru_free Ru_set Ru_gt Ru_dis Ru_own Ru_ok Ru_ownd
set_option maxHeartbeats 4000000 in
theorem uruli_S (s:St)(p r e:Nat)(x:Pgm)(L:List Sgn)(hG:GoodU L)(hl:L.length≤40000)(hpr:¬ p=r)(hx:x.rules.length≤40000)(hd:isT L 0 [100,111,109]=false)(hd2:isT L 0 [114,101,108]=false) :
    SCalls Tryz.prog 42 [.ptr r 0,.ptr p 0] (Pg s p r e x L) (PI s p r e (rulU e x L)):=by
  have h1:=fun s=>uis_S s r e L [100,111,109]
  have h2:=fun s=>uis_S s r e L [114,101,108]
  rw[hd]at h1
  rw[hd2]at h2
  clear hd hd2
  have hm:(x.rules.map rulC).length=x.rules.length:=by simp
  generalize hres:rulU e x L=res
  unfold rulU at hres
  have HR:=Lib.hid hres
  clear hres
  refine SCalls.gs ?_
  refine G_enter Tryz.func42 rfl Tryz.ntmps42 rfl fun Q hQ hQe=>?_
  refine Kp_unpk p 2 (T':=74) (sz:=4) [(0,57,2),(1,67,2)] (Pg_at hpr) rfl (by simp) (by simp) ?_
  intro o hO hop
  have hor:NotOwn o r:=hO.not (by simp only[Pg,Ru_at];simp)
  simp only[Pg]
  rw[Ru_unpk hpr hop hor]
  simp only[Pg,Ru_ok,ownok_pk,hm,pgC,List.set]at hO ⊢
  obtain⟨_,_,hO⟩:=hO
  (repeat'(first|refine Ctl ?_|((with_reducible refine Kof.use hK ?_);clear hK hE K E)|((with_reducible refine Eof.use hE ?_))|(with_reducible first|(refine Kof.use hKh ?_;clear hKh Kh)|(refine Kof.use hKb (P_next ?_);clear hKb Kb)|refine G_plan 1 [([0,1,2,3,4,5,6,7],8,[[0,1,2,3,4,5]]),([],9,[[],[]])] [] hQe fun K E hK hE=>?_|refine G_plan 2 [([0,1,2,3,4,5],6,[[0,1,2,3,4]]),([7],8,[[],[0]]),([9,10],11,[[],[],[]])] [] hQe fun K E hK hE=>?_)|((with_reducible refine W_cond (fun h=>?_) (fun h=>?_))<;>(try(exfalso;assumption)))|((first|(with_reducible first|refine G_region fun K E hK hE=>?_|refine call_ret can76 (h1 _) ?_|refine call_ret can76 (h2 _) ?_|refine call_ret can83 (next1_S _ _ _ _ _) ?_|refine P_heads fun Kh hKh=>?_|refine P_fin fun Kh hKh=>?_|refine P_each fun Kb hKb=>?_)|((with_reducible refine call_pw can77 (room64_S _ _ _ _ _ _) (fun a Lx h=>?_) (fun at_ er Lx h=>?_))<;>(try(have hGx:=roomU_good h (by assumption) (by assumption));try(obtain⟨hGy,hGl⟩:=hGx)))|((with_reducible refine call_pw can84 (urule_S _ _ _ _ (by assumption) (by assumption)) (fun a Lx h=>?_) (fun at_ er Lx h=>?_)))|((with_reducible refine W_fresh (fun b hb=>?_));(repeat(obtain⟨_,hb⟩:=hb));(try(try(rw[own_fr]at hb;obtain⟨hob,hb⟩:=hb))))|((with_reducible refine W_app (fun o2 ho=>?_));(try simp(disch:=assumption) only[disown_set,disown_own,ownok_o,ownok_m,List.length_map,List.length_cons,List.length_nil,Nat.zero_add,hm,rulC,Ru_ok,Ru_dis,Ru_own,Ru_ownd,ownok_pk,or_true,true_or,if_true]at ho);(repeat(obtain⟨_,ho⟩:=ho))))<;>(try simp(disch:=first|assumption|omega) only[go_sem,seval,hm,rulC,Ru_ok,Ru_dis,Ru_own,Ru_ownd,ownok_pk,or_true,true_or,if_true, *]))))
  all_goals first
    | (refine G_pan hQ ?_
       refine⟨Ru ((s.own o 74 4 x.rules.length).set p (.pk 33 [.lst (x.doms.map dmC) .no,.lst (x.decls.map dclC) .no,.lst (x.rules.map rulC) o] [(0,57,2),(1,67,2)])) r e Lx,z_fg,Pg s p r e x Lx,
         Ru_pack hpr hop hor hO hm (i:=2) rfl rfl (by simp),?_⟩
       rw[← show _=res from HR]
       simp only[bu_ok,bu_err, *]
       exact⟨rfl,(x,Lx),rfl⟩)
    | ((first | refine W_ret res42 hQ ?_ | refine W_norm res42 hQ ?_ | refine G_pan hQ ?_)
       refine⟨.tup [],Ru ((s.own o2 74 4 (x.rules.length+1)).set p (.pk 33 [.lst (x.doms.map dmC) .no,.lst (x.decls.map dclC) .no,.lst (x.rules.map rulC++[rulC a]) o2] [(0,57,2),(1,67,2)])) r e Lx,Wk.refl _,by simp only[rulC];(exact z_fg),Pg s p r e ⟨x.doms,x.decls,x.rules++[a]⟩ Lx,
         Ru_pack hpr (by assumption) (by assumption) ho (by simp) (i:=2) rfl (by simp[pgC]) (by simp),?_⟩
       rw[← show _=res from HR]
       simp only[bu_ok,bu_err, *]
       exact⟨rfl,(),rfl,trivial⟩)
    |skip
theorem uitem_S (s:St)(p r e:Nat)(x:Pgm)(L:List Sgn)(hG:GoodU L)(hl:L.length≤40000)(hpr:¬ p=r)(hx:x.doms.length≤40000∧x.decls.length≤40000∧x.rules.length≤40000) :
  SCalls Tryz.prog 42 [.ptr r 0,.ptr p 0] (Pg s p r e x L) (PI s p r e (itemU e x L)):=by
 unfold itemU
 cases h1:isT L 0 [100,111,109]with
 |true=>rw[if_pos rfl];exact udomi_S s p r e x L hG hl hpr hx.1 h1
 |false=>
  rw[if_neg (by decide)]
  cases h2:isT L 0 [114,101,108]with
  |true=>rw[if_pos rfl];exact ureli_S s p r e x L hG hl hpr hx.2.1 h1 h2
  |false=>rw[if_neg (by decide)];exact uruli_S s p r e x L hG hl hpr hx.2.2 h1 h2
end Go.Proofs.YtgdbgfjhenobdaaGreatDoor
namespace Go.Proofs.YtgdbgfjhenobdaaGreatDoor
open Go.RowKit
theorem lexGo_all (p:Sgn→Prop)(hone:∀c r a,(oneK (c::r)).2≠0→p ⟨(oneK (c::r)).1,(c::r).take (oneK (c::r)).2,a⟩):∀(f:Nat) (l:List UInt8) (a:Nat) (out L:List Sgn),(∀x,x∈out→p x)→out.length≤4096→lexGo f l a out=.ok L→(∀x,x∈L→p x)∧L.length≤4096
 |0,l,at_,out,L,hg,hl,h=>by simp only[lexGo]at h;injection h with h;subst h;exact⟨hg,hl⟩
 |f+1,l,at_,out,L,hg,hl,h=>by
  simp only[lexGo]at h
  cases hd:l.drop (runN blankB l)with
  |nil=>rw[hd]at h;injection h with h;subst h;exact⟨hg,hl⟩
  |cons c r=>
   rw[hd]at h
   simp only at h
   split at h
   ·exact lexGo_all p hone f _ _ _ _ hg hl h
   ·split at h
    ·cases h
    ·rename_i h0
     split at h
     ·cases h
     ·rename_i hf
      refine lexGo_all p hone f _ _ _ _ ?_ (by simp;omega) h
      intro x hx
      rcases List.mem_append.1 hx with hx|hx
      ·exact hg x hx
      ·rw[List.mem_singleton]at hx
       subst hx
       exact hone c r _ h0
theorem decFrom_all:∀(l:List UInt8) (acc:Nat),(∀c,c∈l→digB c=true)→∃n,Lib.decFrom acc l=some n
 |[],acc,_=>⟨acc,rfl⟩
 |c::l,acc,h=>by
  have hc:=h c (by simp)
  simp only[digB,Bool.and_eq_true,decide_eq_true_eq]at hc
  simp only[Lib.decFrom,Lib.digitVal,if_pos hc]
  exact decFrom_all l _ fun d hd=>h d (by simp[hd])
theorem atoi_digits {c:UInt8}{l:List UInt8}(h:∀d,d∈c::l→digB d=true):∃n:Nat,Lib.atoi (c::l)=some (n:Int):=by
 have hc:=h c (by simp)
 simp only[digB,Bool.and_eq_true,decide_eq_true_eq]at hc
 obtain⟨n,hn⟩:=decFrom_all (c::l) 0 h
 refine⟨n,?_⟩
 have h1:¬ c=45:=by rintro rfl;exact absurd hc.1 (by decide)
 have h2:¬ c=43:=by rintro rfl;exact absurd hc.1 (by decide)
 simp[Lib.atoi,h1,h2,Lib.decNat,hn]
theorem takeRun {p:UInt8→Bool}:∀(l:List UInt8),∀d,d∈l.take (runN p l)→p d=true:=by
 intro l d hd
 have:l.take (runN p l)=l.takeWhile p:=by
  unfold runN
  exact(List.prefix_iff_eq_take.1 (List.takeWhile_prefix p)).symm
 rw[this]at hd
 exact List.all_eq_true.1 List.all_takeWhile d hd
theorem lexSigns_goodU {s:List UInt8}{L:List Sgn}(h:lexSigns s=.ok L):GoodU L∧L.length≤4096:=by
 unfold lexSigns at h
 split at h
 ·cases h
 ·refine lexGo_all (fun x=>x.kind=2→∃n:Nat,Lib.atoi x.text=some (n:Int)∧x.text.length≤18) (fun c r a h0 hk=>?_) _ _ _ _ _ (fun x hx=>by cases hx) (by simp) h
  simp only[oneK]at hk h0 ⊢
  split at hk
  ·rename_i hd
   rw[if_pos hd]at h0 ⊢
   split at hk
   ·exact absurd hk (by decide)
   ·rename_i hn
    rw[if_neg hn]at h0 ⊢
    simp only at h0 ⊢
    have hr:=takeRun (p:=digB) (c::r)
    obtain⟨k,hk2⟩:∃k,runN digB (c::r)=k+1:=⟨runN digB (c::r) - 1,by omega⟩
    rw[hk2]at hr hn ⊢
    rw[List.take_succ_cons]at hr ⊢
    obtain⟨n,hn2⟩:=atoi_digits hr
    exact⟨n,hn2,by simp only[List.length_cons,List.length_take];omega⟩
  ·split at hk
   ·split at hk
    ·exact absurd hk (by decide)
    ·exact absurd hk (show ¬ (1:Nat)=2 by decide)
   ·exact absurd hk (show ¬ (3:Nat)=2 by decide)
theorem ruleU_sub {e:Nat}{L L':List Sgn}{x:Rul}(h:ruleU e L=.ok (x,L')):L'.length<L.length∧∀y,y∈L'→y∈L:=by
 unfold ruleU at h
 cases h1:atomU e L false with
 |error q=>rw[h1]at h;cases h
 |ok q=>
  obtain⟨hd,L1⟩:=q
  obtain⟨a1,a2⟩:=atomU_sub h1
  rw[h1,bu_ok]at h
  have hb:∀(f:Nat) (out:List Atm) (L:List Sgn) (xs:List Atm) (L':List Sgn),bodyGo e f out L=.ok (xs,L')→L'.length≤L.length∧∀y,y∈L'→y∈L:=by
   intro f
   induction f with
   |zero=>intro _ _ _ _ h;cases h
   |succ f ih=>
    intro out L xs L' h
    simp only[bodyGo]at h
    cases h1:roomU e L out.length 8 (nextB [1] L || isT L 0 [33])with
    |error q=>rw[h1]at h;cases h
    |ok q=>
     obtain⟨u,L1⟩:=q
     obtain rfl:=roomU_inv h1
     rw[h1,bu_ok]at h
     generalize hM:(if isT L1 0 [33]=true then L1.tail else L1)=M at h
     have hMs:M.length≤L1.length∧∀y,y∈M→y∈L1:=by
      subst hM
      split
      ·exact⟨by simp,fun y hy=>List.mem_of_mem_tail hy⟩
      ·exact⟨Nat.le_refl _,fun y hy=>hy⟩
     cases h2:atomU e M (isT L1 0 [33])with
     |error q=>rw[h2]at h;cases h
     |ok q=>
      obtain⟨x,L2⟩:=q
      obtain⟨a1,a2⟩:=atomU_sub h2
      rw[h2,bu_ok]at h
      split at h
      ·obtain⟨b1,b2⟩:=ih _ _ _ _ h
       refine⟨by rw[List.length_tail]at b1;omega,fun y hy=>hMs.2 y (a2 y (List.mem_of_mem_tail (b2 y hy)))⟩
      ·injection h with h;injection h with _ h;subst h;exact⟨by omega,fun y hy=>hMs.2 y (a2 y hy)⟩
  cases h2:(if isT L1 0 [58,45]=true then bodyGo e (L1.length+1) [] L1.tail else .ok ([],L1))with
  |error q=>rw[h2]at h;cases h
  |ok q=>
   obtain⟨bd,L2⟩:=q
   have h3:L2.length≤L1.length∧∀y,y∈L2→y∈L1:=by
    split at h2
    ·obtain⟨b1,b2⟩:=hb _ _ _ _ _ h2
     exact⟨by rw[List.length_tail]at b1;omega,fun y hy=>List.mem_of_mem_tail (b2 y hy)⟩
    ·injection h2 with h2;injection h2 with _ h2;subst h2;exact⟨Nat.le_refl _,fun y hy=>hy⟩
   rw[h2,bu_ok]at h
   cases h4:mustU e L2 [46]with
   |error q=>rw[h4]at h;cases h
   |ok q=>
    obtain⟨u,L3⟩:=q
    obtain⟨rfl,_,c1⟩:=mustU_inv h4
    rw[h4,bu_ok]at h
    injection h with h;injection h with _ h;subst h
    exact⟨by omega,fun y hy=>a2 y (h3.2 y (List.mem_of_mem_tail hy))⟩
theorem itemU_sub {e:Nat}{x y:Pgm}{L L':List Sgn}(h:itemU e x L=.ok (y,L')):L'.length<L.length∧(∀z,z∈L'→z∈L)∧y.doms.length≤x.doms.length+1∧y.decls.length≤x.decls.length+1∧y.rules.length≤x.rules.length+1:=by
 unfold itemU at h
 split at h
 ·unfold domU at h
  cases h1:roomU e L x.doms.length 32 true with
  |error q=>rw[h1]at h;cases h
  |ok q=>
   obtain⟨u,L1⟩:=q
   obtain rfl:=roomU_inv h1
   rw[h1,bu_ok]at h
   cases h2:mustU e L1 [100,111,109]with
   |error q=>rw[h2]at h;cases h
   |ok q=>
    obtain⟨u,L2⟩:=q
    obtain⟨rfl,_,c1⟩:=mustU_inv h2
    rw[h2,bu_ok]at h
    cases h3:nameU e L1.tail with
    |error q=>rw[h3]at h;cases h
    |ok q=>
     obtain⟨n,L3⟩:=q
     obtain⟨d1,d2⟩:=nameU_sub h3
     rw[h3,bu_ok]at h
     unfold numU at h
     cases h4:kindU e L3 2 with
     |error q=>rw[h4]at h;cases h
     |ok q=>
      obtain⟨z,L4⟩:=q
      obtain⟨e1,e2⟩:=nameU_sub h4
      rw[h4,bu_ok,bu_ok]at h
      cases h5:mustU e L4 [46]with
      |error q=>rw[h5]at h;cases h
      |ok q=>
       obtain⟨u,L5⟩:=q
       obtain⟨rfl,_,f1⟩:=mustU_inv h5
       rw[h5,bu_ok]at h
       injection h with h;injection h with h1 h;subst h;subst h1
       exact⟨by omega,fun w hw=>List.mem_of_mem_tail (d2 w (e2 w (List.mem_of_mem_tail hw))),by simp,by simp,by simp⟩
 ·split at h
  ·unfold relU at h
   cases h1:roomU e L x.decls.length 32 true with
   |error q=>rw[h1]at h;cases h
   |ok q=>
    obtain⟨u,L1⟩:=q
    obtain rfl:=roomU_inv h1
    rw[h1,bu_ok]at h
    cases h2:mustU e L1 [114,101,108]with
    |error q=>rw[h2]at h;cases h
    |ok q=>
     obtain⟨u,L2⟩:=q
     obtain⟨rfl,_,c1⟩:=mustU_inv h2
     rw[h2,bu_ok]at h
     cases h3:nameU e L1.tail with
     |error q=>rw[h3]at h;cases h
     |ok q=>
      obtain⟨n,L3⟩:=q
      obtain⟨d1,d2⟩:=nameU_sub h3
      rw[h3,bu_ok]at h
      cases h4:listU e (nameU e) [1] L3 with
      |error q=>rw[h4]at h;cases h
      |ok q=>
       obtain⟨z,L4⟩:=q
       obtain⟨e1,e2⟩:=listU_sub (fun L x L' h=>nameU_sub h) h4
       rw[h4,bu_ok]at h
       cases h5:mustU e L4 [46]with
       |error q=>rw[h5]at h;cases h
       |ok q=>
        obtain⟨u,L5⟩:=q
        obtain⟨rfl,_,f1⟩:=mustU_inv h5
        rw[h5,bu_ok]at h
        injection h with h;injection h with h1 h;subst h;subst h1
        exact⟨by omega,fun w hw=>List.mem_of_mem_tail (d2 w (e2 w (List.mem_of_mem_tail hw))),by simp,by simp,by simp⟩
  ·unfold rulU at h
   cases h1:roomU e L x.rules.length 64 (nextB [1] L)with
   |error q=>rw[h1]at h;cases h
   |ok q=>
    obtain⟨u,L1⟩:=q
    obtain rfl:=roomU_inv h1
    rw[h1,bu_ok]at h
    cases h2:ruleU e L1 with
    |error q=>rw[h2]at h;cases h
    |ok q=>
     obtain⟨z,L2⟩:=q
     obtain⟨e1,e2⟩:=ruleU_sub h2
     rw[h2,bu_ok]at h
     injection h with h;injection h with h1 h;subst h;subst h1
     exact⟨e1,e2,by simp,by simp,by simp⟩
attribute [local go_sem] Ru_at Ru_mk2 Ru_free Ru_set Ru_gt Ru_dis Ru_own Ru_ok Ru_ownd
def itemsU (e:Nat):Nat→Pgm→List Sgn→PU Pgm
 |0,_,_=>.error (0,0)
 |f+1,x,L=>if L=[] then .ok (x,L)else bu (itemU e x L) fun x L=>itemsU e f x L
def unU:PU Pgm→Except (Nat×Nat) Pgm
 |.ok (x,_)=>.ok x
 |.error q=>.error q
def parseR (l:List UInt8):Except (Nat×Nat) Pgm:=
 match lexSigns l with
 |.error x=>.error x
 |.ok L=>unU (itemsU l.length (L.length+1) ⟨[],[],[]⟩ L)
theorem parseR_ok {l:List UInt8}{L:List Sgn}(h:lexSigns l=.ok L):parseR l=unU (itemsU l.length (L.length+1) ⟨[],[],[]⟩ L):=by unfold parseR;rw[h]
theorem ucv_nilI:cv .nilIface=.raw .nilIface:=rfl
theorem urec0 (s:St)(b2 b3 b4:Nat):SDef Tryz.prog 41 [.ptr b2 0,.ptr b3 0,.ptr b4 0] s none s:=by
 refine SDef_of (x:=none) Tryz.func41 rfl Tryz.ntmps41 rfl rfl rfl rfl ?_
 (repeat(first|refine L_seq ?_|refine L_skip ?_|(refine L_cond ?_;simp only[go_sem,seval,recV,ucv_nilI])|(refine L_region fun K E hK hE=>?_;simp only[go_sem,seval,recV,ucv_nilI];try(refine hK _ _ ?_;clear hK hE K E))))
 exact Fg.refl s
theorem GS.pg0 {S:St}{b2:Nat}(h:S b2=.obj 33 [.lst [] .full,.lst [] .full,.lst [] .full]):GS S (S.set b2 (.pk 33 (pgC ⟨[],[],[]⟩) rsP)):=by
 have g1:=GS.topk h
 have hd:∀t:St,t.disown .full=t:=fun _=>rfl
 have g2:=GS.pack (i:=0) (l:=[]) (o:=.full) (T':=57) (sz:=2) (rs':=[(0,57,2)]) (St.set_same S b2 (.pk 33 [.lst [] .full,.lst [] .full,.lst [] .full] [])) rfl rfl (by simp)
 rw[hd,St.set_set]at g2
 have g3:=GS.pack (i:=1) (l:=[]) (o:=.full) (T':=67) (sz:=2) (rs':=[(0,57,2),(1,67,2)]) (St.set_same S b2 (.pk 33 [.lst [] .no,.lst [] .full,.lst [] .full] [(0,57,2)])) rfl rfl (by simp)
 rw[hd,St.set_set]at g3
 have g4:=GS.pack (i:=2) (l:=[]) (o:=.full) (T':=74) (sz:=4) (rs':=rsP) (St.set_same S b2 (.pk 33 [.lst [] .no,.lst [] .no,.lst [] .full] [(0,57,2),(1,67,2)])) rfl rfl (by simp)
 rw[hd,St.set_set]at g4
 exact g1.trans (g2.trans (g3.trans g4))
end Go.Proofs.YtgdbgfjhenobdaaGreatDoor
namespace Go.Proofs.YtgdbgfjhenobdaaGreatDoor
open Go.RowKit
def Rw (s:St)(r e:Nat)(W:List Sgn)(i:Nat):St:=s.set r (.obj 119 [.lst (W.map sgnC) .no,.int .i64 i,.int .i64 e,.int .i64 0,.int .i64 0])
theorem Rw_at {s:St}{r e i:Nat}{W:List Sgn}:(Rw s r e W i) r=.obj 119 [.lst (W.map sgnC) .no,.int .i64 i,.int .i64 e,.int .i64 0,.int .i64 0]:=St.set_same _ _ _
theorem Rw_gt {s:St}{r e b i:Nat}{W:List Sgn}(h:¬ b=r):(Rw s r e W i) b=s b:=St.set_other _ _ h
theorem Rw_mk2 {s:St}{r e i j:Nat}{W:List Sgn}:(Rw s r e W i).set r (.obj 119 [.lst (W.map sgnC) .no,.int .i64 j,.int .i64 e,.int .i64 0,.int .i64 0])=Rw s r e W j:=St.set_set _ _ _ _
theorem Rw_free {s:St}{r e b i:Nat}{W:List Sgn}:((Rw s r e W i) b=.free)=(¬ b=r∧¬ r=b∧s b=.free):=set_free_o
theorem Rw_set {s:St}{r e b i:Nat}{W:List Sgn}{c:Cell}(h:¬ b=r):(Rw s r e W i).set b c=Rw (s.set b c) r e W i:=by
 funext x
 simp only[Rw,St.set]
 by_cases h1:x=b
 ·subst h1;simp[h]
 ·simp[h1]
theorem Rw_own {s:St}{r e i:Nat}{W:List Sgn}{o:Own}{T sz n:Nat}(h:NotOwn o r):(Rw s r e W i).own o T sz n=Rw (s.own o T sz n) r e W i:=own_push h
theorem Rw_dis {s:St}{r e i:Nat}{W:List Sgn}{o:Own}(h:NotOwn o r):(Rw s r e W i).disown o=Rw (s.disown o) r e W i:=disown_set h
theorem Rw_ok {s:St}{r e i n:Nat}{W:List Sgn}{o:Own}:OwnOk (Rw s r e W i) o n=(NotOwn o r∧OwnOk s o n):=ownok_o
theorem Rw_ownd {s:St}{r e i:Nat}{W:List Sgn}{o:Own}{T sz n:Nat}(h:NotOwn o r):Owned (Rw s r e W i) o T sz n=Owned s o T sz n:=by
 rw[Rw,owned_set h]
theorem Fg.rw {s s':St}(h:Fg s s'){r e i:Nat}{W:List Sgn}:Fg (Rw s r e W i) (Rw s' r e W i):=Fg.set h _ _
section
attribute [local go_sem] Rw_at Rw_mk2
theorem sgnC_at {W:List Sgn}{i:Nat}{x:Sgn}(h:W[i]?=some x):(W.map sgnC)[i]?=some [.int .i64 x.kind,.str x.text,.int .i64 x.at_]:=by rw[List.getElem?_map,h];rfl
theorem Yis_S (s:St)(r e i:Nat)(W:List Sgn)(t:List UInt8)(hi:i≤W.length):SRet Tryz.prog 45 [.ptr r 0,.str t] (Rw s r e W i) (.bool (isT W i t)) (Rw s r e W i):=by
 refine G_enter Tryz.func45 rfl Tryz.ntmps45 rfl fun Q hQ hQe=>?_
 by_cases hlt:i<W.length
 ·obtain⟨x,hx⟩:∃x,W[i]?=some x:=⟨_,List.getElem?_eq_getElem hlt⟩
  have hsx:=sgnC_at hx
  have hres:isT W i t=decide (x.text=t):=by simp[isT,hx]
  have HR:=Lib.hid hres
  clear hx hres
  (repeat'(first|refine Ctl ?_|(with_reducible first|(refine Kof.use hK ?_;clear hK hE K E)|(refine Kof.use hKh ?_;clear hKh Kh)|refine G_plan 1 [] [0,1,2,3,4,5,6,7,8,9,10,11,12,13,14,15,16,17,18,19,20,21,22,23,24,25] hQe fun K E hK hE=>?_)|(((with_reducible first|refine G_region fun K E hK hE=>?_|refine P_fin fun Kh hKh=>?_))<;>(try simp(disch:=omega) only[go_sem,seval,List.length_map,hsx, *]))))
  all_goals(refine W_ret res45 hQ ?_)
  all_goals(refine⟨_,_,Wk.of_eq ?_,?_,rfl,rfl⟩)
  ·rw[HR.out]
  ·(exact z_fg)
 ·have hres:isT W i t=false:=by simp[isT,List.getElem?_eq_none (by omega:W.length≤i)]
  have HR:=Lib.hid hres
  clear hres
  (repeat'(first|refine Ctl ?_|(with_reducible first|(refine Kof.use hK ?_;clear hK hE K E)|(refine Kof.use hKh ?_;clear hKh Kh)|refine G_plan 1 [] [0,1,2,3,4,5,6,7,8,9,10,11,12,13,14,15,16,17,18,19,20,21,22,23,24,25] hQe fun K E hK hE=>?_)|(((with_reducible first|refine G_region fun K E hK hE=>?_|refine P_fin fun Kh hKh=>?_))<;>(try simp(disch:=omega) only[go_sem,seval,List.length_map, *]))))
  all_goals(refine W_ret res45 hQ ?_)
  all_goals(refine⟨_,_,Wk.of_eq ?_,?_,rfl,rfl⟩)
  ·rw[HR.out]
  ·(exact z_fg)
theorem Ytakes_S (s:St)(r e i:Nat)(W:List Sgn)(t:List UInt8)(hw:W.length≤40000)(h:isT W i t=true):SRet Tryz.prog 49 [.ptr r 0,.str t] (Rw s r e W i) (.tup []) (Rw s r e W (i+1)):=by
 have hi:i<W.length:=by
  rcases Nat.lt_or_ge i W.length with h1|h1
  ·exact h1
  ·simp[isT,List.getElem?_eq_none h1]at h
 have h1:=fun s=>Yis_S s r e i W t (by omega)
 rw[h]at h1
 clear h
 refine G_enter Tryz.func49 rfl Tryz.ntmps49 rfl fun Q hQ hQe=>?_
 (repeat'(first|refine Ctl ?_|((with_reducible refine Kof.use hK ?_);clear hK hE K E)|((with_reducible refine W_cond (fun h=>?_) (fun h=>?_))<;>(try(exfalso;assumption)))|(((with_reducible first|refine G_region fun K E hK hE=>?_|refine call_ret can45 (h1 _) ?_))<;>(try simp(disch:=omega) only[go_sem,seval, *]))))
 all_goals(refine W_norm res49 hQ ?_)
 all_goals(refine⟨_,_,Wk.of_eq ?_,?_,rfl,rfl⟩)
 all_goals first|rfl|(exact z_fg)
theorem Ykind_S (s:St)(r e i:Nat)(W:List Sgn)(x:Sgn)(k:Nat)(hw:W.length≤40000)(hx:W[i]?=some x)(hk:x.kind=k):SRet Tryz.prog 47 [.ptr r 0,.int .i64 k] (Rw s r e W i) (.str x.text) (Rw s r e W (i+1)):=by
 have hi:i<W.length:=(List.getElem?_eq_some_iff.1 hx).1
 have hsx:=sgnC_at hx
 have hk2:(x.kind:Int)=(k:Int):=by omega
 have hsub:((i+1:Nat):Int) - 1=(i:Int):=by omega
 clear hx hk
 refine G_enter Tryz.func47 rfl Tryz.ntmps47 rfl fun Q hQ hQe=>?_
 (repeat'(first|refine Ctl ?_|(with_reducible first|(refine Kof.use hK ?_;clear hK hE K E)|(refine Kof.use hKh ?_;clear hKh Kh)|refine G_plan 1 [] [0,1,2,3,4,5,6,7,8,9,10,11,12,13,14,15,16,17,18,19,20,21,22,23,24] hQe fun K E hK hE=>?_|refine G_plan 5 [] [0,1,2,3,4,5,6,7,8,9,10,11,12] hQe fun K E hK hE=>?_)|((with_reducible refine W_cond (fun h=>?_) (fun h=>?_))<;>(try(exfalso;assumption)))|((first|(with_reducible first|refine G_region fun K E hK hE=>?_|refine P_fin fun Kh hKh=>?_)|((with_reducible refine W_gd (fun h=>?_) (fun h=>?_))<;>(try(exfalso;omega))))<;>(try simp(disch:=omega) only[go_sem,seval,List.length_map,hsx,hsub, *]))))
 all_goals(refine W_ret res47 hQ ?_)
 all_goals(refine⟨_,_,Wk.of_eq ?_,?_,rfl,rfl⟩)
 all_goals first|rfl|(exact z_fg)
theorem Ynext_S (s:St)(r e i:Nat)(W:List Sgn)(a b:Int)(t:List UInt8)(hi:i≤W.length):SCalls Tryz.prog 51 [.ptr r 0,.int .i64 a,.int .i64 b,.str t] (Rw s r e W i) fun w u=>∃q:Bool,w=.ret (.bool q)∧u=Rw s r e W i∧True:=by
 refine G_enter Tryz.func51 rfl Tryz.ntmps51 rfl fun Q hQ hQe=>?_
 by_cases hlt:i<W.length
 ·obtain⟨x,hx⟩:∃x,W[i]?=some x:=⟨_,List.getElem?_eq_getElem hlt⟩
  have hsx:=sgnC_at hx
  clear hx
  (repeat'(first|refine Ctl ?_|(with_reducible first|(refine Kof.use hK ?_;clear hK hE K E)|(refine Kof.use hKh ?_;clear hKh Kh)|refine G_plan 1 [] [0,1,2,3,4,5,6,7,8,9,10,11,12,13,14,15,16,17,18,19,20,21,22,23,24,25,26,27,28,29,30,31,32,33,34,35,36,37,38,39,40,41,42,43,44,45,46,47,48,49,50,51,52,53,54,55] hQe fun K E hK hE=>?_)|((first|(with_reducible first|refine G_region fun K E hK hE=>?_|refine P_fin fun Kh hKh=>?_)|((with_reducible refine W_gd (fun h=>?_) (fun h=>?_))))<;>(try simp(disch:=omega) only[go_sem,seval,List.length_map,hsx, *]))))
  all_goals(refine W_ret res51 hQ ?_)
  all_goals exact⟨_,_,Wk.refl _,z_fg,_,rfl,rfl,trivial⟩
 ·(repeat'(first|refine Ctl ?_|(with_reducible first|(refine Kof.use hK ?_;clear hK hE K E)|(refine Kof.use hKh ?_;clear hKh Kh)|refine G_plan 1 [] [0,1,2,3,4,5,6,7,8,9,10,11,12,13,14,15,16,17,18,19,20,21,22,23,24,25,26,27,28,29,30,31,32,33,34,35,36,37,38,39,40,41,42,43,44,45,46,47,48,49,50,51,52,53,54,55] hQe fun K E hK hE=>?_)|(((with_reducible first|refine G_region fun K E hK hE=>?_|refine P_fin fun Kh hKh=>?_))<;>(try simp(disch:=omega) only[go_sem,seval,List.length_map, *]))))
  all_goals(refine W_ret res51 hQ ?_)
  all_goals exact⟨_,_,Wk.refl _,z_fg,_,rfl,rfl,trivial⟩
theorem Yroom_S (s:St)(r e i:Nat)(W:List Sgn)(hv mst:Int)(b:Bool)(h:hv<mst):SRet Tryz.prog 46 [.ptr r 0,.int .i64 hv,.int .i64 mst,.bool b] (Rw s r e W i) (.tup []) (Rw s r e W i):=by
 have h2:¬ mst≤hv:=by omega
 refine G_enter Tryz.func46 rfl Tryz.ntmps46 rfl fun Q hQ hQe=>?_
 (repeat'(first|refine Ctl ?_|((with_reducible refine Kof.use hK ?_);clear hK hE K E)|((with_reducible refine W_cond (fun h=>?_) (fun h=>?_))<;>(try(exfalso;assumption)))|(((with_reducible refine G_region fun K E hK hE=>?_))<;>(try simp(disch:=omega) only[go_sem,seval, *]))))
 all_goals(refine W_norm res46 hQ ?_)
 all_goals(refine⟨_,_,Wk.of_eq ?_,?_,rfl,rfl⟩)
 all_goals first|rfl|(exact z_fg)
theorem Ymore1_S (s:St)(r e i:Nat)(W:List Sgn)(hw:W.length≤40000)(hi:i≤W.length)(hc:isT W i [44]=true):SRet Tryz.prog 90 [.ptr r 0] (Rw s r e W i) (.bool true) (Rw s r e W (i+1)):=by
 have h1:=fun s=>Yis_S s r e i W [44] hi
 rw[hc]at h1
 clear hc
 refine G_enter Tryz.func90 rfl Tryz.ntmps90 rfl fun Q hQ hQe=>?_
 (repeat'(first|refine Ctl ?_|((with_reducible refine Kof.use hK ?_);clear hK hE K E)|((with_reducible refine W_cond (fun h=>?_) (fun h=>?_))<;>(try(exfalso;assumption)))|(((with_reducible first|refine G_region fun K E hK hE=>?_|refine call_ret can45 (h1 _) ?_))<;>(try simp(disch:=omega) only[go_sem,seval, *]))))
 all_goals(refine W_ret res90 hQ ?_)
 all_goals(refine⟨_,_,Wk.of_eq ?_,?_,rfl,rfl⟩)
 all_goals first|rfl|(exact z_fg)
theorem Ymore0_S (s:St)(r e i:Nat)(W:List Sgn)(hi:i≤W.length)(hc:isT W i [44]=false):SRet Tryz.prog 90 [.ptr r 0] (Rw s r e W i) (.bool false) (Rw s r e W i):=by
 have h1:=fun s=>Yis_S s r e i W [44] hi
 rw[hc]at h1
 clear hc
 refine G_enter Tryz.func90 rfl Tryz.ntmps90 rfl fun Q hQ hQe=>?_
 (repeat'(first|refine Ctl ?_|((with_reducible refine Kof.use hK ?_);clear hK hE K E)|((with_reducible refine W_cond (fun h=>?_) (fun h=>?_))<;>(try(exfalso;assumption)))|(((with_reducible first|refine G_region fun K E hK hE=>?_|refine call_ret can45 (h1 _) ?_))<;>(try simp(disch:=omega) only[go_sem,seval, *]))))
 all_goals(refine W_ret res90 hQ ?_)
 all_goals(refine⟨_,_,Wk.of_eq ?_,?_,rfl,rfl⟩)
 all_goals first|rfl|(exact z_fg)
end
end Go.Proofs.YtgdbgfjhenobdaaGreatDoor
namespace Go.Proofs.YtgdbgfjhenobdaaGreatDoor
open Go.RowKit
attribute [local go_sem] Rw_at Rw_mk2 Rw_free Rw_set Rw_gt Rw_dis Rw_own Rw_ok Rw_ownd
def pos (W L:List Sgn):Nat:=W.length - L.length
def Sfx (W:List Sgn)(i:Nat)(L:List Sgn):Prop:=i≤W.length∧W.drop i=L
theorem Sfx.cons {W L:List Sgn}{i:Nat}{x:Sgn}(h:Sfx W i (x::L)):W[i]?=some x∧Sfx W (i+1) L∧i<W.length:=by
 obtain⟨h1,h2⟩:=h
 have h3:W[i]?=some x:=by
  have:=List.getElem?_drop (xs:=W) (i:=i) (j:=0)
  rw[h2]at this
  simpa using this.symm
 have h4:=(List.getElem?_eq_some_iff.1 h3).1
 refine⟨h3,⟨h4,?_⟩,h4⟩
 rw[← List.drop_drop,h2];rfl
theorem Sfx.isT {W L:List Sgn}{i:Nat}{t:List UInt8}(h:Sfx W i L):isT W i t=isT L 0 t:=by
 obtain⟨_,rfl⟩:=h
 simp[Proofs.YtgdbgfjhenobdaaGreatDoor.isT]
theorem Sfx.nil {W:List Sgn}{i:Nat}(h:Sfx W i []):i=W.length:=by
 obtain⟨h1,h2⟩:=h
 have:=List.drop_eq_nil_iff.1 h2
 omega
theorem Sfx.tail {W L:List Sgn}{i:Nat}{t:List UInt8}(h:Sfx W i L)(ht:Proofs.YtgdbgfjhenobdaaGreatDoor.isT L 0 t=true):Sfx W (i+1) L.tail:=by
 cases L with
 |nil=>simp[Proofs.YtgdbgfjhenobdaaGreatDoor.isT]at ht
 |cons x L=>exact h.cons.2.1
theorem kindU_ok {e k:Nat}{L L':List Sgn}{t:List UInt8}(h:kindU e L k=.ok (t,L')):∃x,L=x::L'∧x.kind=k∧x.text=t:=by
 cases L with
 |nil=>cases h
 |cons x L=>
  simp only[kindU]at h
  split at h
  ·rename_i hk
   injection h with h;injection h with h1 h2
   exact⟨x,by rw[h2],hk,h1⟩
  ·cases h
theorem mustU_ok {e:Nat}{L L':List Sgn}{t:List UInt8}{u:Unit}(h:mustU e L t=.ok (u,L')):isT L 0 t=true∧L'=L.tail:=by
 obtain⟨h1,h2,_⟩:=mustU_inv h
 exact⟨h2,h1⟩
set_option maxHeartbeats 2000000 in
theorem Yterm_S (s:St)(r e i j:Nat)(W L L':List Sgn)(t:Trm)(hw:W.length≤40000)(hG:GoodU L)(hi:Sfx W i L)(h:termU e L=.ok (t,L'))(hj:Sfx W j L'):SRet Tryz.prog 134 [.ptr r 0] (Rw s r e W i) (.agg (trmC t)) (Rw s r e W j):=by
 have hx:∃x,L=x::L'∧((x.kind=2∧t=⟨false,[],(numN x.text:Nat)⟩)∨(x.kind=1∧t=⟨true,x.text,0⟩)):=by
  unfold termU at h
  split at h
  ·cases hk:numU e L with
   |error q=>rw[hk]at h;cases h
   |ok q=>
    obtain⟨n,L1⟩:=q
    rw[hk,bu_ok]at h
    injection h with h;injection h with h1 h2
    subst h1;subst h2
    unfold numU at hk
    cases hq:kindU e L 2 with
    |error q=>rw[hq]at hk;cases hk
    |ok q=>
     obtain⟨tx,L2⟩:=q
     rw[hq,bu_ok]at hk
     injection hk with hk;injection hk with h1 h2
     subst h1;subst h2
     obtain⟨x,rfl,hk,ht⟩:=kindU_ok hq
     exact⟨x,rfl,.inl ⟨hk,by rw[ht]⟩⟩
  ·cases hq:nameU e L with
   |error q=>rw[hq]at h;cases h
   |ok q=>
    obtain⟨tx,L2⟩:=q
    rw[hq,bu_ok]at h
    injection h with h;injection h with h1 h2
    subst h1;subst h2
    obtain⟨x,rfl,hk,ht⟩:=kindU_ok hq
    exact⟨x,rfl,.inr ⟨hk,by rw[ht]⟩⟩
 obtain⟨x,rfl,hx⟩:=hx
 obtain⟨h1,h2,h3⟩:=hi.cons
 have hij:j=i+1:=by
  have e1:=congrArg List.length h2.2
  have e2:=congrArg List.length hj.2
  rw[List.length_drop]at e1 e2
  have:=h2.1;have:=hj.1
  omega
 subst hij
 have hsx:=sgnC_at h1
 have hwl:(W.map sgnC).length=W.length:=List.length_map _
 rcases hx with ⟨hk,rfl⟩|⟨hk,rfl⟩
 ·have w1:=fun s=>Ykind_S s r e i W x 2 hw h1 hk
  obtain⟨n,hn,hl⟩:=hG x (by simp) hk
  have hk2:(x.kind:Int)=2:=by omega
  have hnn:numN x.text=n:=by simp[numN,hn]
  rw[hnn]
  have w2:=fun s=>Atoi_S x.text n hl hn s
  clear h hi hj h2 h1 hG hk hnn hn hl
  refine G_enter Tryz.func134 rfl Tryz.ntmps134 rfl fun Q hQ hQe=>?_
  (repeat'(first|refine Ctl ?_|(with_reducible first|(refine Kof.use hK ?_;clear hK hE K E)|(refine Kof.use hKh ?_;clear hKh Kh)|refine G_plan 1 [] [0,1,2,3,4,5,6,7,8,9,10,11,12,13,14,15,16,17,18,19,20,21,22,23] hQe fun K E hK hE=>?_)|((with_reducible refine W_cond (fun h=>?_) (fun h=>?_))<;>(try(exfalso;assumption)))|((first|(with_reducible first|refine G_region fun K E hK hE=>?_|refine call_ret can47 (w1 _) ?_|refine call_ret can48 (w2 _) ?_|refine P_fin fun Kh hKh=>?_)|((with_reducible refine W_fresh (fun b hb=>?_));(repeat(obtain⟨_,hb⟩:=hb))))<;>(try simp(disch:=first|assumption|omega) only[go_sem,seval,hwl,hsx, *]))))
  all_goals(refine W_ret res134 hQ ?_)
  all_goals(refine⟨_,_,Wk.of_eq ?_,?_,rfl,rfl⟩)
  all_goals first|rfl|(exact z_fg)
 ·have w1:=fun s=>Ykind_S s r e i W x 1 hw h1 hk
  have hk2:¬ (x.kind:Int)=2:=by omega
  clear h hi hj h2 h1 hG hk
  refine G_enter Tryz.func134 rfl Tryz.ntmps134 rfl fun Q hQ hQe=>?_
  (repeat'(first|refine Ctl ?_|(with_reducible first|(refine Kof.use hK ?_;clear hK hE K E)|(refine Kof.use hKh ?_;clear hKh Kh)|refine G_plan 1 [] [0,1,2,3,4,5,6,7,8,9,10,11,12,13,14,15,16,17,18,19,20,21,22,23] hQe fun K E hK hE=>?_)|((with_reducible refine W_cond (fun h=>?_) (fun h=>?_))<;>(try(exfalso;assumption)))|((first|(with_reducible first|refine G_region fun K E hK hE=>?_|refine call_ret can47 (w1 _) ?_|refine P_fin fun Kh hKh=>?_)|((with_reducible refine W_fresh (fun b hb=>?_));(repeat(obtain⟨_,hb⟩:=hb))))<;>(try simp(disch:=first|assumption|omega) only[go_sem,seval,hwl,hsx, *]))))
  all_goals(refine W_ret res134 hQ ?_)
  all_goals(refine⟨_,_,Wk.of_eq ?_,?_,rfl,rfl⟩)
  all_goals first|rfl|(exact z_fg)
end Go.Proofs.YtgdbgfjhenobdaaGreatDoor
