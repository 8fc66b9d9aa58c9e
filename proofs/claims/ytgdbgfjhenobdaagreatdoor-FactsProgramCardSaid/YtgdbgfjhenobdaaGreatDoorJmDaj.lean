/- Walks of functions that the claim reaches, and plain facts of them. Conditions: those in the statements. -/
import Derived.Test.YtgdbgfjhenobdaaGreatDoorJmUdj
import Derived.Test.YtgdbgfjhenobdaaGreatDoorJmYaj
set_option linter.unusedSimpArgs false
set_option linter.unusedVariables false
set_option maxRecDepth 100000
namespace Go.Proofs.YtgdbgfjhenobdaaGreatDoor
open Go.RowKit
attribute [local go_sem] Ru_at Ru_mk2 Ru_free Ru_set Ru_gt Ru_dis Ru_own Ru_ok Ru_ownd
attribute [local go_sem] disown_fl owned_fl own_fl
theorem Fg.own2 {B s:St}(h:Fg B s){o:Own}{T sz n m:Nat}(ho:OwnOk B o m):Fg (B.own o T sz n) (s.own o T sz n):=by
 cases o with
 |no=>exact h
 |full=>exact h
 |at_ b=>
  intro x
  by_cases e:x=b
  ·subst e
   exact .inr ((St.set_same _ _ _).trans (St.set_same _ _ _).symm)
  ·have:=h x
   simp only[St.own]
   rw[St.set_other _ _ e,St.set_other _ _ e]
   exact this
theorem ownok_fg {B s:St}(h:Fg B s){o:Own}{m:Nat}(ho:OwnOk B o m):OwnOk s o m:=by
 cases o with
 |no=>exact ho
 |full=>exact ho
 |at_ b=>
  simp only[OwnOk]at ho ⊢
  rcases h b with e|e
  ·exact e
  ·exact e.trans ho
set_option maxHeartbeats 8000000 in
theorem UParseD_S (l:List UInt8)(hl:l.length≤9223372036854775000)(x0:Pgm)(hx0:parseR l=.ok x0)(s:St):SCalls Tryz.prog 16 [.str l] s fun w u=>∃q:Own×St,w=.ret (.tup [.agg [.lst (x0.doms.map dmC) q.1,.lst (x0.decls.map dclC) .no,.lst (x0.rules.map rulC) .no],.int .i64 0,.int .i64 0])∧u=q.2∧(OwnOk s q.1 x0.doms.length∧q.2=s.own q.1 57 2 x0.doms.length):=by
 have hsig:=signs_S l hl
 have HX0:=Lib.hid hx0
 clear hx0
 refine G_enterD (pre:=[_,_,_]) Tryz.func16 rfl Tryz.ntmps16 rfl can41 rfl rfl (by decide) fun Q hQ hQe=>?_
 change Kp _ _ _ [.code _,.code _,.code _] _ _ _ _
 cases hL:lexSigns l with
 |error x=>
  obtain⟨a,e⟩:=x
  have hx0:=HX0.out;unfold parseR at hx0;rw[hL]at hx0;cases hx0
 |ok L=>
  obtain⟨hG,hLl⟩:=lexSigns_goodU hL
  rw[hL]at hsig
  simp only[signsV]at hsig
  (repeat'(first|refine Ctl ?_|((with_reducible refine Kof.use hK ?_);clear hK hE K E)|((with_reducible refine W_cond (fun h=>?_) (fun h=>?_))<;>(try(exfalso;assumption)))|((first|(with_reducible first|refine G_region fun K E hK hE=>?_|refine call_ret can40 (hsig _) ?_)|((with_reducible refine W_fresh (fun b hb=>?_));(repeat(obtain⟨_,hb⟩:=hb))))<;>(try simp(disch:=first|assumption|omega) only[go_sem,seval, *]))))
  rename_i b2 hb2 b3 q1 q2 hb3 q3 q4 q5 q6
  clear h hsig hQe
  refine QP_norm hQ fun D Q2 hQ2 hQe=>?_
  clear hQ Q
  (repeat'(first|refine Ctl ?_|((with_reducible refine Kof.use hK ?_);clear hK hE K E)|((first|(with_reducible refine G_region fun K E hK hE=>?_)|((with_reducible refine W_fresh (fun b hb=>?_));(repeat(obtain⟨_,hb⟩:=hb))))<;>(try simp(disch:=omega) only[go_sem,seval,Ru_mk, *]))))
  rename_i b4 hb4 q11 q12 q13 q14 q15 q16
  have hgo0:=parseR_ok hL
  have e2:(Ru (((s.set b2 (.obj 33 [.lst [] .full,.lst [] .full,.lst [] .full])).set b3 (.obj 3 [.int .i64 0])).set b4 (.obj 34 [.int .i64 0])) b l.length L) b2=.obj 33 [.lst [] .full,.lst [] .full,.lst [] .full]:=by
   simp(disch:=assumption) only[go_sem,seval, *]
  refine Kp_gs (GS.pg0 e2) ?_
  have e3:(Ru (((s.set b2 (.obj 33 [.lst [] .full,.lst [] .full,.lst [] .full])).set b3 (.obj 3 [.int .i64 0])).set b4 (.obj 34 [.int .i64 0])) b l.length L).set b2 (.pk 33 (pgC ⟨[],[],[]⟩) rsP)=Pg ((s.set b3 (.obj 3 [.int .i64 0])).set b4 (.obj 34 [.int .i64 0])) b2 b l.length ⟨[],[],[]⟩ L:=by
   rw[Ru_set (by assumption)]
   simp only[Pg]
   refine congrArg (fun t=>Ru t b l.length L) (funext fun z=>?_)
   simp only[St.set]
   by_cases h1:z=b2
   ·simp[h1]
   ·simp[h1]
  rw[e3]
  clear e2 e3
  have hB3:((s.set b3 (.obj 3 [.int .i64 0])).set b4 (.obj 34 [.int .i64 0])) b3=.obj 3 [.int .i64 0]:=by rw[St.set_other _ _ (by assumption),St.set_same]
  have hB4:((s.set b3 (.obj 3 [.int .i64 0])).set b4 (.obj 34 [.int .i64 0])) b4=.obj 34 [.int .i64 0]:=St.set_same _ _ _
  have hBf:Fg ((s.set b3 (.obj 3 [.int .i64 0])).set b4 (.obj 34 [.int .i64 0])) s:=z_fg
  generalize ((s.set b3 (.obj 3 [.int .i64 0])).set b4 (.obj 34 [.int .i64 0]))=B at *
  have HB:=Lib.hid hBf
  clear hBf
  refine L_loop (fun m env s'=>∃(L2:List Sgn) (x:Pgm),L2.length+1≤m∧L2.length≤4096∧GoodU L2∧x.doms.length+L2.length≤4096∧x.decls.length+L2.length≤4096∧x.rules.length+L2.length≤4096 ∧
   parseR l=unU (itemsU l.length m x L2)∧s'=Pg B b2 b l.length x L2∧env 2=.ptr b2 0∧env 3=.ptr b3 0∧env 4=.ptr b4 0∧env 6=.ptr b 0) (L.length+1) ?_ ?_
  ·exact⟨L,⟨[],[],[]⟩,by omega,hLl,hG,by simpa using hLl,by simpa using hLl,by simpa using hLl,hgo0,rfl,z_sl,z_sl,z_sl,z_sl⟩
  ·rintro m env s' ⟨L2,x,hm,hl2,hG2,hx1,hx2,hx3,hgo,rfl,z2,z3,z4,z6⟩
   clear hgo0
   obtain⟨g,rfl⟩:∃g,m=g+1:=⟨m - 1,by omega⟩
   have HG:=Lib.hid hgo
   clear hgo
   cases L2 with
   |nil=>
    have hfin:parseR l=.ok x:=by rw[show parseR l=_ from HG];simp[itemsU,unU]
    have hxe:x=x0:=by have:=hfin.symm.trans HX0.out;injection this
    subst hxe
    have hdl:(x.doms.map dmC).length=x.doms.length:=List.length_map _
    have HBQ:=Lib.hid (And.intro hb2 (And.intro hb3 (And.intro hb4 hb)))
    clear hfin HG
    refine Kp_unpk b2 0 (T':=57) (sz:=2) [(1,67,2),(2,74,4)] (Pg_at q16) rfl (by simp) (by simp) ?_
    intro o hO hop
    have hor:NotOwn o b:=hO.not (by simp only[Pg,Ru_at];simp)
    simp only[Pg]
    rw[Ru_unpk q16 hop hor]
    simp only[Pg,Ru_ok,ownok_pk,hdl,pgC,List.set]at hO ⊢
    obtain⟨_,_,hO⟩:=hO
    have ho3:NotOwn o b3:=hO.not (by rw[hB3];simp)
    have ho4:NotOwn o b4:=hO.not (by rw[hB4];simp)
    have HOO:=Lib.hid (And.intro hO (And.intro hop (And.intro hor (And.intro ho3 ho4))))
    (repeat'(first|refine Ctl ?_|((with_reducible refine Kof.use hK ?_);clear hK hE K E)|((with_reducible refine W_cond (fun h=>?_) (fun h=>?_))<;>(try(exfalso;assumption)))|(((with_reducible refine G_region fun K E hK hE=>?_))<;>(try simp(disch:=first|assumption|omega) only[go_sem,seval,Ru_ok,Ru_dis,Ru_own,Ru_ownd,disown_fl,owned_fl,ownok_pk,or_true,if_true,List.map_nil,List.length_nil, *]))))
    refine QD_ret hQ2 (urec0 _ _ _ _) (by simp(disch:=assumption) only[res16,go_sem,seval, *]<;>rfl) ⟨_,s.own o 57 2 x.doms.length,Wk.refl _,?_,(o,_),rfl,rfl,ownok_fg HB.out HOO.out.1,rfl⟩
    obtain⟨hO,hop,hor,ho3,ho4⟩:=HOO.out
    obtain⟨hb2,hb3,hb4,hb⟩:=HBQ.out
    exact Fg.setA (Fg.setA (Fg.setA (Fg.setA (Fg.own2 HB.out hO) (by rw[own_fr];exact⟨hop,hb2⟩)) (by rw[own_fr];exact⟨ho3,hb3⟩)) (by rw[own_fr];exact⟨ho4,hb4⟩)) (by rw[own_fr];exact⟨hor,hb⟩)
   |cons y L2=>
    have hpos:0<(y::L2).length:=by simp
    generalize hX:y::L2=L3 at *
    clear hX
    have hm2:(L3.map sgnC).length=L3.length:=by simp
    (repeat'(first|refine Ctl ?_|((with_reducible refine Kof.use hK ?_);clear hK hE K E)|((with_reducible refine Eof.use hE ?_);(try clear hK hE K E))|((with_reducible refine W_cond (fun h=>?_) (fun h=>?_))<;>(try(exfalso;omega)))|((first|(with_reducible refine G_region fun K E hK hE=>?_)|((with_reducible refine call_pq can42 (uitem_S _ _ _ _ _ _ (by assumption) (by omega) (by assumption) (by omega)) (fun a Lx ix h hc=>?_) (fun at_ er Lx h=>?_))))<;>(try simp(disch:=omega) only[go_sem,seval,hm2, *]))))
    ·have hL3:L3≠[]:=by rintro rfl;simp at hpos
     obtain⟨k1,k2,k3,k4,k5⟩:=itemU_sub h
     have hgo:parseR l=unU (itemsU l.length g a Lx):=by rw[show parseR l=_ from HG,itemsU,if_neg hL3,h,bu_ok]
     exact⟨g,by omega,Lx,a,by omega,by omega,hG2.sub k2,by omega,by omega,by omega,hgo,rfl,z_sl,z_sl,z_sl,z_sl⟩
    ·have hL3:L3≠[]:=by rintro rfl;simp at hpos
     have hfin:parseR l=.error (at_,er):=by rw[show parseR l=_ from HG,itemsU,if_neg hL3,h,bu_err];rfl
     exact absurd (HX0.out.symm.trans hfin) (by simp)
end Go.Proofs.YtgdbgfjhenobdaaGreatDoor
namespace Go.Proofs.YtgdbgfjhenobdaaGreatDoor
open Go.RowKit
attribute [local go_sem] Rw_at Rw_mk2 Rw_free Rw_set Rw_gt Rw_dis Rw_own Rw_ok Rw_ownd
attribute [local go_sem] disown_fl owned_fl own_fl
theorem roomU_okY {e hv m:Nat}{L L':List Sgn}{b:Bool}{u:Unit}(h:roomU e L hv m b=.ok (u,L')):L'=L:=by
 unfold roomU at h
 split at h
 ·cases h
 ·injection h with h;injection h with _ h;exact h.symm
theorem listGo_step {α:Type}{e f:Nat}{one:List Sgn→PU α}{ks:List Int}{out xs:List α}{L Lend:List Sgn}(h:listGo e one ks (f+1) out L=.ok (xs,Lend)) :
  ∃x L1,one L=.ok (x,L1)∧((isT L1 0 [44]=true∧listGo e one ks f (out++[x]) L1.tail=.ok (xs,Lend))∨(isT L1 0 [44]=false∧xs=out++[x]∧Lend=L1)):=by
 simp only[listGo]at h
 cases hr:roomU e L out.length 8 (nextB ks L)with
 |error q=>rw[hr]at h;cases h
 |ok q=>
  obtain⟨u,L0⟩:=q
  have e0:=roomU_okY hr
  subst e0
  rw[hr,bu_ok]at h
  cases h1:one L0 with
  |error q=>rw[h1]at h;cases h
  |ok q=>
   obtain⟨x,L1⟩:=q
   rw[h1,bu_ok]at h
   refine⟨x,L1,rfl,?_⟩
   split at h
   ·rename_i hc;exact .inl ⟨hc,h⟩
   ·rename_i hc
    injection h with h;injection h with h2 h3
    exact .inr ⟨by simpa using hc,h2.symm,h3.symm⟩
theorem listGo_more {α:Type}{e:Nat}{one:List Sgn→PU α}{ks:List Int}:∀(f:Nat) {out xs:List α} {L Lend:List Sgn},listGo e one ks f out L=.ok (xs,Lend)→out.length<xs.length
 |0,out,xs,L,Lend,h=>by cases h
 |f+1,out,xs,L,Lend,h=>by
  obtain⟨x,L1,_,⟨_,h2⟩|⟨_,h2,_⟩⟩:=listGo_step h
  ·have:=listGo_more f h2
   rw[List.length_append]at this
   simp only[List.length_cons,List.length_nil]at this;omega
  ·rw[h2];simp
theorem termU_cons {e:Nat}{L L':List Sgn}{t:Trm}(h:termU e L=.ok (t,L')):∃x,L=x::L':=by
 unfold termU at h
 split at h
 ·unfold numU at h
  cases hq:kindU e L 2 with
  |error q=>rw[hq]at h;cases h
  |ok q=>
   obtain⟨tx,L2⟩:=q
   rw[hq,bu_ok,bu_ok]at h
   injection h with h;injection h with h1 h2
   subst h2
   obtain⟨x,hx,_⟩:=kindU_ok hq
   exact⟨x,hx⟩
 ·cases hq:nameU e L with
  |error q=>rw[hq]at h;cases h
  |ok q=>
   obtain⟨tx,L2⟩:=q
   rw[hq,bu_ok]at h
   injection h with h;injection h with h1 h2
   subst h2
   obtain⟨x,hx,_⟩:=kindU_ok hq
   exact⟨x,hx⟩
theorem atomU_ok {e:Nat}{L L':List Sgn}{nt:Bool}{a:Atm}(h:atomU e L nt=.ok (a,L')):∃x L1 L3,L=x::L1∧x.kind=1∧a.rel=x.text∧a.not=nt∧isT L1 0 [40]=true ∧
  listGo e (termU e) [1,2] (L1.tail.length+1) [] L1.tail=.ok (a.ts,L3)∧isT L3 0 [41]=true∧L'=L3.tail:=by
 unfold atomU at h
 cases h1:nameU e L with
 |error q=>rw[h1]at h;cases h
 |ok q=>
  obtain⟨rel,L1⟩:=q
  rw[h1,bu_ok]at h
  obtain⟨x,rfl,hk,ht⟩:=kindU_ok h1
  cases h2:listU e (termU e) [1,2] L1 with
  |error q=>rw[h2]at h;cases h
  |ok q=>
   obtain⟨ts,L4⟩:=q
   rw[h2,bu_ok]at h
   injection h with h;injection h with e1 e2
   subst e1;subst e2
   unfold listU at h2
   cases h3:mustU e L1 [40]with
   |error q=>rw[h3]at h2;cases h2
   |ok q=>
    obtain⟨u,L2⟩:=q
    obtain⟨c1,rfl⟩:=mustU_ok h3
    rw[h3,bu_ok]at h2
    cases h4:listGo e (termU e) [1,2] (L1.tail.length+1) [] L1.tail with
    |error q=>rw[h4]at h2;cases h2
    |ok q=>
     obtain⟨xs,L3⟩:=q
     rw[h4,bu_ok]at h2
     cases h5:mustU e L3 [41]with
     |error q=>rw[h5]at h2;cases h2
     |ok q=>
      obtain⟨u,L5⟩:=q
      obtain⟨c2,rfl⟩:=mustU_ok h5
      rw[h5,bu_ok]at h2
      injection h2 with h2;injection h2 with e1 e2
      subst e1
      exact⟨x,L1,L3,rfl,hk,ht.symm,rfl,c1,h4,c2,e2.symm⟩
set_option maxHeartbeats 4000000 in
theorem Yatom_S (s:St)(r e i j:Nat)(W L L':List Sgn)(a:Atm)(hw:W.length≤40000)(hG:GoodU L)(hi:Sfx W i L)(h:atomU e L false=.ok (a,L'))(hj:Sfx W j L')(h8:a.ts.length≤8):SRet Tryz.prog 91 [.ptr r 0] (Rw s r e W i) (.agg (atmC a)) (Rw s r e W j):=by
 obtain⟨x,L1,L3,rfl,hk,hrel,hnt,c1,hgo,c2,rfl⟩:=atomU_ok h
 clear h
 obtain⟨an,ar,ats⟩:=a
 simp only at hrel hnt hgo h8
 subst hnt
 obtain⟨g1,g2,g3⟩:=hi.cons
 have w1:=fun s=>Ykind_S s r e i W x 1 hw g1 hk
 rw[← hrel]at w1
 have hc1:isT W (i+1) [40]=true:=by rw[g2.isT];exact c1
 have w2:=fun s=>Ytakes_S s r e (i+1) W [40] hw hc1
 have g4:=g2.tail c1
 have hG2:GoodU L1.tail:=fun y hy=>hG y (List.mem_cons_of_mem _ (List.mem_of_mem_tail hy))
 obtain⟨t0,L4,ht0,hrest⟩:=listGo_step hgo
 obtain⟨x4,hx4⟩:=termU_cons ht0
 rw[hx4]at g4 hG2 ht0
 obtain⟨g5,g6,g7⟩:=g4.cons
 have w3:=fun s=>Yterm_S s r e (i+1+1) (i+1+1+1) W _ L4 t0 hw hG2 g4 ht0 g6
 have hG4:GoodU L4:=fun y hy=>hG2 y (List.mem_cons_of_mem _ hy)
 clear g1 g2 g3 g4 g5 g7 c1 hc1 ht0 hx4 hk hG hG2 hgo
 rw[List.nil_append]at hrest
 have HRest:=Lib.hid hrest
 have HG4:=Lib.hid hG4
 have HS6:=Lib.hid g6
 clear hrest hG4 g6
 refine G_enter Tryz.func91 rfl Tryz.ntmps91 rfl fun Q hQ hQe=>?_
 (repeat'(first|refine Ctl ?_|(with_reducible first|(refine Kof.use hK ?_;clear hK hE K E)|(refine Kof.use hKh ?_;clear hKh Kh)|(refine Kof.use hKb (P_next ?_);clear hKb Kb)|refine G_plan 3 [([0,1,2],3,[[0,1]]),([4],5,[[],[]]),([6],7,[[],[],[]])] [] hQe fun K E hK hE=>?_)|((first|(with_reducible first|refine G_region fun K E hK hE=>?_|refine call_ret can47 (w1 _) ?_|refine call_ret can49 (w2 _) ?_|refine call_ret can134 (w3 _) ?_|refine P_heads fun Kh hKh=>?_|refine P_fin fun Kh hKh=>?_|refine P_each fun Kb hKb=>?_)|((with_reducible refine W_fresh (fun b hb=>?_));(repeat(obtain⟨_,hb⟩:=hb)))|((with_reducible refine W_app (fun o2 ho=>?_));(try simp(disch:=assumption) only[disown_set,disown_own,ownok_o,ownok_m,List.length_map,List.length_cons,List.length_nil,Nat.zero_add,trmC,Rw_ok,Rw_dis,Rw_own,Rw_ownd,disown_fl,owned_fl]at ho);(repeat(obtain⟨_,ho⟩:=ho))))<;>(try simp(disch:=first|assumption|omega) only[go_sem,seval,trmC,Rw_ok,Rw_dis,Rw_own,Rw_ownd,disown_fl,owned_fl, *]))))
 rename_i bz z1 z2 hbz z3 z4 z5 z6 q7 q8 q9
 obtain⟨bA,hbA⟩:∃x,x=b:=⟨_,rfl⟩
 subst hbA
 subst hrel
 refine G_loop (fun m env t=>∃(p:Nat) (ts:List Trm) (o:Own) (Lp:List Sgn),Sfx W p Lp∧GoodU Lp∧m=Lp.length∧((isT Lp 0 [44]=true∧∃f,listGo e (termU e) [1,2] f ts Lp.tail=.ok (ats,L3))∨(isT Lp 0 [44]=false∧ats=ts∧L3=Lp)) ∧
  t=Rw (((s.own o 171 3 ts.length).set bz (.obj 71 [.bool false,.str [],.lst [] .full])).set bA (.obj 71 [.bool false,.str x.text,.lst (ts.map trmC) o])) r e W p∧OwnOk s o ts.length∧NotOwn o r∧NotOwn o bA∧NotOwn o bz ∧
  env 0=.ptr r 0∧env 2=.ptr bz 0∧env 3=.ptr bA 0) L4.length ?_ ?_
 ·refine⟨_,Fg.refl _,i+1+1+1,[t0],o2,L4,HS6.out,HG4.out,rfl,?_,rfl,ho,by assumption,by assumption,by assumption,z_sl,z_sl,z_sl⟩
  rcases HRest.out with ⟨k1,k2⟩|k
  ·exact .inl ⟨k1,_,k2⟩
  ·exact .inr k
 ·clear w1 w2 w3 HRest HG4 HS6 hi ho q7 q8 q9 o2 t0 x4
  rintro m env t ⟨p,ts,o,Lp,hS,hGp,rfl,hrest,rfl,hO,hor,hoA,hoz,e0,e2,e3⟩
  have hpl:=hS.1
  rcases hrest with ⟨hc,f,hf⟩|⟨hc,hts,hL⟩
  ·have hlt:=listGo_more f hf
   cases f with
   |zero=>cases hf
   |succ f=>
    obtain⟨t1,L5,ht1,hrest⟩:=listGo_step hf
    obtain⟨x5,hx5⟩:=termU_cons ht1
    have g1:=hS.tail hc
    have hG5:GoodU Lp.tail:=fun y hy=>hGp y (List.mem_of_mem_tail hy)
    have hWc:isT W p [44]=true:=by rw[hS.isT];exact hc
    have hlp:L5.length<Lp.length:=by
     have:=congrArg List.length hx5
     rw[List.length_tail]at this
     simp only[List.length_cons]at this;omega
    rw[hx5]at g1 hG5 ht1
    obtain⟨g5,g6,g7⟩:=g1.cons
    have hp1:=g1.1
    have v1:=fun s=>Ymore1_S s r e p W hw hpl hWc
    have v2:=fun s a b t=>Ynext_S s r e (p+1) W a b t hp1
    have v3:=fun s b=>Yroom_S s r e (p+1) W (ts.length:Int) 8 b (by omega)
    have v4:=fun s=>Yterm_S s r e (p+1) (p+1+1) W _ L5 t1 hw hG5 g1 ht1 g6
    have hGL:GoodU L5:=fun y hy=>hG5 y (List.mem_cons_of_mem _ hy)
    have HR:=Lib.hid hrest
    have HGL:=Lib.hid hGL
    have HS:=Lib.hid g6
    have HM:=Lib.hid hlp
    have hml:(ts.map trmC).length=ts.length:=List.length_map _
    have hml8:ts.length<8:=by omega
    clear hrest hGL g6 hlp ht1 hf hx5 hc hWc hS hGp g1 hG5 g5 g7 hlt
    (repeat'(first|refine Ctl ?_|(with_reducible first|(refine Kof.use hK ?_;clear hK hE K E)|(refine Kof.use hKh ?_;clear hKh Kh)|(refine Kof.use hKb (P_next ?_);clear hKb Kb)|refine G_plan 5 [([0,1,2,3,4],5,[[0,1,2,3]]),([],6,[[],[]])] [] hQe fun K E hK hE=>?_|refine G_plan 6 [([0,1,2],3,[[0,1]]),([4],5,[[],[]]),([6],7,[[],[],[]])] [] hQe fun K E hK hE=>?_)|((with_reducible refine W_cond (fun h=>?_) (fun h=>?_))<;>(try(exfalso;assumption)))|((first|(with_reducible first|refine G_region fun K E hK hE=>?_|refine call_ret can90 (v1 _) ?_|refine call_ret can46 (v3 _ _) ?_|refine call_ret can134 (v4 _) ?_|refine P_heads fun Kh hKh=>?_|refine P_fin fun Kh hKh=>?_|refine P_each fun Kb hKb=>?_)|((with_reducible refine call_ex can51 (v2 _ _ _ _) (fun a h=>?_)))|((with_reducible refine W_app (fun o2 ho=>?_));(try simp(disch:=assumption) only[disown_set,disown_own,ownok_o,ownok_m,List.length_map,List.length_cons,List.length_nil,Nat.zero_add,trmC,Rw_ok,Rw_dis,Rw_own,Rw_ownd,disown_fl,owned_fl,hml]at ho);(repeat(obtain⟨_,ho⟩:=ho))))<;>(try simp(disch:=first|assumption|omega) only[go_sem,seval,trmC,Rw_ok,Rw_dis,Rw_own,Rw_ownd,disown_fl,owned_fl,hml, *]))))
    refine⟨Rw (((s.own o2 171 3 (ts++[t1]).length).set bz (.obj 71 [.bool false,.str [],.lst [] .full])).set bA (.obj 71 [.bool false,.str x.text,.lst ((ts++[t1]).map trmC) o2])) r e W (p+1+1),?_,L5.length,HM.out,p+1+1,ts++[t1],o2,L5,HS.out,HGL.out,rfl,?_,rfl,?_,by assumption,by assumption,by assumption,z_sl,z_sl,z_sl⟩
    ·simp only[List.map_append,List.map_cons,List.map_nil,trmC,List.length_append,List.length_cons,List.length_nil]
     exact Fg.refl _
    ·rcases HR.out with ⟨k1,k2⟩|k
     ·exact .inl ⟨k1,_,k2⟩
     ·exact .inr k
    ·simpa only[List.length_append,List.length_cons,List.length_nil]using ho
  ·subst hts
   subst hL
   have hWc:isT W p [44]=false:=by rw[hS.isT];exact hc
   have hWd:isT W p [41]=true:=by rw[hS.isT];exact c2
   have hjp:j=p+1:=by
    have g:=hS.tail c2
    have e1:=congrArg List.length g.2
    have e2:=congrArg List.length hj.2
    rw[List.length_drop]at e1 e2
    have:=g.1;have:=hj.1
    omega
   have v1:=fun s=>Ymore0_S s r e p W hpl hWc
   have v2:=fun s=>Ytakes_S s r e p W [41] hw hWd
   subst hjp
   clear hc hWc hWd c2 hj hS hGp
   (repeat'(first|refine Ctl ?_|((with_reducible refine Kof.use hK ?_);clear hK hE K E)|((with_reducible refine W_cond (fun h=>?_) (fun h=>?_))<;>(try(exfalso;assumption)))|(((with_reducible first|refine G_region fun K E hK hE=>?_|refine call_ret can90 (v1 _) ?_|refine call_ret can49 (v2 _) ?_))<;>(try simp(disch:=first|assumption|omega) only[go_sem,seval,trmC,Rw_ok,Rw_dis,Rw_own,Rw_ownd,disown_fl,owned_fl, *]))))
   all_goals(refine W_ret res91 hQ ?_)
   refine⟨_,Rw s r e W (p+1),Wk.agg ?_,?_,rfl,rfl⟩
   ·simp only[atmC];(repeat(first|exact WkL.nil|apply WkL.same|apply WkL.lst))
   ·refine Fg.rw ?_
    (exact z_fg)
end Go.Proofs.YtgdbgfjhenobdaaGreatDoor
namespace Go.Proofs.YtgdbgfjhenobdaaGreatDoor
open Go.RowKit
attribute [local go_sem] Rw_at Rw_mk2 Rw_free Rw_set Rw_gt Rw_dis Rw_own Rw_ok Rw_ownd
attribute [local go_sem] disown_fl owned_fl own_fl
theorem Sfx.one {W L:List Sgn}{i j:Nat}(h:Sfx W i L)(k:Sfx W j L):j=i:=by
 have e1:=congrArg List.length h.2
 have e2:=congrArg List.length k.2
 rw[List.length_drop]at e1 e2
 have:=h.1;have:=k.1
 omega
def declU (e:Nat)(L:List Sgn):PU Dcl:=bu (nameU e L) fun n L=>bu (listU e (nameU e) [1] L) fun ds L=>bu (mustU e L [46]) fun _ L=>.ok (⟨n,ds⟩,L)
theorem declU_ok {e:Nat}{L L':List Sgn}{a:Dcl}(h:declU e L=.ok (a,L')):∃x L1 L3,L=x::L1∧x.kind=1∧a.name=x.text∧isT L1 0 [40]=true ∧
  listGo e (nameU e) [1] (L1.tail.length+1) [] L1.tail=.ok (a.doms,L3)∧isT L3 0 [41]=true∧isT L3.tail 0 [46]=true∧L'=L3.tail.tail:=by
 unfold declU at h
 cases h1:nameU e L with
 |error q=>rw[h1]at h;cases h
 |ok q=>
  obtain⟨rel,L1⟩:=q
  rw[h1,bu_ok]at h
  obtain⟨x,rfl,hk,ht⟩:=kindU_ok h1
  cases h2:listU e (nameU e) [1] L1 with
  |error q=>rw[h2]at h;cases h
  |ok q=>
   obtain⟨ts,L4⟩:=q
   rw[h2,bu_ok]at h
   cases h0:mustU e L4 [46]with
   |error q=>rw[h0]at h;cases h
   |ok q=>
    obtain⟨u,L6⟩:=q
    obtain⟨c3,rfl⟩:=mustU_ok h0
    rw[h0,bu_ok]at h
    injection h with h;injection h with e1 e2
    subst e1;subst e2
    unfold listU at h2
    cases h3:mustU e L1 [40]with
    |error q=>rw[h3]at h2;cases h2
    |ok q=>
     obtain⟨u,L2⟩:=q
     obtain⟨c1,rfl⟩:=mustU_ok h3
     rw[h3,bu_ok]at h2
     cases h4:listGo e (nameU e) [1] (L1.tail.length+1) [] L1.tail with
     |error q=>rw[h4]at h2;cases h2
     |ok q=>
      obtain⟨xs,L3⟩:=q
      rw[h4,bu_ok]at h2
      cases h5:mustU e L3 [41]with
      |error q=>rw[h5]at h2;cases h2
      |ok q=>
       obtain⟨u,L5⟩:=q
       obtain⟨c2,rfl⟩:=mustU_ok h5
       rw[h5,bu_ok]at h2
       injection h2 with h2;injection h2 with e1 e2
       subst e1;subst e2
       exact⟨x,L1,L3,rfl,hk,ht.symm,c1,h4,c2,c3,rfl⟩
set_option maxHeartbeats 4000000 in
theorem Ydecl_S (s:St)(r e i j:Nat)(W L L':List Sgn)(a:Dcl)(hw:W.length≤40000)(hi:Sfx W i L)(h:declU e L=.ok (a,L'))(hj:Sfx W j L')(h8:a.doms.length≤8):SRet Tryz.prog 50 [.ptr r 0] (Rw s r e W i) (.agg (dclC a)) (Rw s r e W j):=by
 obtain⟨x,L1,L3,rfl,hk,hrel,c1,hgo,c2,c3,rfl⟩:=declU_ok h
 clear h
 obtain⟨ar,ats⟩:=a
 simp only at hrel hgo h8
 obtain⟨g1,g2,g3⟩:=hi.cons
 have w1:=fun s=>Ykind_S s r e i W x 1 hw g1 hk
 rw[← hrel]at w1
 have hc1:isT W (i+1) [40]=true:=by rw[g2.isT];exact c1
 have w2:=fun s=>Ytakes_S s r e (i+1) W [40] hw hc1
 have g4:=g2.tail c1
 obtain⟨t0,L4,ht0,hrest⟩:=listGo_step hgo
 obtain⟨x4,hx4,hk4,ht4⟩:=kindU_ok ht0
 rw[hx4]at g4 ht0
 obtain⟨g5,g6,g7⟩:=g4.cons
 have w3:=fun s=>Ykind_S s r e (i+1+1) W x4 1 hw g5 hk4
 rw[ht4]at w3
 clear g1 g2 g3 g4 g5 g7 c1 hc1 ht0 hx4 hk hk4 ht4 hgo
 rw[List.nil_append]at hrest
 have HRest:=Lib.hid hrest
 have HS6:=Lib.hid g6
 clear hrest g6
 refine G_enter Tryz.func50 rfl Tryz.ntmps50 rfl fun Q hQ hQe=>?_
 (repeat'(first|refine Ctl ?_|(with_reducible first|(refine Kof.use hK ?_;clear hK hE K E)|(refine Kof.use hKh ?_;clear hKh Kh)|(refine Kof.use hKb (P_next ?_);clear hKb Kb)|refine G_plan 3 [([0,1,2],3,[[0,1]]),([4],5,[[],[]]),([6],7,[[],[],[]])] [] hQe fun K E hK hE=>?_)|((first|(with_reducible first|refine G_region fun K E hK hE=>?_|refine call_ret can47 (w1 _) ?_|refine call_ret can49 (w2 _) ?_|refine call_ret can47 (w3 _) ?_|refine P_heads fun Kh hKh=>?_|refine P_fin fun Kh hKh=>?_|refine P_each fun Kb hKb=>?_)|((with_reducible refine W_fresh (fun b hb=>?_));(repeat(obtain⟨_,hb⟩:=hb)))|((with_reducible refine W_app (fun o2 ho=>?_));(try simp(disch:=assumption) only[disown_set,disown_own,ownok_o,ownok_m,List.length_map,List.length_cons,List.length_nil,Nat.zero_add,Rw_ok,Rw_dis,Rw_own,Rw_ownd,disown_fl,owned_fl]at ho);(repeat(obtain⟨_,ho⟩:=ho))))<;>(try simp(disch:=first|assumption|omega) only[go_sem,seval,Rw_ok,Rw_dis,Rw_own,Rw_ownd,disown_fl,owned_fl, *]))))
 rename_i bz z1 z2 hbz z3 z4 z5 z6 q7 q8 q9
 obtain⟨bA,hbA⟩:∃x,x=b:=⟨_,rfl⟩
 subst hbA
 subst hrel
 refine G_loop (fun m env t=>∃(p:Nat) (ts:List (List UInt8)) (o:Own) (Lp:List Sgn),Sfx W p Lp∧m=Lp.length∧((isT Lp 0 [44]=true∧∃f,listGo e (nameU e) [1] f ts Lp.tail=.ok (ats,L3))∨(isT Lp 0 [44]=false∧ats=ts∧L3=Lp)) ∧
  t=Rw (((s.own o 9 1 ts.length).set bz (.obj 67 [.str [],.lst [] .full])).set bA (.obj 67 [.str x.text,.lst (strs ts) o])) r e W p∧OwnOk s o ts.length∧NotOwn o r∧NotOwn o bA∧NotOwn o bz ∧
  env 0=.ptr r 0∧env 2=.ptr bz 0∧env 3=.ptr bA 0) L4.length ?_ ?_
 ·refine⟨_,Fg.refl _,i+1+1+1,[t0],o2,L4,HS6.out,rfl,?_,rfl,ho,by assumption,by assumption,by assumption,z_sl,z_sl,z_sl⟩
  rcases HRest.out with ⟨k1,k2⟩|k
  ·exact .inl ⟨k1,_,k2⟩
  ·exact .inr k
 ·clear w1 w2 w3 HRest HS6 hi ho q7 q8 q9 o2 t0 x4
  rintro m env t ⟨p,ts,o,Lp,hS,rfl,hrest,rfl,hO,hor,hoA,hoz,e0,e2,e3⟩
  have hpl:=hS.1
  rcases hrest with ⟨hc,f,hf⟩|⟨hc,hts,hL⟩
  ·have hlt:=listGo_more f hf
   cases f with
   |zero=>cases hf
   |succ f=>
    obtain⟨t1,L5,ht1,hrest⟩:=listGo_step hf
    obtain⟨x5,hx5,hk5,ht5⟩:=kindU_ok ht1
    have g1:=hS.tail hc
    have hWc:isT W p [44]=true:=by rw[hS.isT];exact hc
    have hlp:L5.length<Lp.length:=by
     have:=congrArg List.length hx5
     rw[List.length_tail]at this
     simp only[List.length_cons]at this;omega
    rw[hx5]at g1 ht1
    obtain⟨g5,g6,g7⟩:=g1.cons
    have hp1:=g1.1
    have v1:=fun s=>Ymore1_S s r e p W hw hpl hWc
    have v2:=fun s a b t=>Ynext_S s r e (p+1) W a b t hp1
    have v3:=fun s b=>Yroom_S s r e (p+1) W (ts.length:Int) 8 b (by omega)
    have v4:=fun s=>Ykind_S s r e (p+1) W x5 1 hw g5 hk5
    rw[ht5]at v4
    have HR:=Lib.hid hrest
    have HS:=Lib.hid g6
    have HM:=Lib.hid hlp
    have hml:(strs ts).length=ts.length:=by simp[strs]
    have hml8:ts.length<8:=by omega
    clear hrest g6 hlp ht1 hf hx5 hc hWc hS g1 g5 g7 hlt hk5 ht5
    (repeat'(first|refine Ctl ?_|(with_reducible first|(refine Kof.use hK ?_;clear hK hE K E)|(refine Kof.use hKh ?_;clear hKh Kh)|(refine Kof.use hKb (P_next ?_);clear hKb Kb)|refine G_plan 5 [([0,1,2,3,4],5,[[0,1,2,3]]),([],6,[[],[]])] [] hQe fun K E hK hE=>?_|refine G_plan 6 [([0,1,2],3,[[0,1]]),([4],5,[[],[]]),([6],7,[[],[],[]])] [] hQe fun K E hK hE=>?_)|((with_reducible refine W_cond (fun h=>?_) (fun h=>?_))<;>(try(exfalso;assumption)))|((first|(with_reducible first|refine G_region fun K E hK hE=>?_|refine call_ret can90 (v1 _) ?_|refine call_ret can46 (v3 _ _) ?_|refine call_ret can47 (v4 _) ?_|refine P_heads fun Kh hKh=>?_|refine P_fin fun Kh hKh=>?_|refine P_each fun Kb hKb=>?_)|((with_reducible refine call_ex can51 (v2 _ _ _ _) (fun a h=>?_)))|((with_reducible refine W_app (fun o2 ho=>?_));(try simp(disch:=assumption) only[disown_set,disown_own,ownok_o,ownok_m,List.length_map,List.length_cons,List.length_nil,Nat.zero_add,Rw_ok,Rw_dis,Rw_own,Rw_ownd,disown_fl,owned_fl,hml]at ho);(repeat(obtain⟨_,ho⟩:=ho))))<;>(try simp(disch:=first|assumption|omega) only[go_sem,seval,Rw_ok,Rw_dis,Rw_own,Rw_ownd,disown_fl,owned_fl,hml, *]))))
    refine⟨Rw (((s.own o2 9 1 (ts++[t1]).length).set bz (.obj 67 [.str [],.lst [] .full])).set bA (.obj 67 [.str x.text,.lst (strs (ts++[t1])) o2])) r e W (p+1+1),?_,L5.length,HM.out,p+1+1,ts++[t1],o2,L5,HS.out,rfl,?_,rfl,?_,by assumption,by assumption,by assumption,z_sl,z_sl,z_sl⟩
    ·simp only[strs,List.map_append,List.map_cons,List.map_nil,List.length_append,List.length_cons,List.length_nil]
     exact Fg.refl _
    ·rcases HR.out with ⟨k1,k2⟩|k
     ·exact .inl ⟨k1,_,k2⟩
     ·exact .inr k
    ·simpa only[List.length_append,List.length_cons,List.length_nil]using ho
  ·subst hts
   subst hL
   have hWc:isT W p [44]=false:=by rw[hS.isT];exact hc
   have hWd:isT W p [41]=true:=by rw[hS.isT];exact c2
   have g:=hS.tail c2
   have hWe:isT W (p+1) [46]=true:=by rw[g.isT];exact c3
   have hjp:j=p+1+1:=(g.tail c3).one hj
   have v1:=fun s=>Ymore0_S s r e p W hpl hWc
   have v2:=fun s=>Ytakes_S s r e p W [41] hw hWd
   have v3:=fun s=>Ytakes_S s r e (p+1) W [46] hw hWe
   subst hjp
   clear hc hWc hWd hWe c2 c3 hj hS g
   (repeat'(first|refine Ctl ?_|((with_reducible refine Kof.use hK ?_);clear hK hE K E)|((with_reducible refine W_cond (fun h=>?_) (fun h=>?_))<;>(try(exfalso;assumption)))|(((with_reducible first|refine G_region fun K E hK hE=>?_|refine call_ret can90 (v1 _) ?_|refine call_ret can49 (v2 _) ?_|refine call_ret can49 (v3 _) ?_))<;>(try simp(disch:=first|assumption|omega) only[go_sem,seval,Rw_ok,Rw_dis,Rw_own,Rw_ownd,disown_fl,owned_fl, *]))))
   all_goals(refine W_ret res50 hQ ?_)
   refine⟨_,Rw s r e W (p+1+1),Wk.agg ?_,?_,rfl,rfl⟩
   ·simp only[dclC];(repeat(first|exact WkL.nil|apply WkL.same|apply WkL.lst))
   ·refine Fg.rw ?_
    (exact z_fg)
theorem atomU_nt {e:Nat}{L L':List Sgn}{nt:Bool}{a:Atm}(h:atomU e L nt=.ok (a,L')):atomU e L false=.ok (⟨false,a.rel,a.ts⟩,L')∧a.not=nt:=by
 unfold atomU at h ⊢
 generalize nameU e L=q at h ⊢
 cases q with
 |error q=>cases h
 |ok q=>
  obtain⟨rel,L1⟩:=q
  simp only[bu_ok]at h ⊢
  generalize listU e (termU e) [1,2] L1=q at h ⊢
  cases q with
  |error q=>cases h
  |ok q=>
   obtain⟨ts,L4⟩:=q
   simp only[bu_ok]at h ⊢
   injection h with h;injection h with e1 e2
   subst e1;subst e2
   exact⟨rfl,rfl⟩
def litL (L:List Sgn):List Sgn:=if isT L 0 [33]=true then L.tail else L
set_option maxHeartbeats 4000000 in
theorem Ylit_S (s:St)(r e i j:Nat)(W L L':List Sgn)(a:Atm)(hw:W.length≤40000)(hG:GoodU L)(hi:Sfx W i L)(h:atomU e (litL L) (isT L 0 [33])=.ok (a,L'))(hj:Sfx W j L')(h8:a.ts.length≤8):SRet Tryz.prog 92 [.ptr r 0] (Rw s r e W i) (.agg (atmC a)) (Rw s r e W j):=by
 obtain⟨h1,h2⟩:=atomU_nt h
 clear h
 have hil:=hi.1
 have hw1:=fun s=>Yis_S s r e i W [33] hil
 rw[hi.isT]at hw1
 obtain⟨an,ar,ats⟩:=a
 simp only at h1 h2 h8
 cases hc:isT L 0 [33]with
 |true=>
  rw[hc]at hw1 h2
  subst h2
  simp only[litL,hc,if_true]at h1
  have hG2:GoodU L.tail:=fun y hy=>hG y (List.mem_of_mem_tail hy)
  have g:=hi.tail hc
  have w2:=fun s=>Yatom_S s r e (i+1) j W L.tail L' ⟨false,ar,ats⟩ hw hG2 g h1 hj h8
  simp only[atmC]at w2
  have hip:=g.1
  clear h1 hG hG2 g hi hj hc
  refine G_enter Tryz.func92 rfl Tryz.ntmps92 rfl fun Q hQ hQe=>?_
  (repeat'(first|refine Ctl ?_|((with_reducible refine Kof.use hK ?_);clear hK hE K E)|((with_reducible refine W_cond (fun h=>?_) (fun h=>?_))<;>(try(exfalso;assumption)))|((first|(with_reducible first|refine G_region fun K E hK hE=>?_|refine call_ret can45 (hw1 _) ?_|refine call_ret can91 (w2 _) ?_)|((with_reducible refine W_fresh (fun b hb=>?_));(repeat(obtain⟨_,hb⟩:=hb))))<;>(try simp(disch:=first|assumption|omega) only[go_sem,seval,Rw_ok,Rw_dis,Rw_own,Rw_ownd,disown_fl,owned_fl, *]))))
  all_goals(refine W_ret res92 hQ ?_)
  refine⟨_,Rw s r e W j,Wk.agg ?_,?_,rfl,rfl⟩
  ·simp only[atmC];(repeat(first|exact WkL.nil|apply WkL.same))
  ·refine Fg.rw ?_
   (exact z_fg)
 |false=>
  rw[hc]at hw1 h2
  subst h2
  simp only[litL,hc,Bool.false_eq_true,if_false]at h1
  have w2:=fun s=>Yatom_S s r e i j W L L' ⟨false,ar,ats⟩ hw hG hi h1 hj h8
  simp only[atmC]at w2
  clear h1 hG hi hj hc
  refine G_enter Tryz.func92 rfl Tryz.ntmps92 rfl fun Q hQ hQe=>?_
  (repeat'(first|refine Ctl ?_|((with_reducible refine Kof.use hK ?_);clear hK hE K E)|((with_reducible refine W_cond (fun h=>?_) (fun h=>?_))<;>(try(exfalso;assumption)))|((first|(with_reducible first|refine G_region fun K E hK hE=>?_|refine call_ret can45 (hw1 _) ?_|refine call_ret can91 (w2 _) ?_)|((with_reducible refine W_fresh (fun b hb=>?_));(repeat(obtain⟨_,hb⟩:=hb))))<;>(try simp(disch:=first|assumption|omega) only[go_sem,seval,Rw_ok,Rw_dis,Rw_own,Rw_ownd,disown_fl,owned_fl, *]))))
  all_goals(refine W_ret res92 hQ ?_)
  refine⟨_,Rw s r e W j,Wk.agg ?_,?_,rfl,rfl⟩
  ·simp only[atmC];(repeat(first|exact WkL.nil|apply WkL.same))
  ·refine Fg.rw ?_
   (exact z_fg)
end Go.Proofs.YtgdbgfjhenobdaaGreatDoor
namespace Go.Proofs.YtgdbgfjhenobdaaGreatDoor
open Go.RowKit
attribute [local go_sem] Rw_at Rw_mk2 Rw_free Rw_set Rw_gt Rw_dis Rw_own Rw_ok Rw_ownd
attribute [local go_sem] disown_fl owned_fl own_fl
theorem Sfx.suf {W L L':List Sgn}{i:Nat}(h:Sfx W i L)(k:L' <:+ L):∃j,Sfx W j L':=by
 obtain⟨h1,rfl⟩:=h
 obtain⟨p,hp⟩:=k.trans (List.drop_suffix i W)
 exact⟨p.length,by rw[← hp];simp,by rw[← hp];simp⟩
theorem suf_tail {L:List Sgn}:L.tail <:+ L:=List.tail_suffix L
theorem listGo_suf {α:Type}{e:Nat}{one:List Sgn→PU α}{ks:List Int}(hone:∀L x L',one L=.ok (x,L')→L' <:+ L):∀(f:Nat) {out xs:List α} {L Lend:List Sgn},listGo e one ks f out L=.ok (xs,Lend)→Lend <:+ L
 |0,out,xs,L,Lend,h=>by cases h
 |f+1,out,xs,L,Lend,h=>by
  obtain⟨x,L1,h1,⟨_,h2⟩|⟨_,_,h2⟩⟩:=listGo_step h
  ·exact((listGo_suf hone f h2).trans suf_tail).trans (hone _ _ _ h1)
  ·rw[h2];exact hone _ _ _ h1
theorem termU_suf {e:Nat}{L L':List Sgn}{t:Trm}(h:termU e L=.ok (t,L')):L' <:+ L:=by
 obtain⟨x,rfl⟩:=termU_cons h
 exact List.suffix_cons _ _
theorem atomU_suf {e:Nat}{L L':List Sgn}{nt:Bool}{a:Atm}(h:atomU e L nt=.ok (a,L')):L' <:+ L:=by
 obtain⟨x,L1,L3,rfl,_,_,_,_,hgo,_,rfl⟩:=atomU_ok h
 exact(suf_tail.trans ((listGo_suf (fun _ _ _ h=>termU_suf h) _ hgo).trans suf_tail)).trans (List.suffix_cons _ _)
theorem litL_suf {L:List Sgn}:litL L <:+ L:=by
 unfold litL;split
 ·exact suf_tail
 ·exact List.suffix_refl _
theorem bodyGo_step {e f:Nat}{out xs:List Atm}{L Lend:List Sgn}(h:bodyGo e (f+1) out L=.ok (xs,Lend)) :
  ∃x L1,atomU e (litL L) (isT L 0 [33])=.ok (x,L1)∧((isT L1 0 [44]=true∧bodyGo e f (out++[x]) L1.tail=.ok (xs,Lend))∨(isT L1 0 [44]=false∧xs=out++[x]∧Lend=L1)):=by
 simp only[bodyGo]at h
 cases hr:roomU e L out.length 8 (nextB [1] L || isT L 0 [33])with
 |error q=>rw[hr]at h;cases h
 |ok q=>
  obtain⟨u,L0⟩:=q
  have e0:=roomU_okY hr
  subst e0
  rw[hr,bu_ok]at h
  change bu (atomU e (litL L0) (isT L0 0 [33])) _=_ at h
  cases h1:atomU e (litL L0) (isT L0 0 [33])with
  |error q=>rw[h1]at h;cases h
  |ok q=>
   obtain⟨x,L1⟩:=q
   rw[h1,bu_ok]at h
   refine⟨x,L1,rfl,?_⟩
   split at h
   ·rename_i hc;exact .inl ⟨hc,h⟩
   ·rename_i hc
    injection h with h;injection h with h2 h3
    exact .inr ⟨by simpa using hc,h2.symm,h3.symm⟩
theorem bodyGo_more {e:Nat}:∀(f:Nat) {out xs:List Atm} {L Lend:List Sgn},bodyGo e f out L=.ok (xs,Lend)→out.length<xs.length∧(∀y,y∈out→y∈xs)∧Lend <:+ L
 |0,out,xs,L,Lend,h=>by cases h
 |f+1,out,xs,L,Lend,h=>by
  obtain⟨x,L1,h1,⟨_,h2⟩|⟨_,h2,h3⟩⟩:=bodyGo_step h
  ·obtain⟨g1,g2,g3⟩:=bodyGo_more f h2
   rw[List.length_append]at g1
   exact⟨by simp only[List.length_cons,List.length_nil]at g1;omega,fun y hy=>g2 y (by simp[hy]),((g3.trans suf_tail).trans (atomU_suf h1)).trans litL_suf⟩
  ·rw[h2,h3];exact⟨by simp,fun y hy=>by simp[hy],(atomU_suf h1).trans litL_suf⟩
theorem bodyGo_mem {e f:Nat}{out xs:List Atm}{Lend:List Sgn}{x:Atm}{L1:List Sgn}(h:(isT L1 0 [44]=true∧bodyGo e f (out++[x]) L1.tail=.ok (xs,Lend))∨(isT L1 0 [44]=false∧xs=out++[x]∧Lend=L1)):x∈xs:=by
 rcases h with ⟨_,h⟩|⟨_,h,_⟩
 ·exact(bodyGo_more f h).2.1 x (by simp)
 ·rw[h];simp
theorem suf_good {L L':List Sgn}(h:L' <:+ L)(hG:GoodU L):GoodU L':=fun y hy=>hG y (h.subset hy)
theorem ruleU_ok {e:Nat}{L L':List Sgn}{a:Rul}(h:ruleU e L=.ok (a,L')):∃L1 L2,atomU e L false=.ok (a.head,L1)∧((isT L1 0 [58,45]=true∧bodyGo e (L1.length+1) [] L1.tail=.ok (a.body,L2))∨(isT L1 0 [58,45]=false∧a.body=[]∧L2=L1)) ∧
  isT L2 0 [46]=true∧L'=L2.tail:=by
 unfold ruleU at h
 cases h1:atomU e L false with
 |error q=>rw[h1]at h;cases h
 |ok q=>
  obtain⟨hd,L1⟩:=q
  rw[h1,bu_ok]at h
  by_cases hc:isT L1 0 [58,45]=true
  ·rw[if_pos hc]at h
   cases h2:bodyGo e (L1.length+1) [] L1.tail with
   |error q=>rw[h2]at h;cases h
   |ok q=>
    obtain⟨b,L2⟩:=q
    rw[h2,bu_ok]at h
    cases h3:mustU e L2 [46]with
    |error q=>rw[h3]at h;cases h
    |ok q=>
     obtain⟨u,L3⟩:=q
     obtain⟨c2,rfl⟩:=mustU_ok h3
     rw[h3,bu_ok]at h
     injection h with h;injection h with e1 e2
     subst e1;subst e2
     exact⟨L1,L2,rfl,.inl ⟨hc,h2⟩,c2,rfl⟩
  ·rw[if_neg hc,bu_ok]at h
   cases h3:mustU e L1 [46]with
   |error q=>rw[h3]at h;cases h
   |ok q=>
    obtain⟨u,L3⟩:=q
    obtain⟨c2,rfl⟩:=mustU_ok h3
    rw[h3,bu_ok]at h
    injection h with h;injection h with e1 e2
    subst e1;subst e2
    exact⟨L1,L1,rfl,.inr ⟨by simpa using hc,rfl,rfl⟩,c2,rfl⟩
set_option maxHeartbeats 4000000 in
theorem Yrule_S (s:St)(r e i j:Nat)(W L L':List Sgn)(a:Rul)(hw:W.length≤40000)(hG:GoodU L)(hi:Sfx W i L)(h:ruleU e L=.ok (a,L'))(hj:Sfx W j L')(h8:a.head.ts.length≤8)(hb8:a.body.length≤8)(hba:∀x,x∈a.body→x.ts.length≤8) :
  SRet Tryz.prog 52 [.ptr r 0] (Rw s r e W i) (.agg (rulC a)) (Rw s r e W j):=by
 obtain⟨L1,L2,h1,hbody,c2,rfl⟩:=ruleU_ok h
 clear h
 obtain⟨⟨an,ar,ats⟩,abd⟩:=a
 simp only at h1 hbody h8 hb8 hba
 have hn:=(atomU_nt h1).2
 simp only at hn
 subst hn
 obtain⟨i1,hi1⟩:=hi.suf (atomU_suf h1)
 have hil:=hi1.1
 have w1:=fun s=>Yatom_S s r e i i1 W L L1 ⟨false,ar,ats⟩ hw hG hi h1 hi1 h8
 simp only[atmC]at w1
 have w2:=fun s=>Yis_S s r e i1 W [58,45] hil
 rw[hi1.isT]at w2
 have hG1:=suf_good (atomU_suf h1) hG
 clear h1 hG hi
 rcases hbody with ⟨hc,hgo⟩|⟨hc,rfl,rfl⟩
 ·rw[hc]at w2
  have g1:=hi1.tail hc
  obtain⟨t0,L4,ht0,hrest⟩:=bodyGo_step hgo
  obtain⟨i2,hi2⟩:=g1.suf ((atomU_suf ht0).trans litL_suf)
  have hG2:GoodU L1.tail:=suf_good suf_tail hG1
  have hG4:GoodU L4:=suf_good ((atomU_suf ht0).trans litL_suf) hG2
  have w3:=fun s=>Ylit_S s r e (i1+1) i2 W _ L4 t0 hw hG2 g1 ht0 hi2 (hba _ (bodyGo_mem hrest))
  have hi1l:=g1.1
  rw[List.nil_append]at hrest
  have HRest:=Lib.hid hrest
  have HG4:=Lib.hid hG4
  have HS6:=Lib.hid hi2
  clear hrest hG4 hi2 g1 hgo hc hi1 ht0 hG2 hG1
  obtain⟨tn,tr,tt⟩:=t0
  simp only[atmC]at w3
  refine G_enter Tryz.func52 rfl Tryz.ntmps52 rfl fun Q hQ hQe=>?_
  (repeat'(first|refine Ctl ?_|(with_reducible first|(refine Kof.use hK ?_;clear hK hE K E)|(refine Kof.use hKh ?_;clear hKh Kh)|(refine Kof.use hKb (P_next ?_);clear hKb Kb)|refine G_plan 4 [([0,1,2],3,[[0,1]]),([4],5,[[],[]]),([6],7,[[],[],[]])] [] hQe fun K E hK hE=>?_)|((with_reducible refine W_cond (fun h=>?_) (fun h=>?_))<;>(try(exfalso;assumption)))|((first|(with_reducible first|refine G_region fun K E hK hE=>?_|refine call_ret can91 (w1 _) ?_|refine call_ret can45 (w2 _) ?_|refine call_ret can92 (w3 _) ?_|refine P_heads fun Kh hKh=>?_|refine P_fin fun Kh hKh=>?_|refine P_each fun Kb hKb=>?_)|((with_reducible refine W_fresh (fun b hb=>?_));(repeat(obtain⟨_,hb⟩:=hb)))|((with_reducible refine W_app (fun o2 ho=>?_));(try simp(disch:=assumption) only[disown_set,disown_own,ownok_o,ownok_m,List.length_map,List.length_cons,List.length_nil,Nat.zero_add,Rw_ok,Rw_dis,Rw_own,Rw_ownd,disown_fl,owned_fl]at ho);(repeat(obtain⟨_,ho⟩:=ho))))<;>(try simp(disch:=first|assumption|omega) only[go_sem,seval,Rw_ok,Rw_dis,Rw_own,Rw_ownd,disown_fl,owned_fl, *]))))
  rename_i bz z1 z2 hbz z3 z4 z5 z6 q7 q8 q9
  obtain⟨bA,hbA⟩:∃x,x=b:=⟨_,rfl⟩
  subst hbA
  refine G_loop (fun m env t=>∃(p:Nat) (ts:List Atm) (o:Own) (Lp:List Sgn),Sfx W p Lp∧GoodU Lp∧m=Lp.length∧((isT Lp 0 [44]=true∧∃f,bodyGo e f ts Lp.tail=.ok (abd,L2))∨(isT Lp 0 [44]=false∧abd=ts∧L2=Lp)) ∧
   t=Rw (((s.own o 71 3 ts.length).set bz (.obj 74 [.bool false,.str [],.lst [] .full,.lst [] .full])).set bA (.obj 74 [.bool false,.str ar,.lst (ats.map trmC) .no,.lst (ts.map atmC) o])) r e W p∧OwnOk s o ts.length∧NotOwn o r∧NotOwn o bA∧NotOwn o bz ∧
   env 0=.ptr r 0∧env 2=.ptr bz 0∧env 3=.ptr bA 0) L4.length ?_ ?_
  ·refine⟨_,Fg.refl _,i2,[⟨tn,tr,tt⟩],o2,L4,HS6.out,HG4.out,rfl,?_,rfl,ho,by assumption,by assumption,by assumption,z_sl,z_sl,z_sl⟩
   rcases HRest.out with ⟨k1,k2⟩|k
   ·exact .inl ⟨k1,_,k2⟩
   ·exact .inr k
  ·clear w1 w2 w3 HRest HG4 HS6 ho q7 q8 q9 o2
   rintro m env t ⟨p,ts,o,Lp,hS,hGp,rfl,hrest,rfl,hO,hor,hoA,hoz,e0,e2,e3⟩
   have hpl:=hS.1
   rcases hrest with ⟨hc,f,hf⟩|⟨hc,hts,hL⟩
   ·have hlt:=(bodyGo_more f hf).1
    cases f with
    |zero=>cases hf
    |succ f=>
     obtain⟨t1,L5,ht1,hrest⟩:=bodyGo_step hf
     have g1:=hS.tail hc
     obtain⟨p2,hp2⟩:=g1.suf ((atomU_suf ht1).trans litL_suf)
     have hG5:GoodU Lp.tail:=suf_good suf_tail hGp
     have hWc:isT W p [44]=true:=by rw[hS.isT];exact hc
     have hlp:L5.length<Lp.length:=by
      have h1:=((atomU_suf ht1).trans litL_suf).length_le
      rw[List.length_tail]at h1
      have:Lp≠[]:=by rintro rfl;simp[isT]at hc
      have:=List.length_pos_iff.2 this
      omega
     have hp1:=g1.1
     have v1:=fun s=>Ymore1_S s r e p W hw hpl hWc
     have v2:=fun s a b t=>Ynext_S s r e (p+1) W a b t hp1
     have v3:=fun s b=>Yroom_S s r e (p+1) W (ts.length:Int) 8 b (by omega)
     have v4:=fun s=>Ylit_S s r e (p+1) p2 W _ L5 t1 hw hG5 g1 ht1 hp2 (hba _ (bodyGo_mem hrest))
     have hGL:GoodU L5:=suf_good ((atomU_suf ht1).trans litL_suf) hG5
     have HR:=Lib.hid hrest
     have HGL:=Lib.hid hGL
     have HS:=Lib.hid hp2
     have HM:=Lib.hid hlp
     have hml:(ts.map atmC).length=ts.length:=List.length_map _
     have hml8:ts.length<8:=by omega
     clear hrest hGL hp2 hlp ht1 hf hc hWc hS hGp g1 hG5 hlt
     obtain⟨tn,tr,tt⟩:=t1
     simp only[atmC]at v4
     (repeat'(first|refine Ctl ?_|(with_reducible first|(refine Kof.use hK ?_;clear hK hE K E)|(refine Kof.use hKh ?_;clear hKh Kh)|(refine Kof.use hKb (P_next ?_);clear hKb Kb)|refine G_plan 6 [([0,1,2,3,4],5,[[0,1,2,3]]),([],6,[[],[]])] [] hQe fun K E hK hE=>?_|refine G_plan 7 [([0,1,2],3,[[0,1]]),([4],5,[[],[]]),([6],7,[[],[],[]])] [] hQe fun K E hK hE=>?_)|((with_reducible refine W_cond (fun h=>?_) (fun h=>?_))<;>(try(exfalso;assumption)))|((first|(with_reducible first|refine G_region fun K E hK hE=>?_|refine call_ret can90 (v1 _) ?_|refine call_ret can46 (v3 _ _) ?_|refine call_ret can92 (v4 _) ?_|refine P_heads fun Kh hKh=>?_|refine P_fin fun Kh hKh=>?_|refine P_each fun Kb hKb=>?_)|((with_reducible refine call_ex can51 (v2 _ _ _ _) (fun a h=>?_)))|((with_reducible refine W_app (fun o2 ho=>?_));(try simp(disch:=assumption) only[disown_set,disown_own,ownok_o,ownok_m,List.length_map,List.length_cons,List.length_nil,Nat.zero_add,Rw_ok,Rw_dis,Rw_own,Rw_ownd,disown_fl,owned_fl,hml]at ho);(repeat(obtain⟨_,ho⟩:=ho))))<;>(try simp(disch:=first|assumption|omega) only[go_sem,seval,Rw_ok,Rw_dis,Rw_own,Rw_ownd,disown_fl,owned_fl,hml, *]))))
     refine⟨Rw (((s.own o2 71 3 (ts++[(⟨tn,tr,tt⟩:Atm)]).length).set bz (.obj 74 [.bool false,.str [],.lst [] .full,.lst [] .full])).set bA (.obj 74 [.bool false,.str ar,.lst (ats.map trmC) .no,.lst ((ts++[(⟨tn,tr,tt⟩:Atm)]).map atmC) o2])) r e W p2,?_,L5.length,HM.out,p2,ts++[(⟨tn,tr,tt⟩:Atm)],o2,L5,HS.out,HGL.out,rfl,?_,rfl,?_,by assumption,by assumption,by assumption,z_sl,z_sl,z_sl⟩
     ·simp only[List.map_append,List.map_cons,List.map_nil,atmC,List.length_append,List.length_cons,List.length_nil]
      exact Fg.refl _
     ·rcases HR.out with ⟨k1,k2⟩|k
      ·exact .inl ⟨k1,_,k2⟩
      ·exact .inr k
     ·simpa only[List.length_append,List.length_cons,List.length_nil]using ho
   ·subst hts
    subst hL
    have hWc:isT W p [44]=false:=by rw[hS.isT];exact hc
    have hWd:isT W p [46]=true:=by rw[hS.isT];exact c2
    have hjp:j=p+1:=(hS.tail c2).one hj
    have v1:=fun s=>Ymore0_S s r e p W hpl hWc
    have v2:=fun s=>Ytakes_S s r e p W [46] hw hWd
    subst hjp
    clear hc hWc hWd c2 hj hS hGp
    (repeat'(first|refine Ctl ?_|((with_reducible refine Kof.use hK ?_);clear hK hE K E)|((with_reducible refine W_cond (fun h=>?_) (fun h=>?_))<;>(try(exfalso;assumption)))|(((with_reducible first|refine G_region fun K E hK hE=>?_|refine call_ret can90 (v1 _) ?_|refine call_ret can49 (v2 _) ?_))<;>(try simp(disch:=first|assumption|omega) only[go_sem,seval,Rw_ok,Rw_dis,Rw_own,Rw_ownd,disown_fl,owned_fl, *]))))
    all_goals(refine W_ret res52 hQ ?_)
    refine⟨_,Rw s r e W (p+1),Wk.agg ?_,?_,rfl,rfl⟩
    ·simp only[rulC];(repeat(first|exact WkL.nil|apply WkL.same|apply WkL.lst))
    ·refine Fg.rw ?_
     (exact z_fg)
 ·rw[hc]at w2
  have hWd:isT W i1 [46]=true:=by rw[hi1.isT];exact c2
  have hjp:j=i1+1:=(hi1.tail c2).one hj
  have w3:=fun s=>Ytakes_S s r e i1 W [46] hw hWd
  subst hjp
  clear hc hi1 hG1 c2 hj hWd
  refine G_enter Tryz.func52 rfl Tryz.ntmps52 rfl fun Q hQ hQe=>?_
  (repeat'(first|refine Ctl ?_|((with_reducible refine Kof.use hK ?_);clear hK hE K E)|((with_reducible refine W_cond (fun h=>?_) (fun h=>?_))<;>(try(exfalso;assumption)))|((first|(with_reducible first|refine G_region fun K E hK hE=>?_|refine call_ret can91 (w1 _) ?_|refine call_ret can45 (w2 _) ?_|refine call_ret can49 (w3 _) ?_)|((with_reducible refine W_fresh (fun b hb=>?_));(repeat(obtain⟨_,hb⟩:=hb))))<;>(try simp(disch:=first|assumption|omega) only[go_sem,seval,Rw_ok,Rw_dis,Rw_own,Rw_ownd,disown_fl,owned_fl, *]))))
  all_goals(refine W_ret res52 hQ ?_)
  refine⟨_,Rw s r e W (i1+1),Wk.agg ?_,?_,rfl,rfl⟩
  ·simp only[rulC];(repeat(first|exact WkL.nil|apply WkL.same|apply WkL.lst))
  ·refine Fg.rw ?_
   (exact z_fg)
end Go.Proofs.YtgdbgfjhenobdaaGreatDoor
