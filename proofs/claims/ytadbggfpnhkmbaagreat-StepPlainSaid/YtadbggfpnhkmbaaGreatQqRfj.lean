/- Walks of functions that the claim reaches, and plain facts of them. Conditions: those in the statements. -/
import Derived.Test.YtadbggfpnhkmbaaGreatQqRlexj
set_option linter.unusedSimpArgs false
set_option linter.unusedVariables false
set_option maxRecDepth 100000
namespace Go.Proofs.YtadbggfpnhkmbaaGreat
open Go.RowKit
theorem parse_okR:∀f,StmtR f∧BlockR f:=by
  intro f
  induction f using Nat.strongRecOn with
  |_ f ih=>
    cases f with
    |zero=>
      have hs:StmtR 0:=fun s r L e a n bd deep _ _ _ _ h _=>absurd h (by omega)
      refine⟨hs,fun s r L e a n er bd deep ha hL hG hd hf=>?_⟩
      have hz:er≠0:=fun h0=>absurd (hf h0).1 (by omega)
      refine (Rblock_S 0 (fun g hg => by have : g = 0 := by omega
                                         subst this;exact hs) s r L e a n er bd deep ha hL hG hd (fun h0=>absurd h0 hz)).mono ?_
      rintro w u ⟨q,h1,h2,h3⟩
      exact⟨q,h1,h2,h3.any hz⟩
    |succ f=>exact⟨Rstmt_S f (ih f (by omega)).2,Rblock_S f fun g hg=>(ih g (by omega)).1⟩
theorem RblockA (s:St)(r:Nat)(L:List Sgn)(e a n er bd deep:Nat)(ha:a≤L.length)(hL:L.length≤4096)(hG:GoodL L)(hd:deep≤8)(hf:er=0→n+(L.length - a)≤10000) :
  SCalls Tryz.prog 75 [.ptr r 0,.int .i64 deep] (Rf s r L e a n er bd) (fun w u=>∃q:List Stm×Nat×Nat×Nat×Nat,w=.ret (stsV q.1)∧u=Rf s r L e q.2.1 q.2.2.1 q.2.2.2.1 q.2.2.2.2∧RP L a n er bd (blockP e (3 * (L.drop a).length+3) deep (L.drop a) n) q.1 q.2.1 q.2.2.1 q.2.2.2.1 q.2.2.2.2):=
 (parse_okR _).2 s r L e a n er bd deep ha hL hG hd fun h0=>⟨by rw[List.length_drop];omega,hf h0⟩
def mthP (e:Nat)(L:List Sgn)(n:Nat):PR Mth:=
 bnd (nameP e (if isT L 0 [115,116,97,116,105,99] then L.tail else L) n) fun x L' n=>bnd (namesP e L' n) fun ps L' n=>
  bnd (blockP e (3 * L'.length+3) 0 L' n) fun b L' n=>.ok (⟨isT L 0 [115,116,97,116,105,99],x,ps,b⟩,L',n)
theorem mthsP_step {e f:Nat}{out:List Mth}{L:List Sgn}{n:Nat}(h:isT L 0 [125]=false):mthsP e (f+1) out L n =
  bnd (roomP e L n out.length 32 (namedB L || isT L 0 [115,116,97,116,105,99])) fun _ L n=>bnd (mthP e L n) fun m L n=>mthsP e f (out++[m]) L n:=by
 simp only[mthsP,h,Bool.false_eq_true,if_false,mthP,bnd_assoc,bnd_ok]
theorem mthsP_done {e f:Nat}{out:List Mth}{L:List Sgn}{n:Nat}(h:isT L 0 [125]=true):mthsP e (f+1) out L n=bnd (mustP e L n [125]) fun _ L n=>.ok (out,L,n):=by
 simp only[mthsP,h,if_true,mustP,bnd_ok]
def mthV (m:Mth):VV:=.agg (mthC m)
theorem RPl_names {L:List Sgn}{a n er bd e a' n' er' bd' a0 n0:Nat}{x:List (List UInt8)}(h:RP L a n er bd (namesP e (L.drop a0) n0) x a' n' er' bd'):er'=0→er=0∧a0+1≤a'∧n'=n0:=fun h0=>by
 have:=namesP_len (h.ok (h.back h0) h0)
 exact⟨h.back h0,drop_len (by omega) h.le,this.2⟩
theorem mthP_len {e:Nat}{L L':List Sgn}{n n':Nat}{m:Mth}(h:mthP e L n=.ok (m,L',n')):L'.length+1≤L.length∧n'+L'.length≤n+L.length:=by
 unfold mthP at h
 replace h:=bnd_inv h
 obtain⟨x,L1,n1,h1,h⟩:=h
 replace h:=bnd_inv h
 obtain⟨ps,L2,n2,h2,h⟩:=h
 replace h:=bnd_inv h
 obtain⟨b,L3,n3,h3,h⟩:=h
 obtain⟨_,rfl,rfl⟩:=ok_inj h
 have e1:=nameP_len h1
 have e2:=namesP_len h2
 have e3:=(parse_len e _).2.1 _ _ _ _ _ _ h3
 have:(if isT L 0 [115,116,97,116,105,99]=true then L.tail else L).length≤L.length:=by split<;>simp
 omega
theorem RPl_mth {L:List Sgn}{a n er bd e a' n' er' bd' a0 n0:Nat}{x:Mth}(h:RP L a n er bd (mthP e (L.drop a0) n0) x a' n' er' bd'):er'=0→er=0∧a0+1≤a'∧n'+(L.length - a')≤n0+(L.length - a0):=fun h0=>by
 have:=mthP_len (h.ok (h.back h0) h0)
 rw[List.length_drop,List.length_drop]at this
 have:=h.le
 exact⟨h.back h0,by omega,by omega⟩
theorem isT_end {L:List Sgn}{a k:Nat}{t:List UInt8}(h:L.length≤a):isT (L.drop a) k t=false:=by rw[List.drop_eq_nil_iff.2 h];rfl
theorem Wk_cls {x y:List UInt8}{ms:List Mth}{o:Own}:Wk (.agg [.str x,.str y,.lst (ms.map mthC) o]) (clsV ⟨x,y,ms⟩):=Wk.agg (.same _ (.same _ (.lst _ _ .nil)))
theorem fin_cls {S s0:St}{r:Nat}{L:List Sgn}{e a n er bd a' n' er' bd':Nat}{x y:List UInt8}{ms:List Mth}{o:Own}{res:PR Cls}
  (hf:Fg S (Rf s0 r L e a' n' er' bd')) (hr:RP L a n er bd res ⟨x,y,ms⟩ a' n' er' bd') :
  ∃z s',Wk (.agg [.str x,.str y,.lst (ms.map mthC) o]) z∧Fg S s'∧∃q:Cls×Nat×Nat×Nat×Nat,SEnd.ret z=.ret (clsV q.1)∧s'=Rf s0 r L e q.2.1 q.2.2.1 q.2.2.2.1 q.2.2.2.2∧RP L a n er bd res q.1 q.2.1 q.2.2.1 q.2.2.2.1 q.2.2.2.2:=
 ⟨_,_,Wk_cls,hf,(⟨x,y,ms⟩,a',n',er',bd'),rfl,rfl,hr⟩
set_option maxHeartbeats 1000000 in
theorem Rmethod_S (s:St)(r:Nat)(L:List Sgn)(e a n er bd:Nat)(ha:a≤L.length)(hL:L.length≤4096)(hG:GoodL L)(hf:er=0→n+(L.length - a)≤10000) :
  SCalls Tryz.prog 46 [.ptr r 0] (Rf s r L e a n er bd) (fun w u=>∃q:Mth×Nat×Nat×Nat×Nat,w=.ret (mthV q.1)∧u=Rf s r L e q.2.1 q.2.2.1 q.2.2.2.1 q.2.2.2.2∧RP L a n er bd (mthP e (L.drop a) n) q.1 q.2.1 q.2.2.1 q.2.2.2.1 q.2.2.2.2):=by
 have hblk:=fun s r L e a n er bd=>RblockA s r L e a n er bd 0
 refine G_enter Tryz.func46 rfl Tryz.ntmps46 rfl fun Q hQ hQe=>?_
 (repeat'(first|refine Ctl ?_|((with_reducible refine Kof.use hK ?_);clear hK hE K E)|((with_reducible refine Eof.use hE ?_);(try clear hK hE K E))|((with_reducible refine W_cond (fun h=>?_) (fun h=>?_))<;>(try have hlt:=isT_lt h)<;>(try(exfalso;first|assumption|omega)))|((first|(with_reducible first|refine G_region fun K E hK hE=>?_|refine call_ret can24 (Rfis_S _ _ _ _ _ _ _ _ _ _ (by omega) (by omega)) ?_|refine W_if ?_|refine W_ifS ?_|refine W_and ?_)|((with_reducible refine call_ex can75 (hblk _ _ _ _ _ _ _ _ (by first|assumption|omega) (by assumption) (by assumption) (by decide) ?_) (fun a h=>?_));(focus (intro h0;first|(simp[fE_eq]at h0;done)|omega|grind));obtain⟨vx,ax,nx,ex,bx⟩:=a;(try dsimp only at h);(try have hle:=h.1);(try first|have hlen:=RPl_must h|have hlen:=RPl_name h|have hlen:=RPl_names h|have hlen:=RPl_block h))|((with_reducible refine call_ex can44 (Rnm_S _ _ _ _ _ _ _ _ (by first|assumption|omega) (by assumption) (by assumption)) (fun a h=>?_));obtain⟨vx,ax,nx,ex,bx⟩:=a;(try dsimp only at h);have hup:=h.2;replace h:=RPn.rp h;(try have hle:=h.1);(try first|have hlen:=RPl_must h|have hlen:=RPl_name h|have hlen:=RPl_names h|have hlen:=RPl_block h))|((with_reducible refine call_ex can74 (Rnames_S _ _ _ _ _ _ _ _ (by first|assumption|omega) (by assumption) (by assumption)) (fun a h=>?_));obtain⟨vx,ax,nx,ex,bx⟩:=a;(try dsimp only at h);(try have hle:=h.1);(try first|have hlen:=RPl_must h|have hlen:=RPl_name h|have hlen:=RPl_names h|have hlen:=RPl_block h))|((with_reducible refine W_fresh (fun b hb=>?_));(repeat(obtain⟨_,hb⟩:=hb))))<;>(try simp(disch:=first|assumption|omega) only[go_sem,seval,Rf,strsV,stsV,rf_out, *]))))
 all_goals(first|refine W_ret res46 hQ ?_|refine W_norm res46 hQ ?_|refine G_pan hQ ?_)
 all_goals
  refine fin_val (enc:=mthV) (x:=⟨_,_,_,_⟩) (z_fg) ?_
  unfold mthP
  (repeat(first|exact RP.mk_same (by first|assumption|omega)|assumption|(refine RP.bind (by assumption) ?_)|(simp only[bnd_ok,bnd_assoc,drop_tl,isT_tail,true_or,or_true,or_self,true_and,and_true,false_and,and_false,and_self,false_or,or_false,if_true,if_false,reduceIte,Bool.false_eq_true,Bool.true_eq_false,eq_self,reduceCtorEq,List.drop_drop, *])))
set_option maxHeartbeats 4000000 in
theorem Rclass_S (s:St)(r:Nat)(L:List Sgn)(e a n er bd:Nat)(ha:a≤L.length)(hL:L.length≤4096)(hG:GoodL L)(hf:er=0→n+(L.length - a)≤10000) :
    SCalls Tryz.prog 26 [.ptr r 0] (Rf s r L e a n er bd) (fun w u=>∃q:Cls×Nat×Nat×Nat×Nat,w=.ret (clsV q.1)∧u=Rf s r L e q.2.1 q.2.2.1 q.2.2.2.1 q.2.2.2.2∧RP L a n er bd (classP e (L.drop a) n) q.1 q.2.1 q.2.2.1 q.2.2.2.1 q.2.2.2.2):=by
  refine G_enter Tryz.func26 rfl Tryz.ntmps26 rfl fun Q hQ hQe=>?_
  (repeat'(first|refine Ctl ?_|((with_reducible refine Kof.use hK ?_);clear hK hE K E)|((with_reducible refine Eof.use hE ?_);(try clear hK hE K E))|((with_reducible refine Kof.use hKh ?_);clear hKh Kh)|((with_reducible refine Kof.use hKb (P_next ?_));clear hKb Kb)|(with_reducible first|refine G_plan 8 [([0,1,2,3,4,5,6,7,8,9,10,11,12,13,14,15,16,17],18,[[]]),([19,20,21,22,23,24,25,26,27,28,29,30],31,[[],[]])] [32,33] hQe fun K E hK hE=>?_|refine G_plan 10 [([0,1,2],3,[[0,1]]),([4],5,[[],[]]),([6],7,[[],[],[]])] [] hQe fun K E hK hE=>?_)|((with_reducible refine W_cond (fun h=>?_) (fun h=>?_))<;>(try have hlt:=isT_lt h)<;>(try(exfalso;first|assumption|omega)))|((first|(with_reducible first|refine G_region fun K E hK hE=>?_|refine call_ret can25 (Rfail_S _ _ _ _ _ _ _ _ _ (by decide)) ?_|refine call_ret can24 (Rfis_S _ _ _ _ _ _ _ _ _ _ (by omega) (by omega)) ?_|refine call_ret can45 (Rname_S _ _) ?_|refine W_if ?_|refine W_ifS ?_|refine P_heads fun Kh hKh=>?_|refine P_fin fun Kh hKh=>?_|refine P_each fun Kb hKb=>?_|refine W_and ?_)|((with_reducible refine call_ex can43 (Rtakes_S _ _ _ _ _ _ _ _ _ (by first|assumption|omega) (by assumption)) (fun a h=>?_));obtain⟨ax,nx,ex,bx⟩:=a;(try dsimp only at h);(try have hle:=h.1);(try first|have hlen:=RPl_must h|have hlen:=RPl_name h))|((with_reducible refine call_ex can44 (Rnm_S _ _ _ _ _ _ _ _ (by first|assumption|omega) (by assumption) (by assumption)) (fun a h=>?_));obtain⟨vx,ax,nx,ex,bx⟩:=a;(try dsimp only at h);have hup:=h.2;replace h:=RPn.rp h;(try have hle:=h.1);(try first|have hlen:=RPl_must h|have hlen:=RPl_name h))|((with_reducible refine call_ex can46 (Rmethod_S _ _ _ _ _ _ _ _ (by first|assumption|omega) (by assumption) (by assumption) ?_) (fun a h=>?_));(focus (intro h0;first|(simp[fE_eq]at h0;done)|omega|grind));obtain⟨vx,ax,nx,ex,bx⟩:=a;(try dsimp only at h);(try have hle:=h.1);(try first|have hlen:=RPl_must h|have hlen:=RPl_name h))|((with_reducible refine W_fresh (fun b hb=>?_));(repeat(obtain⟨_,hb⟩:=hb)))|((with_reducible refine W_app (fun o2 ho=>?_));(try simp(disch:=assumption) only[disown_set,disown_own,ownok_o,ownok_m,List.length_map,List.length_cons,List.length_nil,Nat.zero_add,Rf,rf_out]at ho);(repeat(obtain⟨_,ho⟩:=ho)))|((with_reducible refine W_gd (fun h=>?_) (fun h=>?_))<;>(try have hlt:=isT_lt h)<;>(try(exfalso;first|assumption|omega))))<;>(try simp(disch:=first|assumption|omega) only[go_sem,seval,Rf,rf_out, *]))))
  · rename_i b0 q1 q2 hb0 a1 n1 e1 k1 r1 l1 m1 x a2 n2 e2 k2 u2 r2 l2 m2 q3 q4 q5 q6 hx a3 n3 e3 k3 r3 l3 m3
    have hgo0:∀(ms:List Mth) (a' n' er' bd':Nat),RP L ax nx ex bx (mthsP e ((L.drop ax).length+1) [] (L.drop ax) nx) ms a' n' er' bd'→RP L a n er bd (classP e (L.drop a) n) ⟨x,vx,ms⟩ a' n' er' bd':=fun ms a' n' er' bd' hh=>by
      have hfin:RP L a' n' er' bd' (.ok ((⟨x,vx,ms⟩:Cls),L.drop a',n')) (⟨x,vx,ms⟩:Cls) a' n' er' bd':=RP.mk_same hh.le
      unfold classP
      (repeat(first|exact RP.mk_same (by first|assumption|omega)|assumption|(refine RP.bind (by assumption) ?_)|(simp only[bnd_ok,bnd_assoc,drop_tl,isT_tail,true_or,or_true,or_self,true_and,and_true,false_and,and_false,and_self,false_or,or_false,if_true,if_false,reduceIte,Bool.false_eq_true,Bool.true_eq_false,eq_self,reduceCtorEq,List.drop_drop, *])))
    have hb0':ex=0→a≤ax∧nx+(L.length - ax)≤10000:=fun h0=>by
      grind
    replace hgo0:∀(ms:List Mth) (a' n' er' bd':Nat),RP L ax nx ex bx (mthsP e (L.length - ax+1) [] (L.drop ax) nx) ms a' n' er' bd'→RP L a n er bd (classP e (L.drop a) n) ⟨x,vx,ms⟩ a' n' er' bd':=fun ms a' n' er' bd' hh=>hgo0 ms a' n' er' bd' (by rw[List.length_drop];exact hh)
    refine L_loop (fun m env s'=>∃(a4 n4 er4 bd4 g:Nat) (out:List Mth) (o:Own),a4≤L.length∧(m=if er4=0 then g+1 else 0)∧(er4=0→L.length - a4+1≤g∧n4+(L.length - a4)≤10000∧out.length+(L.length - a4)≤5000)∧out.length≤5001 ∧
      (∀(q:List Mth) (a' n' er' bd':Nat),RP L a4 n4 er4 bd4 (mthsP e g out (L.drop a4) n4) q a' n' er' bd'→RP L a n er bd (classP e (L.drop a) n) ⟨x,vx,q⟩ a' n' er' bd') ∧
      s'=Rf (((s.own o 25 4 out.length).set b0 (.obj 28 [.str [],.str [],.lst [] .full])).set b (.obj 28 [.str x,.str vx,.lst (out.map mthC) o])) r L e a4 n4 er4 bd4 ∧
      OwnOk s o out.length∧NotOwn o r∧NotOwn o b0∧NotOwn o b∧env 0=.ptr r 0∧env 2=.ptr b0 0∧env 3=.ptr b 0) (if ex=0 then L.length - ax+1+1 else 0) ?_ ?_
    · exact⟨ax,nx,ex,bx,_,[],.full,hle,rfl,fun h0=>(by have:=hb0' h0;simp;omega),by simp,hgo0,rfl,rfl,trivial,trivial,trivial,z_sl,z_sl,z_sl⟩
    · rintro m env s' ⟨a4,n4,er4,bd4,g,out,o,ha4,hm,hbb,hl1,hgo,rfl,hown,hnr,hn0,hnb,z0,z2,z3⟩
      clear hgo0 hb0'
      by_cases hz:er4=0
      · subst hz
        rw[if_pos rfl]at hm
        obtain⟨hg1,hn2,hlo⟩:=hbb rfl
        clear hbb
        obtain⟨g,rfl⟩:∃g',g=g'+1:=⟨g - 1,by omega⟩
        (repeat'(first|refine Ctl ?_|((with_reducible refine Kof.use hK ?_);clear hK hE K E)|((with_reducible refine Eof.use hE ?_);(try clear hK hE K E))|((with_reducible refine Kof.use hKh ?_);clear hKh Kh)|((with_reducible refine Kof.use hKb (P_next ?_));clear hKb Kb)|(with_reducible first|refine G_plan 8 [([0,1,2,3,4,5,6,7,8,9,10,11,12,13,14,15,16,17],18,[[]]),([19,20,21,22,23,24,25,26,27,28,29,30],31,[[],[]])] [32,33] hQe fun K E hK hE=>?_|refine G_plan 10 [([0,1,2],3,[[0,1]]),([4],5,[[],[]]),([6],7,[[],[],[]])] [] hQe fun K E hK hE=>?_)|((with_reducible refine W_cond (fun h=>?_) (fun h=>?_))<;>(try have hlt:=isT_lt h)<;>(try(exfalso;first|assumption|omega)))|((first|(with_reducible first|refine G_region fun K E hK hE=>?_|refine call_ret can25 (Rfail_S _ _ _ _ _ _ _ _ _ (by decide)) ?_|refine call_ret can24 (Rfis_S _ _ _ _ _ _ _ _ _ _ (by omega) (by omega)) ?_|refine call_ret can45 (Rname_S _ _) ?_|refine W_if ?_|refine W_ifS ?_|refine P_heads fun Kh hKh=>?_|refine P_fin fun Kh hKh=>?_|refine P_each fun Kb hKb=>?_|refine W_and ?_)|((with_reducible refine call_ex can43 (Rtakes_S _ _ _ _ _ _ _ _ _ (by first|assumption|omega) (by assumption)) (fun a h=>?_));obtain⟨ax,nx,ex,bx⟩:=a;(try dsimp only at h);(try have hle:=h.1);(try have hlen:=RPl_mth h))|((with_reducible refine call_ex can44 (Rnm_S _ _ _ _ _ _ _ _ (by first|assumption|omega) (by assumption) (by assumption)) (fun a h=>?_));obtain⟨vx,ax,nx,ex,bx⟩:=a;(try dsimp only at h);have hup:=h.2;replace h:=RPn.rp h;(try have hle:=h.1);(try have hlen:=RPl_mth h))|((with_reducible refine call_ex can46 (Rmethod_S _ _ _ _ _ _ _ _ (by first|assumption|omega) (by assumption) (by assumption) ?_) (fun a h=>?_));(focus (intro h0;first|(simp[fE_eq]at h0;done)|omega|grind));obtain⟨vx,ax,nx,ex,bx⟩:=a;(try dsimp only at h);(try have hle:=h.1);(try have hlen:=RPl_mth h))|((with_reducible refine W_fresh (fun b hb=>?_));(repeat(obtain⟨_,hb⟩:=hb)))|((with_reducible refine W_app (fun o2 ho=>?_));(try simp(disch:=assumption) only[disown_set,disown_own,ownok_o,ownok_m,List.length_map,List.length_cons,List.length_nil,Nat.zero_add,Rf,List.length_map,sgn_at,sgnC,mthV,mthC,strsV,stsV,vrow,rf_out]at ho);(repeat(obtain⟨_,ho⟩:=ho)))|((with_reducible refine W_gd (fun h=>?_) (fun h=>?_))<;>(try have hlt:=isT_lt h)<;>(try(exfalso;first|assumption|omega))))<;>(try simp(disch:=first|assumption|omega) only[go_sem,seval,Rf,List.length_map,sgn_at,sgnC,mthV,mthC,strsV,stsV,vrow,rf_out, *]))))
        all_goals first
          | (rw [mthsP_done (by assumption)] at hgo
             (first|refine W_ret res26 hQ ?_|refine W_norm res26 hQ ?_|refine G_pan hQ ?_)
             refine fin_cls (z_fg) (hgo _ _ _ _ _ (RP.bind h (RP.mk_same h.le))))
          | (have hs : RP L a4 n4 0 bd4 (bnd (roomP e (L.drop a4) n4 out.length 32 (namedB (L.drop a4) || isT (L.drop a4) 0 [115, 116, 97, 116, 105, 99])) fun _ L n => mthP e L n) vx ax nx ex bx := by
               apply RP.bind (x:=()) (h2:=h)
               refine RP.room ha4 ?_ ?_ ?_<;>grind [fE_eq,fB_eq,GoodL.nm,named_end,isT_end]
             have hlen:=fun h0=>(hlen h0).2
             refine⟨if ex=0 then g+1 else 0,by split<;>omega,ax,nx,ex,bx,g,out++[vx],o2,hle,rfl,fun h0=>?_,?_,fun q a' n' er' bd' hh=>?_,?_,by simpa using ho,by assumption,by assumption,by assumption,z_sl,z_sl,z_sl⟩
             · have:=hlen h0;simp only[List.length_append,List.length_cons,List.length_nil];omega
             · simp only[List.length_append,List.length_cons,List.length_nil];omega
             · refine hgo _ _ _ _ _ ?_
               rw[mthsP_step (by assumption)]
               have:=RP.bind hs (k:=fun m L n=>mthsP e g (out++[m]) L n) hh
               rwa [bnd_assoc]at this
             · simp only[List.length_append,List.length_cons,List.length_nil,List.map_append,List.map_cons,List.map_nil,mthC,strsV,stsV])
      · have hz':¬ (er4:Int)=0:=by omega
        rw[if_neg hz]at hm
        (repeat'(first|refine Ctl ?_|((with_reducible refine Kof.use hK ?_);clear hK hE K E)|((with_reducible refine Eof.use hE ?_);(try clear hK hE K E))|((with_reducible refine Kof.use hKh ?_);clear hKh Kh)|((with_reducible refine Kof.use hKb (P_next ?_));clear hKb Kb)|(with_reducible first|refine G_plan 8 [([0,1,2,3,4,5,6,7,8,9,10,11,12,13,14,15,16,17],18,[[]]),([19,20,21,22,23,24,25,26,27,28,29,30],31,[[],[]])] [32,33] hQe fun K E hK hE=>?_|refine G_plan 10 [([0,1,2],3,[[0,1]]),([4],5,[[],[]]),([6],7,[[],[],[]])] [] hQe fun K E hK hE=>?_)|((with_reducible refine W_cond (fun h=>?_) (fun h=>?_))<;>(try(exfalso;first|assumption|omega)))|((first|(with_reducible first|refine G_region fun K E hK hE=>?_|refine call_ret can25 (Rfail_S _ _ _ _ _ _ _ _ _ (by decide)) ?_|refine call_ret can24 (Rfis_S _ _ _ _ _ _ _ _ _ _ (by omega) (by omega)) ?_|refine call_ret can45 (Rname_S _ _) ?_|refine W_if ?_|refine W_ifS ?_|refine P_heads fun Kh hKh=>?_|refine P_fin fun Kh hKh=>?_|refine P_each fun Kb hKb=>?_|refine W_and ?_)|((with_reducible refine call_ex can43 (Rtakes_S _ _ _ _ _ _ _ _ _ (by first|assumption|omega) (by assumption)) (fun a h=>?_));obtain⟨ax,nx,ex,bx⟩:=a;(try dsimp only at h);(try have hle:=h.1))|((with_reducible refine call_ex can44 (Rnm_S _ _ _ _ _ _ _ _ (by first|assumption|omega) (by assumption) (by assumption)) (fun a h=>?_));obtain⟨vx,ax,nx,ex,bx⟩:=a;(try dsimp only at h);have hup:=h.2;replace h:=RPn.rp h;(try have hle:=h.1))|((with_reducible refine call_ex can46 (Rmethod_S _ _ _ _ _ _ _ _ (by first|assumption|omega) (by assumption) (by assumption) ?_) (fun a h=>?_));(focus (intro h0;first|(simp[fE_eq]at h0;done)|omega|grind));obtain⟨vx,ax,nx,ex,bx⟩:=a;(try dsimp only at h);(try have hle:=h.1))|((with_reducible refine W_fresh (fun b hb=>?_));(repeat(obtain⟨_,hb⟩:=hb)))|((with_reducible refine W_app (fun o2 ho=>?_));(try simp(disch:=assumption) only[disown_set,disown_own,ownok_o,ownok_m,List.length_map,List.length_cons,List.length_nil,Nat.zero_add,Rf,List.length_map,sgn_at,sgnC,rf_out]at ho);(repeat(obtain⟨_,ho⟩:=ho)))|((with_reducible refine W_gd (fun h=>?_) (fun h=>?_))<;>(try(exfalso;first|assumption|omega))))<;>(try simp(disch:=first|assumption|omega) only[go_sem,seval,Rf,List.length_map,sgn_at,sgnC,rf_out, *]))))
        all_goals(first|refine W_ret res26 hQ ?_|refine W_norm res26 hQ ?_|refine G_pan hQ ?_)
        have:=h.old hz
        exact fin_cls (z_fg) (hgo _ _ _ _ _ (by rw[this.1,this.2];exact RP.mk_old h.le hz))
  · rename_i b0 q1 q2 hb0 a1 n1 e1 k1 r1 l1 m1 a2 n2 e2 k2 r2 l2 m2 q3 q4 q5 q6 hx
    have hgo0:∀(ms:List Mth) (a' n' er' bd':Nat),RP L ax nx ex bx (mthsP e ((L.drop ax).length+1) [] (L.drop ax) nx) ms a' n' er' bd'→RP L a n er bd (classP e (L.drop a) n) ⟨vx,[],ms⟩ a' n' er' bd':=fun ms a' n' er' bd' hh=>by
      have hfin:RP L a' n' er' bd' (.ok ((⟨vx,[],ms⟩:Cls),L.drop a',n')) (⟨vx,[],ms⟩:Cls) a' n' er' bd':=RP.mk_same hh.le
      unfold classP
      (repeat(first|exact RP.mk_same (by first|assumption|omega)|assumption|(refine RP.bind (by assumption) ?_)|(simp only[bnd_ok,bnd_assoc,drop_tl,isT_tail,true_or,or_true,or_self,true_and,and_true,false_and,and_false,and_self,false_or,or_false,if_true,if_false,reduceIte,Bool.false_eq_true,Bool.true_eq_false,eq_self,reduceCtorEq,List.drop_drop, *])))
    have hb0':ex=0→a≤ax∧nx+(L.length - ax)≤10000:=fun h0=>by
      grind
    replace hgo0:∀(ms:List Mth) (a' n' er' bd':Nat),RP L ax nx ex bx (mthsP e (L.length - ax+1) [] (L.drop ax) nx) ms a' n' er' bd'→RP L a n er bd (classP e (L.drop a) n) ⟨vx,[],ms⟩ a' n' er' bd':=fun ms a' n' er' bd' hh=>hgo0 ms a' n' er' bd' (by rw[List.length_drop];exact hh)
    refine L_loop (fun m env s'=>∃(a4 n4 er4 bd4 g:Nat) (out:List Mth) (o:Own),a4≤L.length∧(m=if er4=0 then g+1 else 0)∧(er4=0→L.length - a4+1≤g∧n4+(L.length - a4)≤10000∧out.length+(L.length - a4)≤5000)∧out.length≤5001 ∧
      (∀(q:List Mth) (a' n' er' bd':Nat),RP L a4 n4 er4 bd4 (mthsP e g out (L.drop a4) n4) q a' n' er' bd'→RP L a n er bd (classP e (L.drop a) n) ⟨vx,[],q⟩ a' n' er' bd') ∧
      s'=Rf (((s.own o 25 4 out.length).set b0 (.obj 28 [.str [],.str [],.lst [] .full])).set b (.obj 28 [.str vx,.str [],.lst (out.map mthC) o])) r L e a4 n4 er4 bd4 ∧
      OwnOk s o out.length∧NotOwn o r∧NotOwn o b0∧NotOwn o b∧env 0=.ptr r 0∧env 2=.ptr b0 0∧env 3=.ptr b 0) (if ex=0 then L.length - ax+1+1 else 0) ?_ ?_
    · exact⟨ax,nx,ex,bx,_,[],.full,hle,rfl,fun h0=>(by have:=hb0' h0;simp;omega),by simp,hgo0,rfl,rfl,trivial,trivial,trivial,z_sl,z_sl,z_sl⟩
    · rintro m env s' ⟨a4,n4,er4,bd4,g,out,o,ha4,hm,hbb,hl1,hgo,rfl,hown,hnr,hn0,hnb,z0,z2,z3⟩
      clear hgo0 hb0'
      by_cases hz:er4=0
      · subst hz
        rw[if_pos rfl]at hm
        obtain⟨hg1,hn2,hlo⟩:=hbb rfl
        clear hbb
        obtain⟨g,rfl⟩:∃g',g=g'+1:=⟨g - 1,by omega⟩
        (repeat'(first|refine Ctl ?_|((with_reducible refine Kof.use hK ?_);clear hK hE K E)|((with_reducible refine Eof.use hE ?_);(try clear hK hE K E))|((with_reducible refine Kof.use hKh ?_);clear hKh Kh)|((with_reducible refine Kof.use hKb (P_next ?_));clear hKb Kb)|(with_reducible first|refine G_plan 8 [([0,1,2,3,4,5,6,7,8,9,10,11,12,13,14,15,16,17],18,[[]]),([19,20,21,22,23,24,25,26,27,28,29,30],31,[[],[]])] [32,33] hQe fun K E hK hE=>?_|refine G_plan 10 [([0,1,2],3,[[0,1]]),([4],5,[[],[]]),([6],7,[[],[],[]])] [] hQe fun K E hK hE=>?_)|((with_reducible refine W_cond (fun h=>?_) (fun h=>?_))<;>(try have hlt:=isT_lt h)<;>(try(exfalso;first|assumption|omega)))|((first|(with_reducible first|refine G_region fun K E hK hE=>?_|refine call_ret can25 (Rfail_S _ _ _ _ _ _ _ _ _ (by decide)) ?_|refine call_ret can24 (Rfis_S _ _ _ _ _ _ _ _ _ _ (by omega) (by omega)) ?_|refine call_ret can45 (Rname_S _ _) ?_|refine W_if ?_|refine W_ifS ?_|refine P_heads fun Kh hKh=>?_|refine P_fin fun Kh hKh=>?_|refine P_each fun Kb hKb=>?_|refine W_and ?_)|((with_reducible refine call_ex can43 (Rtakes_S _ _ _ _ _ _ _ _ _ (by first|assumption|omega) (by assumption)) (fun a h=>?_));obtain⟨ax,nx,ex,bx⟩:=a;(try dsimp only at h);(try have hle:=h.1);(try have hlen:=RPl_mth h))|((with_reducible refine call_ex can44 (Rnm_S _ _ _ _ _ _ _ _ (by first|assumption|omega) (by assumption) (by assumption)) (fun a h=>?_));obtain⟨vx,ax,nx,ex,bx⟩:=a;(try dsimp only at h);have hup:=h.2;replace h:=RPn.rp h;(try have hle:=h.1);(try have hlen:=RPl_mth h))|((with_reducible refine call_ex can46 (Rmethod_S _ _ _ _ _ _ _ _ (by first|assumption|omega) (by assumption) (by assumption) ?_) (fun a h=>?_));(focus (intro h0;first|(simp[fE_eq]at h0;done)|omega|grind));obtain⟨vx,ax,nx,ex,bx⟩:=a;(try dsimp only at h);(try have hle:=h.1);(try have hlen:=RPl_mth h))|((with_reducible refine W_fresh (fun b hb=>?_));(repeat(obtain⟨_,hb⟩:=hb)))|((with_reducible refine W_app (fun o2 ho=>?_));(try simp(disch:=assumption) only[disown_set,disown_own,ownok_o,ownok_m,List.length_map,List.length_cons,List.length_nil,Nat.zero_add,Rf,List.length_map,sgn_at,sgnC,mthV,mthC,strsV,stsV,vrow,rf_out]at ho);(repeat(obtain⟨_,ho⟩:=ho)))|((with_reducible refine W_gd (fun h=>?_) (fun h=>?_))<;>(try have hlt:=isT_lt h)<;>(try(exfalso;first|assumption|omega))))<;>(try simp(disch:=first|assumption|omega) only[go_sem,seval,Rf,List.length_map,sgn_at,sgnC,mthV,mthC,strsV,stsV,vrow,rf_out, *]))))
        all_goals first
          | (rw [mthsP_done (by assumption)] at hgo
             (first|refine W_ret res26 hQ ?_|refine W_norm res26 hQ ?_|refine G_pan hQ ?_)
             refine fin_cls (z_fg) (hgo _ _ _ _ _ (RP.bind h (RP.mk_same h.le))))
          | (have hs : RP L a4 n4 0 bd4 (bnd (roomP e (L.drop a4) n4 out.length 32 (namedB (L.drop a4) || isT (L.drop a4) 0 [115, 116, 97, 116, 105, 99])) fun _ L n => mthP e L n) vx ax nx ex bx := by
               apply RP.bind (x:=()) (h2:=h)
               refine RP.room ha4 ?_ ?_ ?_<;>grind [fE_eq,fB_eq,GoodL.nm,named_end,isT_end]
             have hlen:=fun h0=>(hlen h0).2
             refine⟨if ex=0 then g+1 else 0,by split<;>omega,ax,nx,ex,bx,g,out++[vx],o2,hle,rfl,fun h0=>?_,?_,fun q a' n' er' bd' hh=>?_,?_,by simpa using ho,by assumption,by assumption,by assumption,z_sl,z_sl,z_sl⟩
             · have:=hlen h0;simp only[List.length_append,List.length_cons,List.length_nil];omega
             · simp only[List.length_append,List.length_cons,List.length_nil];omega
             · refine hgo _ _ _ _ _ ?_
               rw[mthsP_step (by assumption)]
               have:=RP.bind hs (k:=fun m L n=>mthsP e g (out++[m]) L n) hh
               rwa [bnd_assoc]at this
             · simp only[List.length_append,List.length_cons,List.length_nil,List.map_append,List.map_cons,List.map_nil,mthC,strsV,stsV])
      · have hz':¬ (er4:Int)=0:=by omega
        rw[if_neg hz]at hm
        (repeat'(first|refine Ctl ?_|((with_reducible refine Kof.use hK ?_);clear hK hE K E)|((with_reducible refine Eof.use hE ?_);(try clear hK hE K E))|((with_reducible refine Kof.use hKh ?_);clear hKh Kh)|((with_reducible refine Kof.use hKb (P_next ?_));clear hKb Kb)|(with_reducible first|refine G_plan 8 [([0,1,2,3,4,5,6,7,8,9,10,11,12,13,14,15,16,17],18,[[]]),([19,20,21,22,23,24,25,26,27,28,29,30],31,[[],[]])] [32,33] hQe fun K E hK hE=>?_|refine G_plan 10 [([0,1,2],3,[[0,1]]),([4],5,[[],[]]),([6],7,[[],[],[]])] [] hQe fun K E hK hE=>?_)|((with_reducible refine W_cond (fun h=>?_) (fun h=>?_))<;>(try(exfalso;first|assumption|omega)))|((first|(with_reducible first|refine G_region fun K E hK hE=>?_|refine call_ret can25 (Rfail_S _ _ _ _ _ _ _ _ _ (by decide)) ?_|refine call_ret can24 (Rfis_S _ _ _ _ _ _ _ _ _ _ (by omega) (by omega)) ?_|refine call_ret can45 (Rname_S _ _) ?_|refine W_if ?_|refine W_ifS ?_|refine P_heads fun Kh hKh=>?_|refine P_fin fun Kh hKh=>?_|refine P_each fun Kb hKb=>?_|refine W_and ?_)|((with_reducible refine call_ex can43 (Rtakes_S _ _ _ _ _ _ _ _ _ (by first|assumption|omega) (by assumption)) (fun a h=>?_));obtain⟨ax,nx,ex,bx⟩:=a;(try dsimp only at h);(try have hle:=h.1))|((with_reducible refine call_ex can44 (Rnm_S _ _ _ _ _ _ _ _ (by first|assumption|omega) (by assumption) (by assumption)) (fun a h=>?_));obtain⟨vx,ax,nx,ex,bx⟩:=a;(try dsimp only at h);have hup:=h.2;replace h:=RPn.rp h;(try have hle:=h.1))|((with_reducible refine call_ex can46 (Rmethod_S _ _ _ _ _ _ _ _ (by first|assumption|omega) (by assumption) (by assumption) ?_) (fun a h=>?_));(focus (intro h0;first|(simp[fE_eq]at h0;done)|omega|grind));obtain⟨vx,ax,nx,ex,bx⟩:=a;(try dsimp only at h);(try have hle:=h.1))|((with_reducible refine W_fresh (fun b hb=>?_));(repeat(obtain⟨_,hb⟩:=hb)))|((with_reducible refine W_app (fun o2 ho=>?_));(try simp(disch:=assumption) only[disown_set,disown_own,ownok_o,ownok_m,List.length_map,List.length_cons,List.length_nil,Nat.zero_add,Rf,List.length_map,sgn_at,sgnC,rf_out]at ho);(repeat(obtain⟨_,ho⟩:=ho)))|((with_reducible refine W_gd (fun h=>?_) (fun h=>?_))<;>(try(exfalso;first|assumption|omega))))<;>(try simp(disch:=first|assumption|omega) only[go_sem,seval,Rf,List.length_map,sgn_at,sgnC,rf_out, *]))))
        all_goals(first|refine W_ret res26 hQ ?_|refine W_norm res26 hQ ?_|refine G_pan hQ ?_)
        have:=h.old hz
        exact fin_cls (z_fg) (hgo _ _ _ _ _ (by rw[this.1,this.2];exact RP.mk_old h.le hz))
def parsesP (e:Nat):Nat→List Cls→List Sgn→Nat→PR (List Cls)
 |0,_,_,_=>.error (0,0)
 |f+1,out,L,n=>if L=[] then .ok (out,L,n)else bnd (roomP e L n out.length 32 (isT L 0 [99,108,97,115,115])) fun _ L n=>bnd (classP e L n) fun c L n=>parsesP e f (out++[c]) L n
def parseS (s:List UInt8):Except (Nat×Nat) (List Cls):=
 match lexSigns s with
 |.error x=>.error x
 |.ok L=>match parsesP s.length (L.length+1) [] L 0 with
  |.ok (cs,_,_)=>.ok cs
  |.error x=>.error x
def srcV (cs:List Cls):VV:=.agg [.lst (cs.map clsC) .no]
def parseV:Except (Nat×Nat) (List Cls)→VV
 |.ok cs=>.tup [srcV cs,.int .i64 0,.int .i64 0]
 |.error (a,e)=>.tup [srcV [],.int .i64 a,.int .i64 e]
theorem Wk_src {cs:List Cls}{o:Own}{a e:Int}:Wk (.tup [.agg [.lst (cs.map clsC) o],.int .i64 a,.int .i64 e]) (.tup [srcV cs,.int .i64 a,.int .i64 e]):=
 Wk.tup rfl fun j x y hx hy=>by
  match j with
  |0=>simp at hx hy;subst hx;subst hy;exact Wk.agg (.lst _ _ .nil)
  |1=>simp at hx hy;subst hx;subst hy;exact Wk.refl _
  |2=>simp at hx hy;subst hx;subst hy;exact Wk.refl _
  |j+3=>simp at hx
theorem lexGo_err:∀(f:Nat) (s:List UInt8) (at_:Nat) (out:List Sgn) (a e:Nat),lexGo f s at_ out=.error (a,e)→e≠0
 |0,s,at_,out,a,e,h=>by simp only[lexGo]at h;cases h
 |f+1,s,at_,out,a,e,h=>by
  simp only[lexGo]at h
  cases hd:s.drop (runN blankB s)with
  |nil=>rw[hd]at h;cases h
  |cons c r=>
   rw[hd]at h
   simp only at h
   split at h
   ·exact lexGo_err f _ _ _ _ _ h
   ·split at h
    ·injection h with h;injection h with h1 h2;subst h2;decide
    ·split at h
     ·injection h with h;injection h with h1 h2;subst h2;decide
     ·exact lexGo_err f _ _ _ _ _ h
theorem lexSigns_err {s:List UInt8}{a e:Nat}(h:lexSigns s=.error (a,e)):e≠0:=by
 unfold lexSigns at h
 split at h
 ·injection h with h;injection h with h1 h2;subst h2;decide
 ·exact lexGo_err _ _ _ _ _ _ h
theorem mthsP_len {e:Nat}:∀(f:Nat) (out:List Mth) (L L':List Sgn) (n n':Nat) (ms:List Mth),mthsP e f out L n=.ok (ms,L',n')→L'.length≤L.length∧n'+L'.length≤n+L.length
 |0,out,L,L',n,n',ms,h=>by simp only[mthsP]at h;cases h
 |f+1,out,L,L',n,n',ms,h=>by
  cases ht:isT L 0 [125]with
  |true=>
   rw[mthsP_done ht]at h
   replace h:=bnd_inv h
   obtain⟨_,L1,n1,h1,h⟩:=h
   obtain⟨_,rfl,rfl⟩:=ok_inj h
   have:=mustP_len h1
   omega
  |false=>
   rw[mthsP_step ht]at h
   replace h:=bnd_inv h
   obtain⟨_,L1,n1,h1,h⟩:=h
   obtain⟨rfl,rfl⟩:=roomP_eq h1
   replace h:=bnd_inv h
   obtain⟨m,L2,n2,h2,h⟩:=h
   have e2:=mthP_len h2
   have e3:=mthsP_len f _ _ _ _ _ _ h
   omega
theorem classP_len {e:Nat}{L L':List Sgn}{n n':Nat}{c:Cls}(h:classP e L n=.ok (c,L',n')):L'.length+1≤L.length∧n'+L'.length≤n+L.length:=by
 unfold classP at h
 replace h:=bnd_inv h
 obtain⟨_,L1,n1,h1,h⟩:=h
 replace h:=bnd_inv h
 obtain⟨x,L2,n2,h2,h⟩:=h
 replace h:=bnd_inv h
 obtain⟨y,L3,n3,h3,h⟩:=h
 replace h:=bnd_inv h
 obtain⟨_,L4,n4,h4,h⟩:=h
 replace h:=bnd_inv h
 obtain⟨ms,L5,n5,h5,h⟩:=h
 obtain⟨_,rfl,rfl⟩:=ok_inj h
 have e1:=mustP_len h1
 have e2:=nameP_len h2
 have e4:=mustP_len h4
 have e5:=mthsP_len _ _ _ _ _ _ _ h5
 have e3:L3.length≤L2.length∧n3=n2:=by
  split at h3
  ·rename_i ht
   have t1:=tail_len ht
   rw[bnd_id]at h3
   have:=nameP_len h3
   omega
  ·obtain⟨_,rfl,rfl⟩:=ok_inj h3;exact⟨Nat.le_refl _,rfl⟩
 omega
theorem RPl_class {L:List Sgn}{a n er bd e a' n' er' bd' a0 n0:Nat}{x:Cls}(h:RP L a n er bd (classP e (L.drop a0) n0) x a' n' er' bd'):er'=0→er=0∧a0+1≤a'∧n'+(L.length - a')≤n0+(L.length - a0):=fun h0=>by
 have:=classP_len (h.ok (h.back h0) h0)
 rw[List.length_drop,List.length_drop]at this
 have:=h.le
 exact⟨h.back h0,by omega,by omega⟩
set_option maxHeartbeats 4000000 in
theorem Rparse_S (l:List UInt8)(hl:l.length≤9223372036854775000)(s:St):SRet Tryz.prog 13 [.str l] s (parseV (parseS l)) s:=by
  refine G_enter Tryz.func13 rfl Tryz.ntmps13 rfl fun Q hQ hQe=>?_
  have hsig:=Rsigns_S l hl
  cases hL:lexSigns l with
  |error x=>
    obtain⟨a,e⟩:=x
    have he:=lexSigns_err hL
    have he':¬ (e:Int)=0:=by omega
    rw[hL]at hsig
    simp only[signsV]at hsig
    (repeat'(first|refine Ctl ?_|((with_reducible refine Kof.use hK ?_);clear hK hE K E)|((with_reducible refine Eof.use hE ?_);(try clear hK hE K E))|((with_reducible refine Kof.use hKh ?_);clear hKh Kh)|((with_reducible refine Kof.use hKb (P_next ?_));clear hKb Kb)|(with_reducible first|refine G_plan 6 [] [0,1,2,3,4,5,6,7,8,9,10,11,12,13,14,15,16] hQe fun K E hK hE=>?_|refine G_plan 9 [([0,1,2],3,[[0,1]]),([4],5,[[],[]]),([6],7,[[],[],[]])] [] hQe fun K E hK hE=>?_|refine G_plan 11 [([0,1,2,3,4,5,6,7,8],9,[[1,2,3,4,5,6,7,8]])] [10,11] hQe fun K E hK hE=>?_)|((with_reducible refine W_cond (fun h=>?_) (fun h=>?_))<;>(try(exfalso;first|assumption|omega)))|((first|(with_reducible first|refine G_region fun K E hK hE=>?_|refine call_ret can23 (hsig _) ?_|refine call_ret can25 (Rfail_S _ _ _ _ _ _ _ _ _ (by decide)) ?_|refine call_ret can24 (Rfis_S _ _ _ _ _ _ _ _ _ _ (by omega) (by omega)) ?_|refine call_ret can23 (Rsigns_S _ (by first|assumption|omega) _) ?_|refine W_if ?_|refine W_ifS ?_|refine P_heads fun Kh hKh=>?_|refine P_fin fun Kh hKh=>?_|refine P_each fun Kb hKb=>?_|refine W_and ?_)|((with_reducible refine call_ex can26 (Rclass_S _ _ _ _ _ _ _ _ (by first|assumption|omega) (by assumption) (by assumption) ?_) (fun a h=>?_));(focus (intro h0;first|(simp[fE_eq]at h0;done)|omega|grind));obtain⟨vx,ax,nx,ex,bx⟩:=a;(try dsimp only at h);(try have hle:=h.1))|((with_reducible refine W_fresh (fun b hb=>?_));(repeat(obtain⟨_,hb⟩:=hb)))|((with_reducible refine W_app (fun o2 ho=>?_));(repeat(obtain⟨_,ho⟩:=ho)))|((with_reducible refine W_gd (fun h=>?_) (fun h=>?_))<;>(try(exfalso;first|assumption|omega))))<;>(try simp(disch:=first|assumption|omega) only[go_sem,seval, *]))))
    all_goals(first|refine W_ret res13 hQ ?_|refine W_norm res13 hQ ?_|refine G_pan hQ ?_)
    all_goals(refine⟨_,_,?_,?_,rfl,rfl⟩)
    · have:parseS l=.error (a,e):=by unfold parseS;rw[hL]
      rw[this]
      exact Wk_src (cs:=[])
    · (exact z_fg)
  |ok L=>
    obtain⟨hG,hLl⟩:=lexSigns_good hL
    rw[hL]at hsig
    simp only[signsV]at hsig
    (repeat'(first|refine Ctl ?_|((with_reducible refine Kof.use hK ?_);clear hK hE K E)|((with_reducible refine Eof.use hE ?_);(try clear hK hE K E))|((with_reducible refine Kof.use hKh ?_);clear hKh Kh)|((with_reducible refine Kof.use hKb (P_next ?_));clear hKb Kb)|(with_reducible first|refine G_plan 6 [] [0,1,2,3,4,5,6,7,8,9,10,11,12,13,14,15,16] hQe fun K E hK hE=>?_|refine G_plan 9 [([0,1,2],3,[[0,1]]),([4],5,[[],[]]),([6],7,[[],[],[]])] [] hQe fun K E hK hE=>?_|refine G_plan 11 [([0,1,2,3,4,5,6,7,8],9,[[1,2,3,4,5,6,7,8]])] [10,11] hQe fun K E hK hE=>?_)|((with_reducible refine W_cond (fun h=>?_) (fun h=>?_))<;>(try(exfalso;first|assumption|omega)))|((first|(with_reducible first|refine G_region fun K E hK hE=>?_|refine call_ret can23 (hsig _) ?_|refine call_ret can25 (Rfail_S _ _ _ _ _ _ _ _ _ (by decide)) ?_|refine call_ret can24 (Rfis_S _ _ _ _ _ _ _ _ _ _ (by omega) (by omega)) ?_|refine call_ret can23 (Rsigns_S _ (by first|assumption|omega) _) ?_|refine W_if ?_|refine W_ifS ?_|refine P_heads fun Kh hKh=>?_|refine P_fin fun Kh hKh=>?_|refine P_each fun Kb hKb=>?_|refine W_and ?_)|((with_reducible refine call_ex can26 (Rclass_S _ _ _ _ _ _ _ _ (by first|assumption|omega) (by assumption) (by assumption) ?_) (fun a h=>?_));(focus (intro h0;first|(simp[fE_eq]at h0;done)|omega|grind));obtain⟨vx,ax,nx,ex,bx⟩:=a;(try dsimp only at h);(try have hle:=h.1))|((with_reducible refine W_fresh (fun b hb=>?_));(repeat(obtain⟨_,hb⟩:=hb)))|((with_reducible refine W_app (fun o2 ho=>?_));(try simp(disch:=assumption) only[disown_set,disown_own,ownok_o,ownok_m,List.length_map,List.length_cons,List.length_nil,Nat.zero_add,rf_out]at ho);(repeat(obtain⟨_,ho⟩:=ho)))|((with_reducible refine W_gd (fun h=>?_) (fun h=>?_))<;>(try(exfalso;first|assumption|omega))))<;>(try simp(disch:=first|assumption|omega) only[go_sem,seval,rf_out, *]))))
    rename_i b0 hb0 r q1 q2 hr q3 q4 q5 q6
    clear hsig
    have hgo0:∀(q:List Cls) (a' n' er' bd':Nat),RP L 0 0 0 0 (parsesP l.length (L.length+1) [] (L.drop 0) 0) q a' n' er' bd'→(er'=0→parseS l=.ok q)∧(er'≠0→parseS l=.error (bd',er')):=fun q a' n' er' bd' hh=>by
      refine⟨fun h0=>?_,fun h0=>?_⟩
      · have:=hh.ok rfl h0
        rw[List.drop_zero]at this
        unfold parseS;rw[hL];simp only[this]
      · have:=hh.no rfl h0
        rw[List.drop_zero]at this
        unfold parseS;rw[hL];simp only[this]
    refine L_loop (fun m env s'=>∃(a4 n4 er4 bd4 g:Nat) (out:List Cls) (o:Own),a4≤L.length∧(m=if er4=0 then g+1 else 0)∧(er4=0→L.length - a4+1≤g∧n4+(L.length - a4)≤10000∧out.length+(L.length - a4)≤5000)∧out.length≤5001 ∧
      (∀(q:List Cls) (a' n' er' bd':Nat),RP L a4 n4 er4 bd4 (parsesP l.length g out (L.drop a4) n4) q a' n' er' bd'→(er'=0→parseS l=.ok q)∧(er'≠0→parseS l=.error (bd',er'))) ∧
      s'=Rf (((s.own o 28 3 out.length).set b0 (.obj 31 [.lst [] .full])).set b (.obj 31 [.lst (out.map clsC) o])) r L l.length a4 n4 er4 bd4 ∧
      OwnOk s o out.length∧NotOwn o r∧NotOwn o b0∧NotOwn o b∧env 0=.str l∧env 2=.ptr b0 0∧env 8=.ptr r 0∧env 9=.ptr b 0) (L.length+1+1) ?_ ?_
    · exact⟨0,0,0,0,_,[],.full,by omega,rfl,fun h0=>(by simp;omega),by simp,hgo0,rfl,rfl,trivial,trivial,trivial,z_sl,z_sl,z_sl,z_sl⟩
    · rintro m env s' ⟨a4,n4,er4,bd4,g,out,o,ha4,hm,hbb,hl1,hgo,rfl,hown,hnr,hn0,hnb,z0,z2,z8,z9⟩
      clear hgo0
      by_cases hz:er4=0
      · subst hz
        rw[if_pos rfl]at hm
        obtain⟨hg1,hn2,hlo⟩:=hbb rfl
        clear hbb
        obtain⟨g,rfl⟩:∃g',g=g'+1:=⟨g - 1,by omega⟩
        (repeat'(first|refine Ctl ?_|((with_reducible refine Kof.use hK ?_);clear hK hE K E)|((with_reducible refine Eof.use hE ?_);(try clear hK hE K E))|((with_reducible refine Kof.use hKh ?_);clear hKh Kh)|((with_reducible refine Kof.use hKb (P_next ?_));clear hKb Kb)|(with_reducible first|refine G_plan 6 [] [0,1,2,3,4,5,6,7,8,9,10,11,12,13,14,15,16] hQe fun K E hK hE=>?_|refine G_plan 9 [([0,1,2],3,[[0,1]]),([4],5,[[],[]]),([6],7,[[],[],[]])] [] hQe fun K E hK hE=>?_|refine G_plan 11 [([0,1,2,3,4,5,6,7,8],9,[[1,2,3,4,5,6,7,8]])] [10,11] hQe fun K E hK hE=>?_)|((with_reducible refine W_cond (fun h=>?_) (fun h=>?_))<;>(try have hlt:=isT_lt h)<;>(try(exfalso;first|assumption|omega)))|((first|(with_reducible first|refine G_region fun K E hK hE=>?_|refine call_ret can25 (Rfail_S _ _ _ _ _ _ _ _ _ (by decide)) ?_|refine call_ret can24 (Rfis_S _ _ _ _ _ _ _ _ _ _ (by omega) (by omega)) ?_|refine call_ret can23 (Rsigns_S _ (by first|assumption|omega) _) ?_|refine W_if ?_|refine W_ifS ?_|refine P_heads fun Kh hKh=>?_|refine P_fin fun Kh hKh=>?_|refine P_each fun Kb hKb=>?_|refine W_and ?_)|((with_reducible refine call_ex can26 (Rclass_S _ _ _ _ _ _ _ _ (by first|assumption|omega) (by assumption) (by assumption) ?_) (fun a h=>?_));(focus (intro h0;first|(simp[fE_eq]at h0;done)|omega|grind));obtain⟨vx,ax,nx,ex,bx⟩:=a;(try dsimp only at h);(try have hle:=h.1);(try have hlen:=RPl_class h))|((with_reducible refine W_fresh (fun b hb=>?_));(repeat(obtain⟨_,hb⟩:=hb)))|((with_reducible refine W_app (fun o2 ho=>?_));(try simp(disch:=assumption) only[disown_set,disown_own,ownok_o,ownok_m,List.length_map,List.length_cons,List.length_nil,Nat.zero_add,Rf,List.length_map,clsV,clsC,vrow,rf_out]at ho);(repeat(obtain⟨_,ho⟩:=ho)))|((with_reducible refine W_gd (fun h=>?_) (fun h=>?_))<;>(try have hlt:=isT_lt h)<;>(try(exfalso;first|assumption|omega))))<;>(try simp(disch:=first|assumption|omega) only[go_sem,seval,Rf,List.length_map,clsV,clsC,vrow,rf_out, *]))))
        all_goals first
          | (have hd4 : L.drop a4 = [] := List.drop_eq_nil_iff.2 (by omega)
             have hfin:=(hgo out a4 n4 0 bd4 (RP.mk_ok ha4 (by rw[hd4];rfl))).1 rfl
             (first|refine W_ret res13 hQ ?_|refine W_norm res13 hQ ?_|refine G_pan hQ ?_)
             refine⟨_,_,?_,?_,rfl,rfl⟩
             · rw[hfin];exact Wk_src
             · (exact z_fg))
          | (have hs : RP L a4 n4 0 bd4 (bnd (roomP l.length (L.drop a4) n4 out.length 32 (isT (L.drop a4) 0 [99, 108, 97, 115, 115])) fun _ L n => classP l.length L n) vx ax nx ex bx := by
               apply RP.bind (x:=()) (h2:=h)
               refine RP.room ha4 ?_ ?_ ?_<;>grind [fE_eq,fB_eq]
             have hlen:=fun h0=>(hlen h0).2
             have hne:L.drop a4≠[]:=fun e=>by have:=List.drop_eq_nil_iff.1 e;omega
             refine⟨if ex=0 then g+1 else 0,by split<;>omega,ax,nx,ex,bx,g,out++[vx],o2,hle,rfl,fun h0=>?_,?_,fun q a' n' er' bd' hh=>?_,?_,by simpa using ho,by assumption,by assumption,by assumption,z_sl,z_sl,z_sl,z_sl⟩
             · have:=hlen h0;simp only[List.length_append,List.length_cons,List.length_nil];omega
             · simp only[List.length_append,List.length_cons,List.length_nil];omega
             · refine hgo q a' n' er' bd' ?_
               simp only[parsesP,if_neg hne]
               have:=RP.bind hs (k:=fun c L n=>parsesP l.length g (out++[c]) L n) hh
               rwa [bnd_assoc]at this
             · simp only[List.length_append,List.length_cons,List.length_nil,List.map_append,List.map_cons,List.map_nil,clsC])
      · have hz':¬ (er4:Int)=0:=by omega
        rw[if_neg hz]at hm
        (repeat'(first|refine Ctl ?_|((with_reducible refine Kof.use hK ?_);clear hK hE K E)|((with_reducible refine Eof.use hE ?_);(try clear hK hE K E))|((with_reducible refine Kof.use hKh ?_);clear hKh Kh)|((with_reducible refine Kof.use hKb (P_next ?_));clear hKb Kb)|(with_reducible first|refine G_plan 6 [] [0,1,2,3,4,5,6,7,8,9,10,11,12,13,14,15,16] hQe fun K E hK hE=>?_|refine G_plan 9 [([0,1,2],3,[[0,1]]),([4],5,[[],[]]),([6],7,[[],[],[]])] [] hQe fun K E hK hE=>?_|refine G_plan 11 [([0,1,2,3,4,5,6,7,8],9,[[1,2,3,4,5,6,7,8]])] [10,11] hQe fun K E hK hE=>?_)|((with_reducible refine W_cond (fun h=>?_) (fun h=>?_))<;>(try(exfalso;first|assumption|omega)))|((first|(with_reducible first|refine G_region fun K E hK hE=>?_|refine call_ret can25 (Rfail_S _ _ _ _ _ _ _ _ _ (by decide)) ?_|refine call_ret can24 (Rfis_S _ _ _ _ _ _ _ _ _ _ (by omega) (by omega)) ?_|refine call_ret can23 (Rsigns_S _ (by first|assumption|omega) _) ?_|refine W_if ?_|refine W_ifS ?_|refine P_heads fun Kh hKh=>?_|refine P_fin fun Kh hKh=>?_|refine P_each fun Kb hKb=>?_|refine W_and ?_)|((with_reducible refine call_ex can26 (Rclass_S _ _ _ _ _ _ _ _ (by first|assumption|omega) (by assumption) (by assumption) ?_) (fun a h=>?_));(focus (intro h0;first|(simp[fE_eq]at h0;done)|omega|grind));obtain⟨vx,ax,nx,ex,bx⟩:=a;(try dsimp only at h);(try have hle:=h.1))|((with_reducible refine W_fresh (fun b hb=>?_));(repeat(obtain⟨_,hb⟩:=hb)))|((with_reducible refine W_app (fun o2 ho=>?_));(try simp(disch:=assumption) only[disown_set,disown_own,ownok_o,ownok_m,List.length_map,List.length_cons,List.length_nil,Nat.zero_add,Rf,List.length_map,rf_out]at ho);(repeat(obtain⟨_,ho⟩:=ho)))|((with_reducible refine W_gd (fun h=>?_) (fun h=>?_))<;>(try(exfalso;first|assumption|omega))))<;>(try simp(disch:=first|assumption|omega) only[go_sem,seval,Rf,List.length_map,rf_out, *]))))
        have hfin:=(hgo [] a4 n4 er4 bd4 (RP.mk_old ha4 hz)).2 hz
        (first|refine W_ret res13 hQ ?_|refine W_norm res13 hQ ?_|refine G_pan hQ ?_)
        refine⟨_,_,?_,?_,rfl,rfl⟩
        · rw[hfin];exact Wk_src (cs:=[])
        · (exact z_fg)
end Go.Proofs.YtadbggfpnhkmbaaGreat
