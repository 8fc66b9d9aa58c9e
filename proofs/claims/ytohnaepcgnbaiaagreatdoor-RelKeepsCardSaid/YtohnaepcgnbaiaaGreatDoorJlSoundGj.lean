/- Walks. Conditions: in the statements. -/
import Derived.Test.YtohnaepcgnbaiaaGreatDoorJlSoundDj
import Derived.Deep.LoopGhost
import Derived.StillTail
import Derived.Defers
import Derived.Recover
import Derived.Test.YtohnaepcgnbaiaaGreatDoorProg
import Derived.Tactics2
import Derived.KernelRfl
import Derived.Laws.Pointers
import Derived.Laws.LoneSync
import Derived.RegionTactic
import Derived.RegionCalls
import Derived.ChangeAlike
set_option maxHeartbeats 32000000
set_option linter.unusedSimpArgs false
set_option linter.unusedVariables false
namespace Go.Proofs.YtohnaepcgnbaiaaGreatDoor
open Go.RowKit
inductive Fin' where
 |norm
 |ret
 |exit (id:Nat)
 |panic (x:VV)
def RX (G:Gh):Exit->Fin'->Prop
 |.normal,.norm=>True
 |.ret,.ret=>True
 |.exit i,.exit j=>i=j
 |.panic ch,.panic x=>∃v,ch=[{ v:=v,recovered:=false }]/\R G v x
 |_,_=>False
abbrev Pst:=Fin'->Env->St->Prop
def Up (N:Nat)(w0:World)(G:Gh)(D:List Deferred)(Q:Pst):Exit->Act->World->Prop:=fun e a w=>
 ∃(G':Gh) (f:Fin') (env:Env) (s:St),G.le G'/\RX G' e f/\FR N G' a.tmps env/\a.defers=D/\Sim w0 G' w s/\Q f env s
theorem Up.back {N:Nat}{w0:World}{G G':Gh}{D:List Deferred}{Q:Pst}(h:G.le G'){e:Exit}{a:Act}{w:World}(u:Up N w0 G' D Q e a w):Up N w0 G D Q e a w:=by
 obtain⟨G'',f,env,s,h1,h2⟩:=u
 exact⟨G'',f,env,s,h.trans h1,h2⟩
theorem C_ {P:Program}{o:Oper}{a:Act}{w:World}{n n':Act->World->Prop}{Q Q':Exit->Act->World->Prop}(hn:∀a w,n a w->n' a w)(hQ:∀e a w,Q e a w->Q' e a w)
  (h:o.wp P a w n Q):o.wp P a w n' Q':=by
 unfold Oper.wp at h ⊢
 generalize (execOp a.eval o).run P w=r at h ⊢
 unfold Oper.upon at h ⊢
 split at h
 ·exact hn _ _ h
 ·exact hn _ _ h
 ·exact hn _ _ h
 ·refine h.mono fun e w' he=>?_
  cases e with
  |returned v=>exact hn _ _ he
  |panicked ch=>exact hQ _ _ _ he
  |outgrown=>obtain⟨a,w,q⟩:=he;exact⟨a,w,hQ _ _ _ q⟩
 ·exact h.mono fun v w' he=>hn _ _ he
 ·exact hQ _ _ _ h
 ·exact h.elim
section
variable {P : Program} {N : Nat} {D : List Deferred}
theorem mV {all:List Oper}{K:Env->St->Prop}{E:VV->Env->St->Prop}{Q:Pst}(hK:∀env s,K env s->Q .norm env s)(hE:∀x env s,E x env s->Q (.panic x) env s) :
  ∀(rest:List Oper) (env:Env) (s:St),aw P N all K E rest env s->∀(w0:World) (G:Gh) (w:World) (a:Act),FR N G a.tmps env->a.defers=D->Sim w0 G w s ->
   wpList P all.toArray (Up N w0 G D Q) rest a w
 |[],env,s,h,w0,G,w,a,hf,hD,hS=>⟨G,.norm,env,s,Gh.le.refl G,trivial,hf,hD,hS,hK env s h⟩
 |o::rest,env,s,h,w0,G,w,a,hf,hD,hS=>by
  have ih:=mV (all:=all) hK hE rest
  have mono:∀(G':Gh),G.le G'->∀(l:List Oper) (a:Act) (w:World),wpList P all.toArray (Up N w0 G' D Q) l a w->wpList P all.toArray (Up N w0 G D Q) l a w:=by
   intro G' hG l
   induction l with
   |nil=>exact fun a w h=>Up.back hG h
   |cons o l ihl=>
    intro a w h
    unfold wpList at h ⊢
    split at h
    ·rename_i hw
     rw[if_pos hw]
     rcases h with h|⟨h1,a',w',h2⟩
     ·exact .inl (C_ ihl (fun e a w=>Up.back hG) h)
     ·exact .inr ⟨h1,a',w',Up.back hG h2⟩
    ·rename_i hw
     rw[if_neg hw]
     exact ihl _ _ h
  have run:aP P N E o (fun env s=>aw P N all K E rest env s) env s->o.wp P a w (wpList P all.toArray (Up N w0 G D Q) rest) (Up N w0 G D Q):=by
   intro hst
   refine C_ ?_ ?_ (ng hf hD hS hst)
   ·rintro a' w' ⟨G',env',s',hG,hf',hD',hS',hk⟩
    exact mono G' hG _ _ _ (ih env' s' hk w0 G' w' a' hf' hD' hS')
   ·rintro e a' w' ⟨G',env',s',v,x,rfl,hv,hG,hf',hD',hS',hk⟩
    exact⟨G',.panic x,env',s',hG,⟨v,rfl,hv⟩,hf',hD',hS',hE _ _ _ hk⟩
  have skip:wj N o (fun env s=>aw P N all K E rest env s) env s->wpList P all.toArray (Up N w0 G D Q) rest (a.put o.dst undef) w:=by
   intro hsk
   exact ih _ _ hsk w0 G w _ (hf.put o.dst (.tup _ _ rfl (fun j v y hv=>by simp at hv))) ((dc _ _ _).trans hD) hS
  unfold wpList
  simp only[aw]at h
  cases hg:o.guard with
  |none=>
   rw[if_pos (by simp[Region.wanted,hg])]
   rw[hg]at h
   exact .inl (run h)
  |some g=>
   obtain⟨j,want⟩:=g
   rw[hg]at h
   simp only at h
   unfold yv at h
   cases hd:(all[j]?).bind (·.dst)with
   |none=>
    rw[hd]at h
    rw[if_neg (by simp[Region.wanted,hg,yielded,hd])]
    exact skip h
   |some t=>
    rw[hd]at h
    simp only at h
    have hr:=hf.rel t
    cases he:env t with
    |bool b=>
     rw[he]at hr h
     generalize hv:a.tmps.getD t undef=v at hr
     cases hr
     have hy:yielded all.toArray a.tmps j=some b:=by
      have hlt:t<a.tmps.size:=by
       rcases Nat.lt_or_ge t a.tmps.size with h'|h'
       ·exact h'
       ·simp[Array.getD,Nat.not_lt.2 h',undef]at hv
      have:a.tmps[t]?=some (.bool b):=by
       simp[Array.getD,hlt]at hv
       simp[hlt,hv]
      simp[yielded,hd,this]
     simp only[gU]at h
     by_cases hbw:b=want
     ·rw[if_pos hbw]at h
      rw[if_pos (by simp[Region.wanted,hg,hy,hbw])]
      exact .inl (run h)
     ·rw[if_neg hbw]at h
      rw[if_neg (by simp[Region.wanted,hg,hy,hbw])]
      exact skip h
    |tup xs=>
     rw[he]at hr h
     generalize hv:a.tmps.getD t undef=v at hr
     cases hr with
     |tup vs xs hs hR=>
      have hy:yielded all.toArray a.tmps j=none:=by
       by_cases hlt:t<a.tmps.size
       ·have:a.tmps[t]?=some (.tuple vs):=by
         simp[Array.getD,hlt]at hv
         simp[hlt,hv]
        simp[yielded,hd,this]
       ·simp[yielded,hd,hlt]
      rw[if_neg (by simp[Region.wanted,hg,hy])]
      exact skip h
    |_=>rw[he]at h;exact h.elim
def SW (P:Program)(N:Nat)(D:List Deferred)(c:Code)(Q:Pst)(env:Env)(s:St):Prop:=
 ∀(w0:World) (G:Gh) (w:World) (a:Act),FR N G a.tmps env->a.defers=D->Sim w0 G w s->c.wp P (Up N w0 G D Q) a w
inductive Itm where
 |code (c:Code)
 |blk (id:Nat)
 |back (I:Env->St->Prop)
def Kp (P:Program)(N:Nat)(D:List Deferred):List Itm->Pst->Pst
 |[],Q=>Q
 |.code c::k,Q=>fun f env s=>match f with|.norm=>SW P N D c (Kp P N D k Q) env s|f=>Kp P N D k Q f env s
 |.blk id::k,Q=>fun f env s=>match f with|.exit j=>if j=id then Kp P N D k Q .norm env s else Kp P N D k Q (.exit j) env s|f=>Kp P N D k Q f env s
 |.back I::k,Q=>fun f env s=>match f with|.norm=>I env s|f=>Kp P N D k Q f env s
section
variable {k : List Itm} {Q : Pst} {env : Env} {s : St}
theorem Qz {x y:Code}(h:Kp P N D (.code x::.code y::k) Q .norm env s):Kp P N D (.code (.seq x y)::k) Q .norm env s:=by
 intro w0 G w a hf hD hS
 refine wp_seq (wp_mono (h w0 G w a hf hD hS) ?_)
 rintro e a' w' ⟨G',f,env',s',hG,hx,hf',hD',hS',hq⟩
 cases f with
 |norm=>
  cases e<;>first|exact hx.elim|skip
  exact wp_mono (hq w0 G' w' a' hf' hD' hS') fun e a w=>Up.back hG
 |ret=>cases e<;>first|exact hx.elim|exact⟨G',.ret,env',s',hG,hx,hf',hD',hS',hq⟩
 |exit i=>cases e<;>first|exact hx.elim|exact⟨G',.exit i,env',s',hG,hx,hf',hD',hS',hq⟩
 |panic x=>cases e<;>first|exact hx.elim|exact⟨G',.panic x,env',s',hG,hx,hf',hD',hS',hq⟩
theorem MQ (h:Kp P N D k Q .norm env s):Kp P N D (.code .skip::k) Q .norm env s:=
 fun _ G _ _ hf hD hS=>wp_skip ⟨G,.norm,env,s,Gh.le.refl G,trivial,hf,hD,hS,h⟩
theorem MR {id:Nat}(h:Kp P N D k Q (.exit id) env s):Kp P N D (.code (.exit id)::k) Q .norm env s:=
 fun _ G _ _ hf hD hS=>wp_exit ⟨G,.exit id,env,s,Gh.le.refl G,rfl,hf,hD,hS,h⟩
theorem rO:∀k:List Itm,Kp P N D k Q .ret env s=Q .ret env s
 |[]=>rfl
 |.code c::k=>rO k
 |.blk id::k=>rO k
 |.back I::k=>rO k
theorem iz {x:VV}:∀k:List Itm,Kp P N D k Q (.panic x) env s=Q (.panic x) env s
 |[]=>rfl
 |.code c::k=>iz k
 |.blk id::k=>iz k
 |.back I::k=>iz k
theorem QA (h:Q .ret env s):Kp P N D (.code .ret::k) Q .norm env s:=
 fun _ G _ _ hf hD hS=>wp_ret ⟨G,.ret,env,s,Gh.le.refl G,trivial,hf,hD,hS,by rw[rO];exact h⟩
theorem QB {id:Nat}{c:Code}(h:Kp P N D (.code c::.blk id::k) Q .norm env s):Kp P N D (.code (.block id c)::k) Q .norm env s:=by
 intro w0 G w a hf hD hS
 refine wp_block (wp_mono (h w0 G w a hf hD hS) ?_)
 rintro e a' w' ⟨G',f,env',s',hG,hx,hf',hD',hS',hq⟩
 cases f with
 |norm=>cases e<;>first|exact hx.elim|exact⟨G',.norm,env',s',hG,hx,hf',hD',hS',hq⟩
 |ret=>cases e<;>first|exact hx.elim|exact⟨G',.ret,env',s',hG,hx,hf',hD',hS',hq⟩
 |panic x=>cases e<;>first|exact hx.elim|exact⟨G',.panic x,env',s',hG,hx,hf',hD',hS',hq⟩
 |exit i=>
  cases e<;>first|exact hx.elim|skip
  rename_i i'
  have:i'=i:=hx
  subst this
  simp only[Kp]at hq
  simp only[Exit.inBlock]
  by_cases hi:i'=id
  ·rw[if_pos hi]at hq ⊢
   exact⟨G',.norm,env',s',hG,trivial,hf',hD',hS',hq⟩
  ·rw[if_neg hi]at hq ⊢
   exact⟨G',.exit i',env',s',hG,rfl,hf',hD',hS',hq⟩
theorem Cg {id:Nat}(h:Kp P N D k Q .norm env s):Kp P N D (.blk id::k) Q .norm env s:=h
theorem MU {I:Env->St->Prop}(h:I env s):Kp P N D (.back I::k) Q .norm env s:=h
theorem Mu {c:Code}{id:Nat}(h:Kp P N D k Q (.exit id) env s):Kp P N D (.code c::k) Q (.exit id) env s:=h
theorem Mv {I:Env->St->Prop}{id:Nat}(h:Kp P N D k Q (.exit id) env s):Kp P N D (.back I::k) Q (.exit id) env s:=h
theorem Qt {id:Nat}(h:Kp P N D k Q .norm env s):Kp P N D (.blk id::k) Q (.exit id) env s:=by
 show (if id=id then _ else _)
 rw[if_pos rfl];exact h
theorem Mt {id j:Nat}(hne:j≠id)(h:Kp P N D k Q (.exit j) env s):Kp P N D (.blk id::k) Q (.exit j) env s:=by
 simp only[Kp];rw[if_neg hne];exact h
def rZ (P:Program)(N:Nat)(D:List Deferred)(c:VV)(x y:Code)(k:List Itm)(Q:Pst)(env:Env)(s:St):Prop:=
 match c with
 |.bool t=>(t=true->Kp P N D (.code x::k) Q .norm env s)/\(t=false->Kp P N D (.code y::k) Q .norm env s)
 |_=>False
theorem ue {x y:Code}:rZ P N D (.bool true) x y k Q env s=Kp P N D (.code x::k) Q .norm env s:=by simp[rZ]
theorem rY {x y:Code}:rZ P N D (.bool false) x y k Q env s=Kp P N D (.code y::k) Q .norm env s:=by simp[rZ]
theorem MT {c:Operand}{x y:Code}(h:rZ P N D (rd env c) x y k Q env s):Kp P N D (.code (.cond c x y)::k) Q .norm env s:=by
 intro w0 G w a hf hD hS
 have hr:=hf.eval c
 cases he:rd env c with
 |bool t=>
  rw[he]at hr h
  generalize hv:a.eval c=v at hr
  cases hr
  cases t with
  |true=>exact wp_cond_true hv (h.1 rfl w0 G w a hf hD hS)
  |false=>exact wp_cond_false hv (h.2 rfl w0 G w a hf hD hS)
 |_=>rw[he]at h;exact h.elim
theorem Cf {id:Nat}{ops:List Oper}(h:∀(K:Env->St->Prop) (E:VV->Env->St->Prop),(∀env s,Kp P N D k Q .norm env s->K env s)->(∀x env s,Q (.panic x) env s->E x env s)->aw P N ops K E ops env s) :
  Kp P N D (.code (.region id ops.toArray false)::k) Q .norm env s:=by
 intro w0 G w a hf hD hS
 refine wp_region_list ?_
 have:=h (fun env s=>Kp P N D k Q .norm env s) (fun x env s=>Q (.panic x) env s) (fun _ _ h=>h) (fun _ _ _ h=>h)
 exact mV (Q:=Kp P N D k Q) (fun _ _ h=>h) (fun x env s h=>by rw[iz];exact h) ops env s this w0 G w a hf hD hS
theorem aY {c:Code}(I:Nat->Env->St->Prop)(n:Nat)(h0:I n env s)(hr:∀n env s,I n env s->Kp P N D (.code c::.back (fun env' s'=>∃m,m<n/\I m env' s')::k) Q .norm env s) :
  Kp P N D (.code (.loop c)::k) Q .norm env s:=by
 intro w0 G w a hf hD hS
 refine wp_loop_ghost (fun n a w=>∃(G':Gh) (env:Env) (s:St),G.le G'/\FR N G' a.tmps env/\a.defers=D/\Sim w0 G' w s/\I n env s) n ⟨G,env,s,Gh.le.refl G,hf,hD,hS,h0⟩ ?_
 rintro n a w ⟨G',env,s,hG,hf,hD,hS,hI⟩
 refine wp_mono (hr n env s hI w0 G' w a hf hD hS) ?_
 rintro e a' w' ⟨G'',f,env',s',hG',hx,hf',hD',hS',hq⟩
 cases f with
 |norm=>
  cases e<;>first|exact hx.elim|skip
  obtain⟨m,hm,hI'⟩:=hq
  exact⟨m,hm,G'',env',s',hG.trans hG',hf',hD',hS',hI'⟩
 |ret=>cases e<;>first|exact hx.elim|exact⟨G'',.ret,env',s',hG.trans hG',hx,hf',hD',hS',hq⟩
 |exit i=>cases e<;>first|exact hx.elim|exact⟨G'',.exit i,env',s',hG.trans hG',hx,hf',hD',hS',hq⟩
 |panic x=>cases e<;>first|exact hx.elim|exact⟨G'',.panic x,env',s',hG.trans hG',hx,hf',hD',hS',hq⟩
theorem kL {c:Code}{I I':Env->St->Prop}(hI:∀env s,I env s->I' env s)(h:Kp P N D (.code c::.back I::k) Q .norm env s):Kp P N D (.code c::.back I'::k) Q .norm env s:=by
 intro w0 G w a hf hD hS
 refine wp_mono (h w0 G w a hf hD hS) ?_
 rintro e a' w' ⟨G',f,env',s',hG,hx,hf',hD',hS',hq⟩
 exact⟨G',f,env',s',hG,hx,hf',hD',hS',by cases f<;>first|exact hI _ _ hq|exact hq⟩
def KR (P:Program)(N:Nat)(D:List Deferred)(c:Code)(k:List Itm)(Q:Pst):Nat->Env->St->Prop
 |0=>fun _ _=>False
 |n+1=>fun env s=>Kp P N D (.code c::.back (KR P N D c k Q n)::k) Q .norm env s
theorem kJ {c:Code}(n:Nat)(h:KR P N D c k Q n env s):Kp P N D (.code (.loop c)::k) Q .norm env s:=by
 refine aY (fun m env s=>KR P N D c k Q m env s) n h ?_
 intro m env s hm
 cases m with
 |zero=>exact hm.elim
 |succ m=>exact kL (fun env s h=>⟨m,Nat.lt_succ_self m,h⟩) hm
theorem cD {c:Code}(n:Nat)(h:Kp P N D (.code c::.back (KR P N D c k Q n)::k) Q .norm env s):KR P N D c k Q (n+1) env s:=h
theorem dr {c:Code}{s':St}(hf:Fg s s')(h:Kp P N D (.code c::k) Q .norm env s'):Kp P N D (.code c::k) Q .norm env s:=
 fun w0 G w a hfr hD hS=>h w0 G w a hfr hD (hS.forget hf)
end
def rW (P:Program)(env:Env)(s:St):ResultVar->Option VV
 |.tmp t=>some (env t)
 |.cell t T=>fJ (qi P T) (env t) s
def gT (P:Program)(env:Env)(s:St):List ResultVar->Option (Tb)
 |[]=>some []
 |r::rs=>match rW P env s r,gT P env s rs with|some x,some xs=>some (x::xs)|_,_=>none
def kP (P:Program)(env:Env)(s:St)(rs:List ResultVar):Option VV:=
 match rs with
 |[r]=>rW P env s r
 |rs=>(gT P env s rs).map .tup
def rh (tmps:Th):ResultVar->Sem Value
 |.tmp t=>pure (tmps.getD t undef)
 |.cell a t=>do loadVar t (<- asAddr (tmps.getD a undef))
theorem uu (fn:Func)(tmps:Th):results fn tmps=(do
  let vs <- fn.results.mapM (rh tmps)
  pure (if h:vs.size=1 then vs[0] else .tuple vs)):=by
 unfold results
 congr 2
theorem su {w0 w:World}{G:Gh}{s:St}{env:Env}{tmps:Th}(hf:FR N G tmps env)(hS:Sim w0 G w s){r:ResultVar}{x:VV}(h:rW P env s r=some x) :
  ∃v,(rh tmps r).run P w=.ok v w/\R G v x:=by
 cases r with
 |tmp t=>
  simp only[rW,Option.some.injEq]at h
  subst h
  exact⟨_,rfl,hf.rel t⟩
 |cell t T=>
  have hr:=hf.rel t
  obtain⟨v,hrun,hR⟩:=pU (P:=P) hS hr h
  refine⟨v,?_,hR⟩
  generalize hu:tmps.getD t undef=u at hrun
  cases u with
  |pointer a=>
   cases a with
   |some a=>
    simp only[rh,hu,asAddr,Sem.run_bind,Sem.run_pure,Result.andThen_ok]
    simpa [Instr.loadAt,Instr.sureAddr]using hrun
   |none=>simp[Instr.loadAt,Instr.sureAddr]at hrun
  |_=>simp[Instr.loadAt,Instr.sureAddr]at hrun
theorem pT {w0 w:World}{G:Gh}{s:St}{env:Env}{tmps:Th}(hf:FR N G tmps env)(hS:Sim w0 G w s):∀(rs:List ResultVar) (xs:Tb),gT P env s rs=some xs ->
  ∃vs:List Value,(rs.mapM (rh tmps)).run P w=.ok vs w/\RL G vs.toArray xs/\vs.length=rs.length
 |[],xs,h=>by
  simp only[gT,Option.some.injEq]at h
  subst h
  exact⟨[],by simp,⟨rfl,by simp⟩,rfl⟩
 |r::rs,xs,h=>by
  simp only[gT]at h
  split at h
  ·rename_i x xs' h1 h2
   simp only[Option.some.injEq]at h
   subst h
   obtain⟨v,hv,hR⟩:=su (P:=P) hf hS h1
   obtain⟨vs,hvs,hRs,hl⟩:=pT hf hS rs xs' h2
   refine⟨v::vs,?_,⟨by simpa using hRs.1,fun j u y hu hy=>?_⟩,by simp[hl]⟩
   ·rw[List.mapM_cons]
    simp only[Sem.run_bind]
    rw[hv]
    simp only[Result.andThen_ok]
    rw[hvs]
    rfl
   ·cases j with
    |zero=>simp at hu hy;subst hu;subst hy;exact hR
    |succ j=>exact hRs.2 j u y (by simpa using hu) (by simpa using hy)
  ·cases h
theorem zK {w0 w:World}{G:Gh}{s:St}{env:Env}{tmps:Th}{fn:Func}(hf:FR N G tmps env)(hS:Sim w0 G w s){x:VV}(h:kP P env s fn.results.toList=some x) :
  ∃v,(results fn tmps).run P w=.ok v w/\R G v x:=by
 rw[uu,Array.mapM_eq_mapM_toList]
 generalize fn.results.toList=rs at h
 match rs,h with
 |[],h=>
  simp only[kP,gT,Option.map_some,Option.some.injEq]at h
  subst h
  exact⟨.tuple #[],by simp,.tup _ _ rfl (by simp)⟩
 |[r],h=>
  obtain⟨v,hv,hR⟩:=su (P:=P) hf hS (r:=r) h
  refine⟨v,?_,hR⟩
  simp only[Sem.run_bind,Sem.run_map,List.mapM_cons,List.mapM_nil]
  rw[hv]
  rfl
 |r::r'::rs,h=>
  simp only[kP]at h
  cases hx:gT P env s (r::r'::rs)with
  |none=>simp[hx]at h
  |some xs=>
   simp only[hx,Option.map_some,Option.some.injEq]at h
   subst h
   obtain⟨vs,hvs,hRs,hl⟩:=pT (P:=P) hf hS _ _ hx
   refine⟨.tuple vs.toArray,?_,.tup _ _ hRs.1 hRs.2⟩
   simp only[Sem.run_bind,Sem.run_map]
   rw[hvs]
   simp only[Result.andThen_ok]
   rw[dif_neg (by simp[hl])]
   rfl
def Wk (x y:VV):Prop:=∀(G:Gh) (v:Value),R G v x->R G v y
theorem Wk.refl (x:VV):Wk x x:=fun _ _ h=>h
theorem Wk.lst (xs:Ta)(o:Own):Wk (.lst xs o) (.lst xs .no):=fun _ _ h=>h.unown
def Qf (P:Program)(rs:List ResultVar)(Q:SEnd->St->Prop):Pst:=fun f env s=>
 match f with
 |.norm=>∃x,kP P env s rs=some x/\∃y s',Wk x y/\Fg s s'/\Q (.ret y) s'
 |.ret=>∃x,kP P env s rs=some x/\∃y s',Wk x y/\Fg s s'/\Q (.ret y) s'
 |.panic x=>∃s',Fg s s'/\Q (.panic x) s'
 |.exit _=>False
def ry (xs:Tb):Env:=fun i=>(xs[i]?).getD (.tup [])
theorem FR.start {G:Gh}{vs:Th}{xs:Tb}{n:Nat}(h:RL G vs xs)(hN:n=vs.size+(n - vs.size)):FR n G (vs++Array.replicate (n - vs.size) undef) (ry xs):=by
 refine⟨by simp;omega,fun i=>?_⟩
 unfold ry
 have hu:R G undef (.tup []):=.tup _ _ rfl (by simp)
 rcases Nat.lt_or_ge i vs.size with hi|hi
 ·have h2:i<xs.length:=by rw[<- h.1];exact hi
  have:(vs++Array.replicate (n - vs.size) undef).getD i undef=vs[i]:=by
   rw[Array.getD_eq_getD_getElem?,Array.getElem?_append_left hi];simp[hi]
  rw[this,m_ h2]
  exact h.2 i _ _ (Array.getElem?_eq_getElem hi) (m_ h2)
 ·have h2:xs[i]?=none:=t_ (by rw[<- h.1];exact hi)
  rw[h2]
  have:(vs++Array.replicate (n - vs.size) undef).getD i undef=undef:=by
   rw[Array.getD_eq_getD_getElem?,Array.getElem?_append_right hi,Array.getElem?_replicate]
   split<;>rfl
  rw[this]
  exact hu
theorem Fj {f:FuncId}{fn:Func}{c:Code}{xs:Tb}{s:St}{Q:SEnd->St->Prop}(hf:P.funcs[f]?=some fn)(hb:fn.body=some c)(hN:fn.ntmps=N)(hl:Nat.ble xs.length N=true)
  (h:Kp P N [] [.code c] (Qf P fn.results.toList Q) .norm (ry xs) s):SCalls P f xs s Q:=by
 intro w0 G w vs hS hvs
 subst hN
 have hle:vs.size<=fn.ntmps:=by rw[hvs.1];exact Nat.le_of_ble_eq_true hl
 refine calls_of_wp hf hb (wp_mono (h w0 G w { tmps:=vs++Array.replicate (fn.ntmps - vs.size) undef,defers:=[] } (FR.start hvs (by omega)) rfl hS) ?_)
 rintro e a w' ⟨G',f,env,s',hG,hx,hf',hD,hS',hq⟩
 have fin:(∃x,kP P env s' fn.results.toList=some x/\∃y s'',Wk x y/\Fg s' s''/\Q (.ret y) s'')->a.defers=[]/\∃v,(results fn a.tmps).run P w'=.ok v w' /\
   ∃(G':Gh) (s':St) (x:SEnd),G.le G'/\Sim w0 G' w' s'/\RE G' (.returned v) x/\Q x s':=by
  rintro⟨x,hx,y,s'',hw,hfg,hq⟩
  obtain⟨v,hrun,hR⟩:=zK (P:=P) (fn:=fn) hf' hS' hx
  exact⟨hD,v,hrun,G',s'',.ret y,hG,hS'.forget hfg,hw _ _ hR,hq⟩
 cases f with
 |norm=>cases e<;>first|exact hx.elim|exact fin hq
 |ret=>cases e<;>first|exact hx.elim|exact fin hq
 |exit i=>cases e<;>first|exact hx.elim|exact hq.elim
 |panic x=>
  cases e<;>first|exact hx.elim|skip
  obtain⟨v,rfl,hv⟩:=hx
  obtain⟨s'',hfg,hq⟩:=hq
  exact⟨hD,G',s'',.panic x,hG,hS'.forget hfg,⟨v,rfl,hv⟩,hq⟩
theorem SCalls.mono {f:FuncId}{xs:Tb}{s:St}{Q Q':SEnd->St->Prop}(h:SCalls P f xs s Q)(hq:∀x s',Q x s'->Q' x s'):SCalls P f xs s Q':=
 fun w0 G w vs hS hvs=>(h w0 G w vs hS hvs).mono fun e w' ⟨G',s',x,h1,h2,h3,h4⟩=>⟨G',s',x,h1,h2,h3,hq x s' h4⟩
theorem ai {f:FuncId}{fn:Func}(hf:P.funcs[f]?=some fn)(hn:(fn.name == "runtime.NumGoroutine")=false)(hb:fn.body.isNone=false):an P f:=by
 intro args w
 unfold callFunc
 simp only[Sem.run_bind,run_program,Result.andThen_ok,hf,hn,hb,Bool.false_eq_true,if_false,Sem.run_pure]
end
section
variable {P : Program} {N : Nat} {D : List Deferred}
theorem xb {ops:Array Oper}{Q Q':Exit->Act->World->Prop}{i:Nat}{K K':Act->World->Prop}{a:Act}{w:World}(hK:∀a w,K a w->K' a w)(hQ:∀e a w,Q e a w->Q' e a w)(h:wpOp P ops Q i K a w):wpOp P ops Q' i K' a w:=by
 unfold wpOp at h ⊢
 cases ho:ops[i]? with
 |none=>rw[ho]at h;exact hK _ _ h
 |some o=>
  rw[ho]at h
  simp only at h ⊢
  split at h
  ·rename_i hw
   rw[if_pos hw]
   rcases h with h|⟨h1,a',w',h2⟩
   ·exact .inl (C_ hK hQ h)
   ·exact .inr ⟨h1,a',w',hQ _ _ _ h2⟩
  ·rename_i hw
   rw[if_neg hw]
   exact hK _ _ h
theorem lG {md:Region.Mode}{ops:Array Oper}{Q Q':Exit->Act->World->Prop}(hQ:∀e a w,Q e a w->Q' e a w):∀(f:Nat) (listed:Array Bool) (a:Act) (w:World),wpAny P md ops Q f listed a w->wpAny P md ops Q' f listed a w
 |0,_,_,_,h=>⟨h.1,hQ _ _ _ h.2⟩
 |f+1,_,_,_,h=>⟨fun e=>hQ _ _ _ (h.1 e),fun i hi=>xb (lG hQ f _) hQ (h.2 i hi)⟩
def gV (P:Program)(N:Nat)(all:List Oper)(E:VV->Env->St->Prop)(o:Oper)(K:Env->St->Prop)(env:Env)(s:St):Prop:=
 match o.guard with
 |none=>aP P N E o K env s
 |some (j,want)=>gU (yv all env j) want (aP P N E o K env s) (wj N o K env s)
def lY (P:Program)(N:Nat)(all:List Oper)(E:VV->Env->St->Prop)(i:Nat)(K:Env->St->Prop)(env:Env)(s:St):Prop:=
 match all[i]? with
 |none=>K env s
 |some o=>gV P N all E o K env s
def CG (P:Program)(N:Nat)(all:List Oper)(K:Env->St->Prop)(E:VV->Env->St->Prop):Nat->Array Bool->Env->St->Prop
 |0,listed,env,s=>Region.ready .any all.toArray listed=[]/\K env s
 |f+1,listed,env,s=>(Region.ready .any all.toArray listed=[]->K env s)/\∀i∈Region.ready .any all.toArray listed,lY P N all E i (CG P N all K E f (listed.setIfInBounds i true)) env s
theorem uc {all:List Oper}{E:VV->Env->St->Prop}{Q:Pst}{i:Nat}{K:Env->St->Prop}{env:Env}{s:St}{w0:World}{G:Gh}{w:World}{a:Act}{K':Act->World->Prop}
  (hE:∀x env s,E x env s->Q (.panic x) env s) (hf:FR N G a.tmps env) (hD:a.defers=D) (hS:Sim w0 G w s)
  (hK:∀(G':Gh) (env':Env) (s':St) (a':Act) (w':World),G.le G'->FR N G' a'.tmps env'->a'.defers=D->Sim w0 G' w' s'->K env' s'->K' a' w')
  (h:lY P N all E i K env s):wpOp P all.toArray (Up N w0 G D Q) i K' a w:=by
 unfold lY at h
 unfold wpOp
 rw[List.getElem?_toArray]
 cases ho:all[i]? with
 |none=>rw[ho]at h;exact hK G env s a w (Gh.le.refl G) hf hD hS h
 |some o=>
  rw[ho]at h
  simp only at h ⊢
  have run:aP P N E o K env s->o.wp P a w K' (Up N w0 G D Q):=by
   intro hst
   refine C_ ?_ ?_ (ng hf hD hS hst)
   ·rintro a' w' ⟨G',env',s',hG,hf',hD',hS',hk⟩
    exact hK G' env' s' a' w' hG hf' hD' hS' hk
   ·rintro e a' w' ⟨G',env',s',v,x,rfl,hv,hG,hf',hD',hS',hk⟩
    exact⟨G',.panic x,env',s',hG,⟨v,rfl,hv⟩,hf',hD',hS',hE _ _ _ hk⟩
  have skip:wj N o K env s->K' (a.put o.dst undef) w:=by
   intro hsk
   exact hK G _ s _ w (Gh.le.refl G) (hf.put o.dst (.tup _ _ rfl (fun j v y hv=>by simp at hv))) ((dc _ _ _).trans hD) hS hsk
  unfold gV at h
  cases hg:o.guard with
  |none=>
   rw[if_pos (by simp[Region.wanted,hg])]
   rw[hg]at h
   exact .inl (run h)
  |some g=>
   obtain⟨j,want⟩:=g
   rw[hg]at h
   simp only at h
   unfold yv at h
   cases hd:(all[j]?).bind (·.dst)with
   |none=>
    rw[hd]at h
    rw[if_neg (by simp[Region.wanted,hg,yielded,hd])]
    exact skip h
   |some t=>
    rw[hd]at h
    simp only at h
    have hr:=hf.rel t
    cases he:env t with
    |bool b=>
     rw[he]at hr h
     generalize hv:a.tmps.getD t undef=v at hr
     cases hr
     have hy:yielded all.toArray a.tmps j=some b:=by
      have hlt:t<a.tmps.size:=by
       rcases Nat.lt_or_ge t a.tmps.size with h'|h'
       ·exact h'
       ·simp[Array.getD,Nat.not_lt.2 h',undef]at hv
      have:a.tmps[t]?=some (.bool b):=by
       simp[Array.getD,hlt]at hv
       simp[hlt,hv]
      simp[yielded,hd,this]
     simp only[gU]at h
     by_cases hbw:b=want
     ·rw[if_pos hbw]at h
      rw[if_pos (by simp[Region.wanted,hg,hy,hbw])]
      exact .inl (run h)
     ·rw[if_neg hbw]at h
      rw[if_neg (by simp[Region.wanted,hg,hy,hbw])]
      exact skip h
    |tup xs=>
     rw[he]at hr h
     generalize hv:a.tmps.getD t undef=v at hr
     cases hr with
     |tup vs xs hs hR=>
      have hy:yielded all.toArray a.tmps j=none:=by
       by_cases hlt:t<a.tmps.size
       ·have:a.tmps[t]?=some (.tuple vs):=by
         simp[Array.getD,hlt]at hv
         simp[hlt,hv]
        simp[yielded,hd,this]
       ·simp[yielded,hd,hlt]
      rw[if_neg (by simp[Region.wanted,hg,hy])]
      exact skip h
    |_=>rw[he]at h;exact h.elim
theorem mY {all:List Oper}{K:Env->St->Prop}{E:VV->Env->St->Prop}{Q:Pst}(hK:∀env s,K env s->Q .norm env s)(hE:∀x env s,E x env s->Q (.panic x) env s) :
  ∀(f:Nat) (listed:Array Bool) (env:Env) (s:St),CG P N all K E f listed env s->∀(w0:World) (G:Gh) (w:World) (a:Act),FR N G a.tmps env->a.defers=D->Sim w0 G w s ->
   wpAny P .any all.toArray (Up N w0 G D Q) f listed a w
 |0,_,env,s,h,w0,G,w,a,hf,hD,hS=>⟨h.1,G,.norm,env,s,Gh.le.refl G,trivial,hf,hD,hS,hK _ _ h.2⟩
 |f+1,listed,env,s,h,w0,G,w,a,hf,hD,hS=>
  ⟨fun e=>⟨G,.norm,env,s,Gh.le.refl G,trivial,hf,hD,hS,hK _ _ (h.1 e)⟩,fun i hi=>
   uc hE hf hD hS (fun G' env' s' a' w' hG hf' hD' hS' hk=>lG (fun e a w=>Up.back hG) f _ _ _ (mY hK hE f _ env' s' hk w0 G' w' a' hf' hD' hS')) (h.2 i hi)⟩
theorem MS {k:List Itm}{Q:Pst}{env:Env}{s:St}{id:Nat}{ops:List Oper}(hm:P.follows .mixedOrders=true)
  (h:∀(K:Env->St->Prop) (E:VV->Env->St->Prop),(∀env s,Kp P N D k Q .norm env s->K env s)->(∀x env s,Q (.panic x) env s->E x env s)->CG P N ops K E ops.length (Array.replicate ops.length false) env s) :
  Kp P N D (.code (.region id ops.toArray true)::k) Q .norm env s:=by
 intro w0 G w a hf hD hS
 refine wp_region_any hm ?_
 have:=h (fun env s=>Kp P N D k Q .norm env s) (fun x env s=>Q (.panic x) env s) (fun _ _ h=>h) (fun _ _ _ h=>h)
 exact mY (Q:=Kp P N D k Q) (fun _ _ h=>h) (fun x env s h=>by rw[iz];exact h) _ _ env s this w0 G _ a hf hD ⟨⟨hS.below.os,hS.below.tape,hS.below.output,hS.below.size,hS.below.block⟩,hS.K,hS.cap,hS.ok,hS.gl,hS.rows⟩
end
theorem lH {P:Program}{N:Nat}{E E':VV->Env->St->Prop}{o:Oper}{rest rest':Env->St->Prop}{env env':Env}{s:St}(hx:∀x∈o.op.operands.toList,rd env' x=rd env x)
  (hr:∀y s',rest (put N env o.dst y) s'->rest' (put N env' o.dst y) s') (hE:∀x s,E x env s->E' x env' s) (h:aP P N E o rest env s):aP P N E' o rest' env' s:=by
 have ob:∀{α:Type} {f g:α->Prop} {x:Option α},(∀y,f y->g y)->dS f x->dS g x:=by
  intro α f g x hfg hx
  cases x with
  |none=>exact hx
  |some y=>exact hfg y hx
 obtain⟨d,op,ty,p,af,g⟩:=o
 simp only at hx hr
 unfold aP at h ⊢
 cases op<;>simp only[Op.operands]at hx<;>simp only at h ⊢
 all_goals(try exact h.elim)
 all_goals(try simp only[AT,List.not_mem_nil,or_false,forall_eq_or_imp,forall_eq,Option.toArray,Array.toList_append,List.cons_append,List.nil_append]at hx)
 case move=>rw[hx];exact hr _ _ h
 case assign=>rw[hx];exact hr _ _ h
 case pick=>
  simp only[hx]
  split at h
  ·exact hr _ _ h
  ·exact h.elim
 case alloc=>exact⟨h.1,fun b hb=>hr _ _ (h.2 b hb)⟩
 case box=>simp only[hx];exact⟨h.1,fun b hb=>hr _ _ (h.2 b hb)⟩
 case build T parts=>
  have e:(parts.toList.map fun p=>(p.1,rd env' p.2))=parts.toList.map fun p=>(p.1,rd env p.2):=
   List.map_congr_left fun p hp=>by rw[hx p.2 (List.mem_map_of_mem hp)]
  rw[e]
  exact⟨h.1,h.2.1,ob (fun _=>hr _ _) h.2.2⟩
 case buildSlice T n parts=>
  have e:(parts.toList.map fun p=>(p.1,rd env' p.2))=parts.toList.map fun p=>(p.1,rd env p.2):=
   List.map_congr_left fun p hp=>by rw[hx p.2 (List.mem_map_of_mem hp)]
  rw[e]
  exact⟨h.1,h.2.1,h.2.2.1,h.2.2.2.1,ob (fun xs hh=>by
   by_cases hm:v7 T p=true
   ·rw[if_pos hm]at hh ⊢
    exact⟨hh.1,fun b hb=>hr _ _ (hh.2 b hb)⟩
   ·rw[if_neg hm]at hh ⊢
    exact hr _ _ hh) h.2.2.2.2⟩
 case load=>rw[hx];exact ob (fun _=>hr _ _) h
 case store=>rw[hx.1,hx.2];exact ob (fun _=>hr _ _) h
 case nilCheck=>rw[hx];exact⟨h.1,hr _ _ h.2⟩
 case binOp=>
  rw[hx.1,hx.2]
  split at h
  ·exact⟨h.1,ob (fun _=>hr _ _) h.2⟩
  ·split at h
   ·exact⟨h.1,hr _ _ h.2⟩
   ·exact hr _ _ h
   ·exact hr _ _ h
   ·exact h.elim
  ·obtain⟨h1,h2⟩:=h
   refine⟨h1,?_⟩
   split at h2
   ·exact hr _ _ h2
   ·exact hr _ _ h2
   ·exact h2.elim
  ·obtain⟨h1,h2,h3,h4⟩:=h
   refine⟨h1,h2,h3,?_⟩
   split at h4
   ·exact hr _ _ h4
   ·exact hr _ _ h4
   ·exact h4.elim
  ·split at h
   ·exact ob (fun _=>hr _ _) h
   ·exact ob (fun _=>hr _ _) h
   ·exact h.elim
  ·obtain⟨hc,h⟩:=h
   refine⟨hc,?_⟩
   split at h
   ·exact ob (fun _=>hr _ _) h
   ·exact ob (fun _=>hr _ _) h
   ·exact h.elim
 case typeAssert=>
  rw[hx]
  refine⟨h.1,h.2.1,?_⟩
  have h2:=h.2.2
  split at h2
  ·exact⟨h2.1,hr _ _ h2.2⟩
  ·exact h2.elim
 case convert=>rw[hx];exact ob (fun _=>hr _ _) h
 case unOp=>
  rw[hx]
  split at h
  ·exact hr _ _ h
  ·exact hr _ _ h
  ·exact h.elim
 case fieldAddr=>
  rw[hx]
  split at h
  ·exact⟨h.1,hr _ _ h.2⟩
  ·exact hr _ _ h
  ·exact h.elim
 case field=>
  rw[hx]
  split at h
  ·exact ob (fun _=>hr _ _) h
  ·exact h.elim
 case indexAddr=>rw[hx.1,hx.2];exact ob (fun _=>hr _ _) h
 case index=>rw[hx.1,hx.2];exact ob (fun _=>hr _ _) h
 case makeInterface=>rw[hx];exact⟨h.1,hr _ _ h.2⟩
 case extract=>
  rw[hx]
  split at h
  ·exact ob (fun _=>hr _ _) h
  ·exact h.elim
 case panic=>
  rw[hx]
  split at h
  ·exact hE _ _ h
  ·exact h.elim
 case lookup=>rw[hx.1,hx.2];exact ob (fun _=>hr _ _) h
 case mapUpdate=>rw[hx.1,hx.2.1,hx.2.2];exact ob (fun _=>hr _ _) h
 case slice T x lo hi mx=>
  obtain⟨hx0,hx1⟩:=hx
  have hlo:lo.map (rd env')=lo.map (rd env):=by
   cases lo with
   |none=>rfl
   |some y=>simp only[Option.map_some];rw[hx1 y (by simp)]
  have hhi:hi.map (rd env')=hi.map (rd env):=by
   cases hi with
   |none=>rfl
   |some y=>simp only[Option.map_some];rw[hx1 y (by simp)]
  rw[hx0,hlo,hhi]
  exact⟨h.1,ob (fun _=>hr _ _) h.2⟩
 case makeSlice T l c=>
  rw[hx.1,hx.2]
  split at h
  ·obtain⟨h1,h2,h3,h4,h5,h6,h7⟩:=h
   exact⟨h1,h2,h3,h4,h5,h6,fun b hb=>hr _ _ (h7 b hb)⟩
  ·obtain⟨h1,h2,h3,h4,h5,h6,h7⟩:=h
   exact⟨h1,h2,h3,h4,h5,h6,fun b hb=>hr _ _ (h7 b hb)⟩
  ·exact h.elim
 case makeMap T r=>
  cases r with
  |none=>exact fun b hb=>hr _ _ (h b hb)
  |some r=>exact h.elim
 case makeFunc fn fs caps=>
  cases fn with
  |func f=>
   simp only at h ⊢
   have e:caps.toList.map (rd env')=caps.toList.map (rd env):=List.map_congr_left fun p hp=>hx p (List.mem_append_right _ hp)
   rw[e]
   exact⟨h.1,hr _ _ h.2⟩
  |_=>exact h.elim
 case call c=>
  have ea:c.args.toList.map (rd env')=c.args.toList.map (rd env):=List.map_congr_left fun p hp=>hx p (by simp[Call.operands];exact .inr (by simpa using hp))
  have ha:∀x∈c.args.toList,rd env' x=rd env x:=fun p hp=>hx p (by simp[Call.operands];exact .inr (by simpa using hp))
  cases hc:c.callee with
  |value f=>
   rw[hc]at h
   simp only at h ⊢
   rw[hx f (by simp[Call.operands,hc]),ea]
   obtain⟨g,caps,Q,h1,h2,h3,h4⟩:=h
   exact⟨g,caps,Q,h1,h2,fun x s' q=>hr _ _ (h3 x s' q),fun x s' q=>hE _ _ (h4 x s' q)⟩
  |invoke r m=>rw[hc]at h;exact h.elim
  |builtin b=>
   rw[hc]at h
   cases b with
   |len=>
    simp only at h ⊢
    split at h
    ·rename_i x T he hT
     rw[ha x (by rw[he];simp)]
     exact ob (fun _=>hr _ _) h
    ·exact h.elim
   |min=>
    simp only at h ⊢
    split at h
    ·rename_i x y he
     rw[ha x (by rw[he];simp),ha y (by rw[he];simp)]
     exact ob (fun _=>hr _ _) h
    ·exact h.elim
   |max=>
    simp only at h ⊢
    split at h
    ·rename_i x y he
     rw[ha x (by rw[he];simp),ha y (by rw[he];simp)]
     exact ob (fun _=>hr _ _) h
    ·exact h.elim
   |append=>
    simp only at h ⊢
    split at h
    ·rename_i x y T T' he hT
     rw[ha x (by rw[he];simp),ha y (by rw[he];simp)]
     refine⟨h.1,?_⟩
     have h2:=h.2
     split at h2
     ·obtain⟨a0,a1,a2,a3,a4,a5⟩:=h2
      refine⟨a0,a1,a2,a3,a4,?_⟩
      split at a5
      ·exact a5
      ·exact⟨a5.1,fun e=>hr _ _ (a5.2.1 e),fun e b hb=>hr _ _ (a5.2.2 e b hb)⟩
      ·exact⟨a5.1,fun b hb=>hr _ _ (a5.2 b hb)⟩
     ·obtain⟨a0,a1,a2,a3,a4,a5,a6,a7,a8⟩:=h2
      exact⟨a0,a1,a2,a3,a4,a5,a6,a7,fun b' hb'=>hr _ _ (a8 b' hb')⟩
     ·obtain⟨a0,a1,a2,a3,a4,a5,a6⟩:=h2
      exact⟨a0,a1,a2,a3,a4,a5,fun b' hb'=>hr _ _ (a6 b' hb')⟩
     ·obtain⟨a0,a1,a2,a3,a4,a5⟩:=h2
      refine⟨a0,a1,a2,a3,a4,?_⟩
      split at a5
      ·exact a5
      ·exact⟨a5.1,fun e=>hr _ _ (a5.2.1 e),fun e b hb=>hr _ _ (a5.2.2 e b hb)⟩
      ·exact⟨a5.1,fun b hb=>hr _ _ (a5.2 b hb)⟩
     ·exact h2.elim
    ·exact h.elim
   |_=>exact h.elim
def F0:VV->Env->St->Prop:=fun _ _ _=>False
theorem D3 {N:Nat}{env env':Env}{d:Option Tmp}{y z:VV}(h:put N env d y=put N env d z):put N env' d y=put N env' d z:=by
 cases d with
 |none=>rfl
 |some t=>
  simp only[put]at h ⊢
  split at h
  ·rename_i ht
   have:=congrFun h t
   simp only[upd,if_true]at this
   rw[this]
  ·rename_i ht;simp only[ht,if_false]
theorem rq {N:Nat}{env:Env}{dst:Option Tmp}{u:VV}{x:Operand}(h:∀d,dst=some d->x≠.tmp d):rd (put N env dst u) x=rd env x:=by
 cases dst with
 |none=>rfl
 |some t=>
  cases x with
  |tmp t'=>
   have:t'≠t:=fun e=>h t rfl (by rw[e])
   simp only[rd,put]
   split
   ·simp[upd,this]
   ·rfl
  |_=>rfl
theorem AA {N:Nat}{env:Env}{d d':Option Tmp}{y u:VV}(h:∀t,d=some t->d'≠some t):put N (put N env d y) d' u=put N (put N env d' u) d y:=by
 cases d with
 |none=>rfl
 |some t=>
  cases d' with
  |none=>rfl
  |some t'=>
   have hne:t≠t':=fun e=>h t rfl (by rw[e])
   simp only[put]
   split<;>split<;>try rfl
   funext x
   simp only[upd]
   by_cases h1:x=t
   ·subst h1;simp[hne]
   ·simp[h1]
section
variable {P : Program} {N : Nat} {all : List Oper} {s : St}
def YV (P:Program)(N:Nat)(all:List Oper)(s:St)(o:Oper)(y:VV)(env:Env):Prop:=∀K:Env->St->Prop,K (put N env o.dst y) s->gV P N all F0 o K env s
theorem d8 {E E':VV->Env->St->Prop}{o:Oper}{K K':Env->St->Prop}{env env':Env}(hx:∀x∈o.op.operands.toList,rd env' x=rd env x)(hg:∀j b,o.guard=some (j,b)->yv all env' j=yv all env j)
  (hr:∀y s',K (put N env o.dst y) s'->K' (put N env' o.dst y) s') (hE:∀x s,E x env s->E' x env' s) (h:gV P N all E o K env s):gV P N all E' o K' env' s:=by
 unfold gV at h ⊢
 cases ho:o.guard with
 |none=>rw[ho]at h;exact lH hx hr hE h
 |some g=>
  obtain⟨j,b⟩:=g
  rw[ho]at h
  simp only at h ⊢
  rw[hg j b ho]
  unfold gU at h ⊢
  split at h
  ·split at h
   ·rename_i hb;rw[if_pos hb];exact lH hx hr hE h
   ·rename_i hb;rw[if_neg hb];exact hr _ _ h
  ·exact hr _ _ h
  ·exact h.elim
theorem Fd {o:Oper}{y:VV}{env env':Env}(hx:∀x∈o.op.operands.toList,rd env' x=rd env x)(hg:∀j b,o.guard=some (j,b)->yv all env' j=yv all env j)
  (h:YV P N all s o y env):YV P N all s o y env':=fun K hK=>
 d8 hx hg (K:=fun e s'=>∃z,e=put N env o.dst z/\K (put N env' o.dst z) s') (fun z s' ⟨z',e,hk⟩=>by rw[D3 e];exact hk) (fun _ _ h=>h) (h _ ⟨y,rfl,hK⟩)
theorem BW {N:Nat}{all:List Oper}{o:Oper}{u:VV}{env:Env}{dst:Option Tmp}(hd:∀d,dst=some d->d∉o.looksAt all.toArray) :
  (∀x∈o.op.operands.toList,rd (put N env dst u) x=rd env x)/\(∀j b,o.guard=some (j,b)->yv all (put N env dst u) j=yv all env j):=by
 constructor
 ·intro x hx
  refine rq fun d hd' hxd=>hd d hd' ?_
  subst hxd
  exact List.mem_append_left _ (List.mem_filterMap.2 ⟨.tmp d,by simpa using hx,rfl⟩)
 ·intro j b hg
  unfold yv
  cases hj:(all[j]?).bind (·.dst)with
  |none=>rfl
  |some t=>
   simp only
   have:rd (put N env dst u) (.tmp t)=rd env (.tmp t):=rq fun d hd' hxd=>hd d hd' (by
    injection hxd with hxd
    subst hxd
    refine List.mem_append_right _ ?_
    simp[hg,hj])
   exact this
theorem pJ {E:VV->Env->St->Prop}{i:Nat}{K K':Env->St->Prop}{env:Env}{s:St}(h:∀e s,K e s->K' e s)(hh:lY P N all E i K env s):lY P N all E i K' env s:=by
 unfold lY at *
 cases ho:all[i]? with
 |none=>rw[ho]at hh;exact h _ _ hh
 |some o=>
  rw[ho]at hh
  exact d8 (fun _ _=>rfl) (fun _ _ _=>rfl) (fun _ _=>h _ _) (fun _ _ h=>h) hh
end
section
variable {P : Program} {N : Nat} {D : List Deferred}
end
theorem ed {α:Type}:∀{X Y:List α},X.Nodup->(∀x,x∈X->x∈Y)->X.length<=Y.length
 |[],_,_,_=>Nat.zero_le _
 |a::X,Y,hn,hs=>by
  obtain⟨p,q,rfl⟩:=List.append_of_mem (hs a (by simp))
  rw[List.nodup_cons]at hn
  have:=ed (X:=X) (Y:=p++q) hn.2 fun x hx=>by
   have h1:=hs x (by simp[hx])
   rw[f_,AT]at h1
   rw[f_]
   rcases h1 with h1|h1|h1
   ·exact .inl h1
   ·subst h1;exact absurd hx hn.1
   ·exact .inr h1
  simp only[List.length_cons,p_]at this ⊢
  omega
open Classical in
noncomputable def ixN:Td->Tr->Nat
 |[],_=>0
 |a::l,t=>if a=t then 0 else ixN l t+1
theorem bS:∀{ns:Td} {t:Tr},t∈ns->ns[ixN ns t]?=some t
 |a::l,t,h=>by
  unfold ixN
  split
  ·rename_i e;subst e;rfl
  ·rename_i e
   rcases AT.1 h with h|h
   ·exact absurd h.symm e
   ·simpa using bS h
theorem gD {ns:Td}{t:Tr}(h:t∈ns):ixN ns t<ns.length:=(x_.1 (bS h)).1
theorem A8 {ns:Td}{t:Tr}{k:Nat}(hn:ns.Nodup)(h:ns[k]?=some t):ixN ns t=k:=
 (List.getElem?_inj (gD (y_ h)) hn).1 ((bS (y_ h)).trans h.symm)
theorem cw {ns:Td}{t u:Tr}(ht:t∈ns)(hu:u∈ns)(h:ixN ns t=ixN ns u):t=u:=by
 have a:=bS ht
 rw[h,bS hu]at a
 injection a with a
 exact a.symm
theorem cx:∀{ns m:Td} {t:Tr},t∈ns->ixN (ns++m) t=ixN ns t
 |a::l,m,t,h=>by
  simp only[List.cons_append,ixN]
  split
  ·rfl
  ·rename_i e
   rcases AT.1 h with h|h
   ·exact absurd h.symm e
   ·rw[cx h]
theorem iK:∀{ns:Td} {t:Tr},t∉ns->ixN (ns++[t]) t=ns.length
 |[],t,_=>by simp[ixN]
 |a::l,t,h=>by
  simp only[List.cons_append,ixN]
  rw[if_neg (fun e=>h (by simp[e])),iK (fun e=>h (by simp[e])),List.length_cons]
structure NsOk (n:Nat) (ns:Td):Prop where
 z:ns[0]?=some (.lf false)
 o:ns[1]?=some (.lf true)
 nd:ns.Nodup
 ok:∀t,t∈ns->OkT n 0 t
 ch:∀v l h,.nd v l h∈ns->l∈ns/\h∈ns
theorem NsOk.lf {n:Nat}{ns:Td}(h:NsOk n ns)(b:Bool):.lf b∈ns/\ixN ns (.lf b)=if b then 1 else 0:=by
 cases b with
 |false=>exact⟨y_ h.z,A8 h.nd h.z⟩
 |true=>exact⟨y_ h.o,A8 h.nd h.o⟩
theorem NsOk.two {n:Nat}{ns:Td}(h:NsOk n ns){v:Nat}{l r:Tr}(hm:.nd v l r∈ns):2<=ixN ns (.nd v l r):=by
 have h1:=bS hm
 rcases Nat.lt_or_ge (ixN ns (.nd v l r)) 2 with hl|hl
 ·rcases(show ixN ns (.nd v l r)=0\/ixN ns (.nd v l r)=1 by omega)with e|e
  ·rw[e,h.z]at h1;cases h1
  ·rw[e,h.o]at h1;cases h1
 ·exact hl
theorem NsOk.new (n:Nat):NsOk n [.lf false,.lf true]:=
 ⟨rfl,rfl,by simp,fun t ht=>by
  simp only[AT,List.not_mem_nil,or_false]at ht
  rcases ht with rfl|rfl<;>trivial,fun v l h hm=>by simp at hm⟩
theorem NsOk.len {n:Nat}{ns:Td}(h:NsOk n ns):2<=ns.length:=by
 have:=(x_.1 h.o).1
 omega
theorem NsOk.add {n v:Nat}{ns:Td}{l r:Tr}(h:NsOk n ns)(hl:l∈ns)(hr:r∈ns)(hne:l≠r)(hv:v<n)(ol:OkT n (v+1) l)(or_:OkT n (v+1) r)(hn:.nd v l r∉ns):NsOk n (ns++[.nd v l r]):=by
 have h2:=h.len
 refine⟨by rw[g_ (by omega)];exact h.z,by rw[g_ (by omega)];exact h.o,?_,fun t ht=>?_,fun v' l' r' ht=>?_⟩
 ·rw[List.nodup_append]
  exact⟨h.nd,by simp,fun a ha b hb=>by rw[a_]at hb;subst hb;rintro rfl;exact hn ha⟩
 ·rcases f_.1 ht with ht|ht
  ·exact h.ok t ht
  ·rw[a_]at ht;subst ht;exact⟨Nat.zero_le _,hv,hne,ol,or_⟩
 ·rcases f_.1 ht with ht|ht
  ·obtain⟨a,b⟩:=h.ch v' l' r' ht
   exact⟨List.mem_append_left _ a,List.mem_append_left _ b⟩
  ·rw[a_]at ht
   injection ht with h1 h2 h3
   subst h2;subst h3
   exact⟨List.mem_append_left _ hl,List.mem_append_left _ hr⟩
theorem NsOk.subs {n:Nat}{ns:Td}(h:NsOk n ns):∀{t u:Tr},t∈ns->u∈aL t->u∈ns
 |.lf _,u,_,hu=>by simp[aL]at hu
 |.nd v l r,u,ht,hu=>by
  obtain⟨hl,hr⟩:=h.ch v l r ht
  simp only[aL,AT,f_]at hu
  rcases hu with rfl|hu|hu
  ·exact ht
  ·exact h.subs hl hu
  ·exact h.subs hr hu
def CntN (ns:Td)(N:Nat):Prop:=∃U:Td,U.length<=N/\∀t,t∈ns->t∈U
def FitN (ns:Td)(R:Tr)(B:Nat):Prop:=∀X:Td,X.Nodup->(∀t,t∈X->t∈ns\/t∈aL R)->X.length<=B
structure ExtN (ns ns':Td) (R:Tr):Prop where
 pre:∃m,ns'=ns++m
 new:∀t,t∈ns'->t∈ns\/t∈aL R
 mem:R∈ns'
theorem ExtN.sub {ns ns':Td}{R t:Tr}(h:ExtN ns ns' R)(ht:t∈ns):t∈ns'/\ixN ns' t=ixN ns t:=by
 obtain⟨m,rfl⟩:=h.pre
 exact⟨List.mem_append_left _ ht,cx ht⟩
theorem ExtN.refl {ns:Td}{R:Tr}(h:R∈ns):ExtN ns ns R:=⟨⟨[],by simp⟩,fun t ht=>.inl ht,h⟩
theorem FitN.of {ns:Td}{R:Tr}{N m B:Nat}(h:CntN ns N)(hR:SubN R m)(hB:N+m<=B):FitN ns R B:=fun X hX hs=>by
 obtain⟨U,h1,h2⟩:=h
 obtain⟨S,h3,h4⟩:=hR
 have:=ed (Y:=U++S) hX fun x hx=>by
  rw[f_]
  rcases hs x hx with h|h
  ·exact .inl (h2 x h)
  ·exact .inr (h4 x h)
 rw[p_]at this
 omega
theorem CntN.ext {ns ns':Td}{R:Tr}{N m:Nat}(h:CntN ns N)(hR:SubN R m)(he:ExtN ns ns' R):CntN ns' (N+m):=by
 obtain⟨U,h1,h2⟩:=h
 obtain⟨S,h3,h4⟩:=hR
 refine⟨U++S,by rw[p_];omega,fun t ht=>?_⟩
 rw[f_]
 rcases he.new t ht with h|h
 ·exact .inl (h2 t h)
 ·exact .inr (h4 t h)
theorem CntN.mono {ns:Td}{N N':Nat}(h:CntN ns N)(hN:N<=N'):CntN ns N':=by
 obtain⟨U,h1,h2⟩:=h
 exact⟨U,by omega,h2⟩
noncomputable def keyN (ns:Td)(v:Nat)(l h:Tr):K3:=((v:Int),(ixN ns l:Int),(ixN ns h:Int))
structure TabN (hs:K3->Nat) (ps:List Pl) (ns:Td):Prop where
 ok:TabOk hs ps
 fwd:∀(i:Nat) (key:K3) (x:Int),ps[i]?=some (.fl key x)->∃v l h,.nd v l h∈ns/\key=keyN ns v l h/\x=(ixN ns (.nd v l h):Int)
 bwd:∀v l h,.nd v l h∈ns->∃i:Nat,ps[i]?=some (.fl (keyN ns v l h) (ixN ns (.nd v l h):Int))
theorem td {n:Nat}{ns:Td}(h:NsOk n ns){v v':Nat}{l r l' r':Tr}(hl:l∈ns)(hr:r∈ns)(hl':l'∈ns)(hr':r'∈ns)(he:keyN ns v l r=keyN ns v' l' r'):v=v'/\l=l'/\r=r':=by
 unfold keyN at he
 injection he with h1 h2
 injection h2 with h2 h3
 exact⟨by omega,cw hl hl' (by omega),cw hr hr' (by omega)⟩
end Go.Proofs.YtohnaepcgnbaiaaGreatDoor
set_option maxRecDepth 100000
namespace Go.Proofs.YtohnaepcgnbaiaaGreatDoor
theorem qt (w:World):(callFunc 209 #[]).run Tryz.prog w=.ok (.value (.tuple #[])) w:=run_call_mark0 Tryz.func209 (by kernel_rfl) (by kernel_rfl) (by kernel_rfl) .disable (by kernel_rfl) w
theorem sW (w:World):(callFunc 211 #[]).run Tryz.prog w=.ok (.value (.tuple #[])) w:=run_call_mark0 Tryz.func211 (by kernel_rfl) (by kernel_rfl) (by kernel_rfl) .enable (by kernel_rfl) w
theorem yw (a:Addr)(w:World):(callFunc 212 #[.pointer (some a)]).run Tryz.prog w=.ok (.value (.tuple #[])) w:=run_call_marked Tryz.func212 (by kernel_rfl) (by kernel_rfl) (by kernel_rfl) .acquire (by kernel_rfl) a w
theorem uW (a:Addr)(w:World):(callFunc 214 #[.pointer (some a)]).run Tryz.prog w=.ok (.value (.tuple #[])) w:=run_call_marked Tryz.func214 (by kernel_rfl) (by kernel_rfl) (by kernel_rfl) .releaseMerge (by kernel_rfl) a w
theorem Ez (a:Addr)(x:Value)(u:FrameMode)(w:World)(hc:w.cell? a=some x)(hz:w.frozen? a=false) :
  CallsD Tryz.prog 202 #[.pointer (some a),.bool true] u w fun e u' w'=>u'=u/\(e=.returned (.tuple #[])/\w'=w.drew.setCell a (.int .u32 1)):=by
 have hc':w.drew.cell? a=some x:=by go_simp
 have hz':w.drew.frozen? a=false:=by go_simp
 have hst:=run_call_store (P:=Tryz.prog) Tryz.func207 (by kernel_rfl) (by kernel_rfl) (by kernel_rfl) (by kernel_rfl) (k:=.u32) (y:=1) hc' hz'
 go_enter_d Tryz.func202,Tryz.ntmps202
 go_wp2
 go_region_calls
 all_goals(go_end0;exact⟨rfl,rfl⟩)
theorem yu (a:Addr)(w:World)(hc:w.cell? a=some (.int .i32 1))(hz:w.frozen? a=false) :
  Calls Tryz.prog 206 #[.pointer (some a)] w fun e w'=>e=.returned (.tuple #[])/\w'=w.setCell a (.int .i32 0):=by
 have hd:=qt
 have he:=sW
 have hr:=uW
 have hadd:=run_call_add (P:=Tryz.prog) Tryz.func215 (by kernel_rfl) (by kernel_rfl) (by kernel_rfl) .i32 (by kernel_rfl) (y:=-1) (s:=0) hc hz (by simp[go_sem];rfl)
 have hcv:=run_convert_to_unsafe (P:=Tryz.prog) (src:=269) (dst:=273) Tryz.underlying269 Tryz.underlying273 (by kernel_rfl) hc
 go_enter Tryz.func206,Tryz.ntmps206
 go_wp2
 go_end0
 go_wp2
 all_goals(go_end0;exact⟨rfl,rfl⟩)
theorem AJ (a:Addr)(u:FrameMode)(w:World)(hc:w.cell? a=some (.int .i32 1))(hz:w.frozen? a=false) :
  CallsD Tryz.prog 201 #[.pointer (some a)] u w fun e u' w'=>u'=u/\(e=.returned (.tuple #[])/\w'=w.setCell a (.int .i32 0)):=by
 go_enter_d Tryz.func201,Tryz.ntmps201
 go_wp2_with (go_at_call 206;refine(yu a _ hc hz).mono ?_;rintro e w' ⟨rfl,rfl⟩)
 go_end0
 exact⟨rfl,rfl⟩
theorem EA (a:Addr)(w:World)(hc:w.cell? a=some (.int .i32 0))(hz:w.frozen? a=false) :
  Calls Tryz.prog 205 #[.pointer (some a)] w fun e w'=>e=.returned (.tuple #[])/\w'=w.setCell a (.int .i32 1):=by
 have hd:=qt
 have he:=sW
 have ha:=yw
 have hcas:=run_call_cas_hit (P:=Tryz.prog) Tryz.func210 (by kernel_rfl) (by kernel_rfl) (by kernel_rfl) .i32 (by kernel_rfl) (y:=1) hc hz
 have hc':(w.setCell a (.int .i32 1)).cell? a=some (.int .i32 1):=World.cell?_setCell_same w a _ hc
 have hcv:=run_convert_to_unsafe (P:=Tryz.prog) (src:=269) (dst:=273) Tryz.underlying269 Tryz.underlying273 (by kernel_rfl) hc'
 go_enter Tryz.func205,Tryz.ntmps205
 go_wp2
 refine bodyPost_ret (results_none rfl _ _ _) rfl ?_
 go_wp2
 all_goals(go_end0;exact⟨rfl,rfl⟩)
theorem Lu (a:Addr)(w:World)(hc:w.cell? a=some (.int .i32 0))(hz:w.frozen? a=false) :
  Calls Tryz.prog 200 #[.pointer (some a)] w fun e w'=>e=.returned (.tuple #[])/\w'=w.setCell a (.int .i32 1):=by
 go_enter Tryz.func200,Tryz.ntmps200
 go_wp2_with (go_at_call 205;refine(EA a _ hc hz).mono ?_;rintro e w' ⟨rfl,rfl⟩)
 go_end0
 exact⟨rfl,rfl⟩
theorem Lv (a:Addr)(n:Int)(w:World)(hc:w.cell? a=some (.int .u32 n)) :
  Calls Tryz.prog 189 #[.pointer (some a)] w fun e w'=>e=.returned (.bool (n != 0))/\w'=w:=by
 have hl:=run_call_load (P:=Tryz.prog) Tryz.func199 (by kernel_rfl) (by kernel_rfl) (by kernel_rfl) .u32 (by kernel_rfl) hc
 go_enter Tryz.func189,Tryz.ntmps189
 go_wp2
 go_ret
 exact⟨rfl,rfl⟩
theorem Lt (b off:Nat)(us:Th)(w:World)
  (h0:w.cell? ⟨b,off,none⟩=some (.int .u32 0)) (h1:w.cell? ⟨b,off+1,none⟩=some (.int .i32 0)) (f1:w.frozen? ⟨b,off+1,none⟩=false) (Post:World->Prop)
  (hf:Calls Tryz.prog 174 us (w.setCell ⟨b,off+1,none⟩ (.int .i32 1)) fun e w'=>e=.returned (.tuple #[])/\Post w'/\w'.cell? ⟨b,off,none⟩=some (.int .u32 0)/\w'.frozen? ⟨b,off,none⟩=false/\w'.cell? ⟨b,off+1,none⟩=some (.int .i32 1)/\w'.frozen? ⟨b,off+1,none⟩=false) :
  Calls Tryz.prog 190 #[.pointer (some ⟨b,off,none⟩),.func (.func 174) #[] us] w fun e w'=>e=.returned (.tuple #[]) /\
   ∃w1,Post w1/\w'=(w1.drew.setCell ⟨b,off,none⟩ (.int .u32 1)).setCell ⟨b,off+1,none⟩ (.int .i32 0):=by
 have h01:(w.setCell ⟨b,off+1,none⟩ (.int .i32 1)).cell? ⟨b,off,none⟩=some (.int .u32 0):=(World.cell?_setCell_other _ ⟨b,off+1,none⟩ ⟨b,off,none⟩ _ (by simp)).trans h0
 have hnot:∀(x:Bool) (w:World),(Op.unary .not (.bool x)).run Tryz.prog w=.ok (.bool (!x)) w:=fun _ _=>rfl
 go_enter_defers Tryz.func190,Tryz.ntmps190
 go_wp2_with (first|(go_at_call 200;refine(Lu ⟨b,off+1,none⟩ _ h1 f1).mono ?_;rintro e w' ⟨rfl,rfl⟩)|(go_at_call 189;refine(Lv ⟨b,off,none⟩ 0 _ h01).mono ?_;rintro e w' ⟨rfl,rfl⟩)|(go_at_call 174;refine hf.mono ?_;rintro e w1 ⟨rfl,hP,c0,z0,c1,z1⟩))
 show Leaves _ _ _ _ _ _ _
 refine leaves_cons (f:=202) (args:=#[.pointer (some ⟨b,off,none⟩),.bool true]) (by simp) (by simp[go_sem]) ?_
 refine(Ez ⟨b,off,none⟩ (.int .u32 0) .returning _ c0 z0).mono ?_
 rintro e u' w'' ⟨rfl,rfl,rfl⟩
 refine leaves_cons (f:=201) (args:=#[.pointer (some ⟨b,off+1,none⟩)]) (by simp[settle]) (by simp[go_sem]) ?_
 refine(AJ ⟨b,off+1,none⟩ _ _ ?_ (by simp[z1])).mono ?_
 ·refine(World.cell?_setCell_other _ ⟨b,off,none⟩ ⟨b,off+1,none⟩ _ (by simp)).trans ?_
  rw[World.cell?_drew]
  exact c1
 rintro e u' w'' ⟨rfl,rfl,rfl⟩
 simp[Leaves,settle,results,Tryz.results190]
 exact⟨w1,hP,rfl⟩
def en (g:Tf):TW->(Tg)->Nat
 |[],x=>if g x=true then 1 else 0
 |v::vs,x=>en g vs (da x v false)+en g vs (da x v true)
theorem yQ {g:Tf}{a b:TW}(h:a.Perm b):∀(x:Tg),a.Nodup->en g a x=en g b x:=by
 induction h with
 |nil=>intro x _;rfl
 |cons v h ih=>
  intro x hn
  rw[List.nodup_cons]at hn
  simp only[en]
  rw[ih _ hn.2,ih _ hn.2]
 |swap v w l=>
  intro x hn
  simp only[List.nodup_cons,AT,not_or]at hn
  have hne:w≠v:=hn.1.1
  simp only[en]
  rw[iC (b:=false) (c:=false) hne,iC (b:=false) (c:=true) hne,iC (b:=true) (c:=false) hne,iC (b:=true) (c:=true) hne]
  omega
 |trans h1 h2 ih1 ih2=>
  intro x hn
  rw[ih1 x hn,ih2 x (h1.nodup_iff.1 hn)]
def cV:TW->Nat->(Tg)->(Tg)
 |[],_,x=>x
 |v::vs,m,x=>cV vs (m / 2) (da x v (m % 2 == 1))
theorem cntV_asg {g:Tf}:∀{vs:TW} {x:Tg},en g vs x=((List.range (2 ^ vs.length)).filter fun m=>g (cV vs m x)).length
 |[],x=>by
  simp only[en,List.length_nil,Nat.pow_zero,cV]
  cases h:g x<;>simp[List.range_succ,h]
 |v::vs,x=>by
  have split:∀n,((List.range (2 * n)).filter fun m=>g (cV (v::vs) m x)).length=((List.range n).filter fun m=>g (cV vs m (da x v false))).length+((List.range n).filter fun m=>g (cV vs m (da x v true))).length:=by
   intro n
   induction n with
   |zero=>rfl
   |succ n ih=>
    have e:2 * (n+1)=2 * n+1+1:=by omega
    have h0:cV (v::vs) (2 * n) x=cV vs n (da x v false):=by
     simp only[cV]
     rw[show 2 * n / 2=n by omega,show 2 * n % 2=0 by omega]
     rfl
    have h1:cV (v::vs) (2 * n+1) x=cV vs n (da x v true):=by
     simp only[cV]
     rw[show (2 * n+1) / 2=n by omega,show (2 * n+1) % 2=1 by omega]
     rfl
    rw[e,List.range_succ,List.range_succ,List.filter_append,List.filter_append,List.range_succ,List.filter_append,List.filter_append,p_,p_,p_,p_,ih]
    simp only[List.filter_cons,List.filter_nil,h0,h1]
    split<;>split<;>simp_all<;>omega
  rw[List.length_cons,Nat.pow_succ,Nat.mul_comm,split,<- cntV_asg,<- cntV_asg]
  rfl
def dm (pos:Nat->Nat)(W:Nat):Tr->Nat
 |.lf _=>W
 |.nd v _ _=>pos v
def dG (pos:Nat->Nat)(W:Nat):Tr->Nat
 |.lf b=>if b=true then 1 else 0
 |.nd v l h=>dG pos W l * 2 ^ (dm pos W l - (pos v+1))+dG pos W h * 2 ^ (dm pos W h - (pos v+1))
def InV (S:TW):Tr->Prop
 |.lf _=>True
 |.nd v l h=>v∈S/\InV S l/\InV S h
theorem oQ {g:Tf}{b:Bool}:∀{vs:TW} {x:Tg},(∀x,g x=b)->en g vs x=if b=true then 2 ^ vs.length else 0
 |[],x,h=>by simp only[en,h];cases b<;>rfl
 |v::vs,x,h=>by
  simp only[en]
  rw[oQ h,oQ h]
  cases b
  ·rfl
  ·simp only[if_true,List.length_cons,Nat.pow_succ];omega
def Fe (S:TW):Prop:=S.Pairwise (·<·)
theorem rC {n:Nat}{pos:Nat->Nat}{W:Nat}:∀(S:TW) {p m:Nat} {t:Tr} {x:Tg},OkT n m t->Fe S->(∀i v,S[i]?=some v->pos v=p+i)->p+S.length=W->InV S t->en (evT t) S x=dG pos W t * 2 ^ (dm pos W t - p)
 |[],p,m,.lf b,x,_,_,_,hW,_=>by
  simp only[en,evT,dG,dm]
  have:W - p=0:=by simp only[List.length_nil]at hW;omega
  rw[this]
  cases b<;>rfl
 |[],p,m,.nd v l h,x,_,_,_,_,hI=>by simp[InV]at hI
 |s::S,p,m,.lf b,x,_,_,_,hW,_=>by
  rw[oQ (g:=evT (.lf b)) (b:=b) (fun x=>rfl)]
  simp only[dG,dm]
  have:W - p=(s::S).length:=by omega
  rw[this]
  cases b<;>simp
 |s::S,p,m,.nd v l h,x,hO,hS,hp,hW,hI=>by
  have hp0:=hp 0 s rfl
  have hp':∀i v,S[i]?=some v->pos v=(p+1)+i:=fun i v hv=>by
   have:=hp (i+1) v (by simpa using hv)
   omega
  have hW':(p+1)+S.length=W:=by simp only[List.length_cons]at hW;omega
  have hS':Fe S/\∀w,w∈S->s<w:=by
   unfold Fe at hS ⊢
   rw[List.pairwise_cons]at hS
   exact⟨hS.2,hS.1⟩
  have later:∀{t:Tr} {k:Nat},OkT n k t->s<k->InV (s::S) t->InV S t:=by
   intro t
   induction t with
   |lf b=>intro k _ _ _;trivial
   |nd w l h il ih=>
    intro k ⟨h1,h2,h3,h4,h5⟩ hk ⟨i1,i2,i3⟩
    refine⟨?_,il h4 (by omega) i2,ih h5 (by omega) i3⟩
    rcases AT.1 i1 with e|e
    ·omega
    ·exact e
  obtain⟨o1,o2,o3,o4,o5⟩:=hO
  obtain⟨i1,i2,i3⟩:=hI
  rcases AT.1 i1 with e|e
  ·subst e
   have a:=rC (t:=l) (x:=da x v false) S o4 hS'.1 hp' hW' (later o4 (by omega) i2)
   have b:=rC (t:=h) (x:=da x v true) S o5 hS'.1 hp' hW' (later o5 (by omega) i3)
   have ea:en (evT (.nd v l h)) S (da x v false)=en (evT l) S (da x v false):=cntV_congr fun y hy=>by
    simp only[evT]
    rw[hy v (fun h=>absurd (hS'.2 v h) (by omega)),bL]
    simp
   have eb:en (evT (.nd v l h)) S (da x v true)=en (evT h) S (da x v true):=cntV_congr fun y hy=>by
    simp only[evT]
    rw[hy v (fun h=>absurd (hS'.2 v h) (by omega)),bL]
    simp
   simp only[en]
   rw[ea,eb,a,b]
   simp only[dG,dm]
   have:pos v - p=0:=by omega
   rw[this,Nat.pow_zero,Nat.mul_one]
   have e2:pos v+1=p+1:=by omega
   rw[e2]
  ·have hI':InV S (.nd v l h):=⟨e,later o4 (by have:=hS'.2 v e;omega) i2,later o5 (by have:=hS'.2 v e;omega) i3⟩
   have a:=fun x=>rC (t:=.nd v l h) (x:=x) S ⟨o1,o2,o3,o4,o5⟩ hS'.1 hp' hW' hI'
   simp only[en]
   rw[a,a]
   have hlev:p+1<=dm pos W (.nd v l h):=by
    obtain⟨i,hi⟩:=d_.1 e
    have:=hp' i v hi
    simp only[dm];omega
   have:dm pos W (.nd v l h) - p=(dm pos W (.nd v l h) - (p+1))+1:=by omega
   rw[this,Nat.pow_succ,<- Nat.mul_assoc]
   omega
where
 cntV_congr {g g':Tf}:∀{S:TW} {x:Tg},(∀y,(∀v,v∉S->y v=x v)->g y=g' y)->en g S x=en g' S x
  |[],x,h=>by simp only[en];rw[h x fun _ _=>rfl]
  |s::S,x,h=>by
   simp only[en]
   have k:∀b,en g S (da x s b)=en g' S (da x s b):=fun b=>cntV_congr fun y hy=>h y fun v hv=>by
    rw[AT,not_or]at hv
    rw[hy v hv.2,cN hv.1]
   rw[k,k]
def cB:Tr->TZ->TX
 |.lf b,w=>if b=true then [w] else []
 |.nd v l h,w=>cB l (w.set v 0)++cB h (w.set v 1)
def AgrW (w:TZ)(x:Tg):Prop:=∀(v:Nat) (c:Int),w[v]?=some c->(c=0->x v=false)/\(c=1->x v=true)
theorem AgrW.set {w:TZ}{x:Tg}{v:Nat}{b:Bool}(hv:v<w.length)(h2:w[v]?=some 2):AgrW (w.set v (if b then 1 else 0)) x↔AgrW w x/\x v=b:=by
 constructor
 ·intro h
  refine⟨fun u c hu=>?_,?_⟩
  ·by_cases e:u=v
   ·subst e;rw[h2]at hu;injection hu with hu;subst hu;exact⟨fun h=>(by cases h),fun h=>(by cases h)⟩
   ·exact h u c (by rw[i_ (Ne.symm e)];exact hu)
  ·have:=h v _ (e_ hv)
   cases b
   ·exact this.1 rfl
   ·exact this.2 rfl
 ·rintro⟨h,hb⟩ u c hu
  by_cases e:u=v
  ·subst e
   rw[e_ hv]at hu
   injection hu with hu
   subst hu
   cases b
   ·exact⟨fun _=>hb,fun h=>(by cases h)⟩
   ·exact⟨fun h=>(by cases h),fun _=>hb⟩
  ·rw[i_ (Ne.symm e)]at hu
   exact h u c hu
def OpenW (m:Nat)(w:TZ):Prop:=∀v,m<=v->v<w.length->w[v]?=some 2
theorem OpenW.set {m v:Nat}{w:TZ}{c:Int}(h:OpenW m w)(hv:m<=v):OpenW (v+1) (w.set v c):=fun u hu hl=>by
 rw[List.length_set]at hl
 rw[i_ (by omega)]
 exact h u (by omega) hl
theorem ku {n:Nat}:∀{t:Tr} {m:Nat} {w:TZ} {x:Tg},OkT n m t->w.length=n->OpenW m w->((∃c,c∈cB t w/\AgrW c x)↔AgrW w x/\evT t x=true)
 |.lf b,m,w,x,_,hw,ho=>by
  simp only[cB,evT]
  cases b
  ·simp
  ·simp
 |.nd v l h,m,w,x,⟨h1,h2,h3,h4,h5⟩,hw,ho=>by
  have hv2:=ho v h1 (by omega)
  have a:=ku (x:=x) (w:=w.set v 0) h4 (by rw[List.length_set];exact hw) (ho.set h1)
  have b:=ku (x:=x) (w:=w.set v 1) h5 (by rw[List.length_set];exact hw) (ho.set h1)
  have sa:=AgrW.set (x:=x) (b:=false) (by omega) hv2
  have sb:=AgrW.set (x:=x) (b:=true) (by omega) hv2
  simp only[Bool.false_eq_true,if_false,if_true]at sa sb
  rw[sa]at a
  rw[sb]at b
  simp only[cB,evT]
  constructor
  ·rintro⟨c,hc,hx⟩
   rcases f_.1 hc with hc|hc
   ·obtain⟨⟨k1,k2⟩,k3⟩:=a.1 ⟨c,hc,hx⟩
    exact⟨k1,by rw[k2];simpa using k3⟩
   ·obtain⟨⟨k1,k2⟩,k3⟩:=b.1 ⟨c,hc,hx⟩
    exact⟨k1,by rw[k2];simpa using k3⟩
  ·rintro⟨k1,k2⟩
   by_cases e:x v=true
   ·rw[if_pos e]at k2
    obtain⟨c,hc,hx⟩:=b.2 ⟨⟨k1,e⟩,k2⟩
    exact⟨c,List.mem_append_right _ hc,hx⟩
   ·rw[if_neg e]at k2
    obtain⟨c,hc,hx⟩:=a.2 ⟨⟨k1,by simpa using e⟩,k2⟩
    exact⟨c,List.mem_append_left _ hc,hx⟩
theorem oP {n:Nat}{t:Tr}{m:Nat}{w:TZ}{c:TZ}(ho:OkT n m t)(hw:w.length=n)(hp:OpenW m w)(hc:c∈cB t w){x:Tg}(hx:AgrW c x):AgrW w x/\evT t x=true:=(ku ho hw hp).1 ⟨c,hc,hx⟩
theorem ju {n:Nat}:∀{t:Tr} {m:Nat} {w:TZ},OkT n m t->w.length=n->OpenW m w->(cB t w).Pairwise fun c d=>∀x,AgrW c x->AgrW d x->False
 |.lf b,m,w,_,_,_=>by
  simp only[cB]
  cases b<;>simp
 |.nd v l h,m,w,⟨h1,h2,h3,h4,h5⟩,hw,ho=>by
  have hv2:=ho v h1 (by omega)
  have sa:=fun x=>AgrW.set (x:=x) (b:=false) (show v<w.length by omega) hv2
  have sb:=fun x=>AgrW.set (x:=x) (b:=true) (show v<w.length by omega) hv2
  simp only[Bool.false_eq_true,if_false,if_true]at sa sb
  simp only[cB]
  rw[List.pairwise_append]
  refine⟨ju h4 (by rw[List.length_set];exact hw) (ho.set h1),ju h5 (by rw[List.length_set];exact hw) (ho.set h1),fun c hc d hd x hx hy=>?_⟩
  have k1:=((sa x).1 (oP h4 (by rw[List.length_set];exact hw) (ho.set h1) hc hx).1).2
  have k2:=((sb x).1 (oP h5 (by rw[List.length_set];exact hw) (ho.set h1) hd hy).1).2
  rw[k1]at k2;cases k2
theorem kv {n:Nat}:∀{t:Tr} {m:Nat} {w c:TZ},OkT n m t->w.length=n->c∈cB t w->c.length=n
 |.lf b,m,w,c,_,hw,hc=>by
  simp only[cB]at hc
  cases b
  ·simp at hc
  ·simp at hc;subst hc;exact hw
 |.nd v l h,m,w,c,⟨h1,h2,h3,h4,h5⟩,hw,hc=>by
  simp only[cB]at hc
  rcases f_.1 hc with hc|hc
  ·exact kv h4 (by rw[List.length_set];exact hw) hc
  ·exact kv h5 (by rw[List.length_set];exact hw) hc
theorem ko {S:TW}:∀{t:Tr} {w c:TZ},InV S t->c∈cB t w->∀v:Nat,v∉S->c[v]?=w[v]?
 |.lf b,w,c,_,hc,v,_=>by
  simp only[cB]at hc
  cases b
  ·simp at hc
  ·simp at hc;subst hc;rfl
 |.nd u l h,w,c,⟨i1,i2,i3⟩,hc,v,hv=>by
  have hne:u≠v:=by rintro rfl;exact hv i1
  simp only[cB]at hc
  rcases f_.1 hc with hc|hc
  ·rw[ko i2 hc v hv,i_ hne]
  ·rw[ko i3 hc v hv,i_ hne]
def bI (c:TZ)(i:Nat)(v:Nat)(all:TW):TW:=all.flatMap fun m=>(if (c[v]?).getD 0≠1 then [m] else [])++(if (c[v]?).getD 0≠0 then [m+2 ^ i] else [])
def iq (c:TZ):Nat->TW->TW->TW
 |_,[],all=>all
 |i,v::vs,all=>iq c (i+1) vs (bI c i v all)
theorem oN {c:TZ}:∀{vs:TW} {i:Nat} {all:TW} {m:Nat},m∈iq c i vs all↔∃a k,a∈all/\m=a+2 ^ i * k/\k<2 ^ vs.length/\∀(j:Nat) (v:Nat),vs[j]?=some v->((c[v]?).getD 0=0->k.testBit j=false)/\((c[v]?).getD 0=1->k.testBit j=true)
 |[],i,all,m=>by
  simp only[iq]
  constructor
  ·intro h;exact⟨m,0,h,by simp,by simp,fun j v hv=>by simp at hv⟩
  ·rintro⟨a,k,h1,h2,h3,_⟩
   simp at h3
   subst h3
   simp at h2
   subst h2
   exact h1
 |v::vs,i,all,m=>by
  simp only[iq]
  rw[oN]
  constructor
  ·rintro⟨a,k,h1,h2,h3,h4⟩
   simp only[bI,List.mem_flatMap,f_]at h1
   obtain⟨b,hb,h1⟩:=h1
   have bit:∀(d:Nat),d<2->(∀(j u:Nat),(v::vs)[j+1]?=some u->((c[u]?).getD 0=0->(2 * k+d).testBit (j+1)=false)/\((c[u]?).getD 0=1->(2 * k+d).testBit (j+1)=true)):=fun d hd j u hu=>by
    have e:(2 * k+d).testBit (j+1)=k.testBit j:=by rw[Nat.testBit_succ,show (2 * k+d) / 2=k by omega]
    rw[e]
    exact h4 j u (by simpa using hu)
   have lt:∀d,d<2->2 * k+d<2 ^ (v::vs).length:=fun d hd=>by rw[List.length_cons,Nat.pow_succ];omega
   have pw:2 ^ (i+1) * k=2 ^ i * (2 * k):=by rw[Nat.pow_succ,Nat.mul_assoc]
   rcases h1 with h1|h1
   ·split at h1
    ·rename_i hc
     rw[a_]at h1
     subst h1
     refine⟨a,2 * k,hb,by rw[h2,pw],lt 0 (by omega),fun j u hu=>?_⟩
     cases j with
     |zero=>
      simp only[List.getElem?_cons_zero,Option.some.injEq]at hu
      subst hu
      have e:(2 * k).testBit 0=false:=by rw[Nat.testBit_zero];simp
      exact⟨fun _=>e,fun h=>absurd h hc⟩
     |succ j=>exact bit 0 (by omega) j u hu
    ·simp at h1
   ·split at h1
    ·rename_i hc
     rw[a_]at h1
     subst h1
     refine⟨b,2 * k+1,hb,by rw[h2,pw,Nat.mul_add];omega,lt 1 (by omega),fun j u hu=>?_⟩
     cases j with
     |zero=>
      simp only[List.getElem?_cons_zero,Option.some.injEq]at hu
      subst hu
      have e:(2 * k+1).testBit 0=true:=by rw[Nat.testBit_zero];simp
      exact⟨fun h=>absurd h hc,fun _=>e⟩
     |succ j=>exact bit 1 (by omega) j u hu
    ·simp at h1
  ·rintro⟨a,k,h1,h2,h3,h4⟩
   have h0:=h4 0 v rfl
   have hk:k=2 * (k / 2)+k % 2:=by omega
   have hlt:k / 2<2 ^ vs.length:=by rw[List.length_cons,Nat.pow_succ]at h3;omega
   have pw:2 ^ (i+1) * (k / 2)=2 ^ i * (2 * (k / 2)):=by rw[Nat.pow_succ,Nat.mul_assoc]
   have rest:∀(j u:Nat),vs[j]?=some u->((c[u]?).getD 0=0->(k / 2).testBit j=false)/\((c[u]?).getD 0=1->(k / 2).testBit j=true):=fun j u hu=>by
    rw[<- Nat.testBit_succ]
    exact h4 (j+1) u (by simpa using hu)
   rw[Nat.testBit_zero]at h0
   rcases Nat.mod_two_eq_zero_or_one k with e|e
   ·refine⟨a,k / 2,?_,by rw[h2,pw];congr 2;omega,hlt,rest⟩
    simp only[bI,List.mem_flatMap,f_]
    refine⟨a,h1,.inl ?_⟩
    rw[if_pos (fun h=>by have:=h0.2 h;simp[e]at this)]
    simp
   ·refine⟨a+2 ^ i,k / 2,?_,?_,hlt,rest⟩
    ·simp only[bI,List.mem_flatMap,f_]
     refine⟨a,h1,.inr ?_⟩
     rw[if_pos (fun h=>by have:=h0.1 h;simp[e]at this)]
     simp
    ·rw[h2,pw]
     have:k=2 * (k / 2)+1:=by omega
     rw[show 2 ^ i * k=2 ^ i * (2 * (k / 2)+1) from congrArg (2 ^ i * ·) this,Nat.mul_add]
     omega
theorem mO:∀{vs:TW} {m j v:Nat} {x:Tg},vs.Nodup->vs[j]?=some v->cV vs m x v=m.testBit j
 |[],m,j,v,x,_,h=>by simp at h
 |u::vs,m,0,v,x,hn,h=>by
  simp only[List.getElem?_cons_zero,Option.some.injEq]at h
  subst h
  rw[List.nodup_cons]at hn
  simp only[cV]
  rw[asgV_off hn.1,bL,Nat.testBit_zero]
  rcases Nat.mod_two_eq_zero_or_one m with e|e<;>simp[e]
 |u::vs,m,j+1,v,x,hn,h=>by
  rw[List.nodup_cons]at hn
  simp only[cV]
  rw[mO hn.2 (by simpa using h),Nat.testBit_succ]
where
 asgV_off:∀{vs:TW} {m v:Nat} {x:Tg},v∉vs->cV vs m x v=x v
  |[],_,_,_,_=>rfl
  |u::vs,m,v,x,h=>by
   rw[AT,not_or]at h
   simp only[cV]
   rw[asgV_off h.2,cN h.1]
def jL (t:Tr)(w:TZ)(vs:TW):TW:=(cB t w).flatMap fun c=>iq c 0 vs [0]
theorem sT {n:Nat}{t:Tr}{vs:TW}(ho:OkT n 0 t)(hv:InV vs t)(hn:vs.Nodup)(hlt:∀v,v∈vs->v<n){m:Nat} :
  m∈jL t (List.replicate n 2) vs↔m<2 ^ vs.length/\evT t (cV vs m fun _=>false)=true:=by
 have hw:(List.replicate n (2:Int)).length=n:=List.length_replicate
 have hop:OpenW 0 (List.replicate n (2:Int)):=fun v _ hl=>by
  rw[List.length_replicate]at hl
  rw[List.getElem?_replicate,if_pos hl]
 have agr:∀x,AgrW (List.replicate n (2:Int)) x:=fun x v c hc=>by
  rw[List.getElem?_replicate]at hc
  split at hc
  ·injection hc with hc;subst hc;exact⟨fun h=>(by cases h),fun h=>(by cases h)⟩
  ·cases hc
 have one:∀c,c∈cB t (List.replicate n 2)->(m∈iq c 0 vs [0]↔m<2 ^ vs.length/\AgrW c (cV vs m fun _=>false)):=fun c hc=>by
  have hcl:=kv ho hw hc
  rw[oN]
  constructor
  ·rintro⟨a,k,h1,h2,h3,h4⟩
   rw[a_]at h1
   subst h1
   have:m=k:=by rw[h2];simp
   subst this
   refine⟨h3,fun v c' hc'=>?_⟩
   by_cases hv':v∈vs
   ·obtain⟨j,hj⟩:=d_.1 hv'
    rw[mO hn hj]
    have:=h4 j v hj
    rw[hc']at this
    exact this
   ·have:=ko hv hc v hv'
    rw[hc',List.getElem?_replicate]at this
    split at this
    ·injection this with this;subst this;exact⟨fun h=>(by cases h),fun h=>(by cases h)⟩
    ·cases this
  ·rintro⟨h1,h2⟩
   refine⟨0,m,by simp,by simp,h1,fun j v hj=>?_⟩
   have hvn:=hlt v (y_ hj)
   have hg:c[v]?=some c[v]:=m_ (by omega)
   have:=h2 v _ hg
   rw[mO hn hj]at this
   rw[hg]
   exact this
 unfold jL
 rw[List.mem_flatMap]
 constructor
 ·rintro⟨c,hc,hm⟩
  obtain⟨h1,h2⟩:=(one c hc).1 hm
  exact⟨h1,(oP ho hw hop hc h2).2⟩
 ·rintro⟨h1,h2⟩
  obtain⟨c,hc,hx⟩:=(ku ho hw hop).2 ⟨agr _,h2⟩
  exact⟨c,hc,(one c hc).2 ⟨h1,hx⟩⟩
theorem gC {α β:Type}{f:α->List β}:∀{l:List α},(∀a,a∈l->(f a).Nodup)->(l.Pairwise fun a b=>∀x,x∈f a->x∈f b->False)->(l.flatMap f).Nodup
 |[],_,_=>by simp
 |a::l,h1,h2=>by
  rw[List.pairwise_cons]at h2
  rw[List.flatMap_cons,List.nodup_append]
  refine⟨h1 a (by simp),gC (fun b hb=>h1 b (by simp[hb])) h2.2,fun x hx y hy e=>?_⟩
  subst e
  obtain⟨b,hb,hy⟩:=List.mem_flatMap.1 hy
  exact h2.1 b hb x hx hy
theorem sf {c:TZ}{i v:Nat}{all:TW}(hn:all.Nodup)(hl:∀a,a∈all->a<2 ^ i):(bI c i v all).Nodup/\∀a,a∈bI c i v all->a<2 ^ (i+1):=by
 constructor
 ·unfold bI
  refine gC (fun a ha=>?_) ?_
  ·have hp:0<2 ^ i:=Nat.two_pow_pos i
   split<;>split<;>simp
  ·refine hn.imp_of_mem fun {a b} ha hb hne=>?_
   have h1:=hl a ha
   have h2:=hl b hb
   intro x hx hy
   rw[f_]at hx hy
   have fx:x=a\/x=a+2 ^ i:=by
    rcases hx with hx|hx
    ·split at hx
     ·exact .inl (a_.1 hx)
     ·simp at hx
    ·split at hx
     ·exact .inr (a_.1 hx)
     ·simp at hx
   have fy:x=b\/x=b+2 ^ i:=by
    rcases hy with hy|hy
    ·split at hy
     ·exact .inl (a_.1 hy)
     ·simp at hy
    ·split at hy
     ·exact .inr (a_.1 hy)
     ·simp at hy
   omega
 ·intro x hx
  simp only[bI,List.mem_flatMap,f_]at hx
  obtain⟨a,ha,hx⟩:=hx
  have h1:=hl a ha
  rw[Nat.pow_succ]
  rcases hx with hx|hx
  ·split at hx
   ·rw[a_]at hx;omega
   ·simp at hx
  ·split at hx
   ·rw[a_]at hx;omega
   ·simp at hx
theorem oM {c:TZ}:∀{vs:TW} {i:Nat} {all:TW},all.Nodup->(∀a,a∈all->a<2 ^ i)->(iq c i vs all).Nodup
 |[],i,all,hn,_=>hn
 |v::vs,i,all,hn,hl=>by
  obtain⟨h1,h2⟩:=sf (c:=c) (v:=v) hn hl
  exact oM (vs:=vs) h1 h2
theorem nU {n:Nat}{t:Tr}{vs:TW}(ho:OkT n 0 t)(hv:InV vs t)(hn:vs.Nodup)(hlt:∀v,v∈vs->v<n):(jL t (List.replicate n 2) vs).Nodup:=by
 have hw:(List.replicate n (2:Int)).length=n:=List.length_replicate
 have hop:OpenW 0 (List.replicate n (2:Int)):=fun v _ hl=>by
  rw[List.length_replicate]at hl
  rw[List.getElem?_replicate,if_pos hl]
 unfold jL
 refine gC (fun c _=>oM (by simp) (by simp)) ?_
 refine(ju ho hw hop).imp_of_mem fun {c d} hc hd hap=>?_
 intro m hm1 hm2
 have one:∀c,c∈cB t (List.replicate n 2)->m∈iq c 0 vs [0]->AgrW c (cV vs m fun _=>false):=fun c hc hm=>by
  rw[oN]at hm
  obtain⟨a,k,h1,h2,h3,h4⟩:=hm
  rw[a_]at h1
  subst h1
  have:m=k:=by rw[h2];simp
  subst this
  intro v c' hc'
  by_cases hv':v∈vs
  ·obtain⟨j,hj⟩:=d_.1 hv'
   rw[mO hn hj]
   have:=h4 j v hj
   rw[hc']at this
   exact this
  ·have:=ko hv hc v hv'
   rw[hc',List.getElem?_replicate]at this
   split at this
   ·injection this with this;subst this;exact⟨fun h=>(by cases h),fun h=>(by cases h)⟩
   ·cases this
 exact hap _ (one c hc hm1) (one d hd hm2)
def dC (t:Tr)(vs:TW):TW:=(List.range (2 ^ vs.length)).filter fun m=>evT t (cV vs m fun _=>false)
theorem sD:∀{a b:TW},a.Pairwise (·<·)->b.Pairwise (·<·)->(∀x,x∈a↔x∈b)->a=b
 |[],[],_,_,_=>rfl
 |[],y::b,_,_,h=>absurd ((h y).2 (by simp)) (by simp)
 |x::a,[],_,_,h=>absurd ((h x).1 (by simp)) (by simp)
 |x::a,y::b,ha,hb,h=>by
  rw[List.pairwise_cons]at ha hb
  have e:x=y:=by
   have h1:=(h x).1 (by simp)
   have h2:=(h y).2 (by simp)
   rcases AT.1 h1 with h1|h1
   ·exact h1
   ·rcases AT.1 h2 with h2|h2
    ·exact h2.symm
    ·have:=hb.1 x h1
     have:=ha.1 y h2
     omega
  subst e
  rw[sD ha.2 hb.2 fun z=>?_]
  have hz:=h z
  simp only[AT]at hz
  constructor
  ·intro hza
   rcases hz.1 (.inr hza)with e|e
   ·subst e;exact absurd (ha.1 z hza) (by omega)
   ·exact e
  ·intro hzb
   rcases hz.2 (.inr hzb)with e|e
   ·subst e;exact absurd (hb.1 z hzb) (by omega)
   ·exact e
theorem kX (t:Tr)(vs:TW):(dC t vs).Pairwise (·<·):=List.Pairwise.filter _ List.pairwise_lt_range
theorem fP {t:Tr}{vs:TW}{m:Nat}:m∈dC t vs↔m<2 ^ vs.length/\evT t (cV vs m fun _=>false)=true:=by
 unfold dC
 rw[List.mem_filter,List.mem_range]
theorem CM {n:Nat}{t:Tr}{vs:TW}(ho:OkT n 0 t)(hv:InV vs t)(hn:vs.Nodup)(hlt:∀v,v∈vs->v<n){l:TW}(hp:l.Perm (jL t (List.replicate n 2) vs))(hs:l.Pairwise (·<=·)):l=dC t vs:=by
 refine sD ?_ (kX t vs) fun x=>?_
 ·have hnd:l.Nodup:=hp.nodup_iff.2 (nU ho hv hn hlt)
  exact List.Pairwise.imp₂ (fun a b h1 h2=>by omega) hs hnd
 ·rw[hp.mem_iff,sT ho hv hn hlt,fP]
theorem AH {n:Nat}{t:Tr}{vs:TW}(ho:OkT n 0 t)(hv:InV vs t)(hn:vs.Nodup)(hlt:∀v,v∈vs->v<n):(jL t (List.replicate n 2) vs).length=(dC t vs).length:=
 ((List.perm_ext_iff_of_nodup (nU ho hv hn hlt) ((kX t vs).imp fun h=>Nat.ne_of_lt h)).2 fun x=>by rw[sT ho hv hn hlt,fP]).length_eq
theorem pP {c:TZ}{i v:Nat}{all:TW}(h:0<all.length):0<(bI c i v all).length:=by
 cases all with
 |nil=>simp at h
 |cons a all=>
  unfold bI
  rw[List.flatMap_cons,p_,p_]
  by_cases h1:(c[v]?).getD 0=1
  ·rw[if_neg (by simp[h1]),if_pos (by rw[h1];decide)]
   simp only[List.length_cons,List.length_nil];omega
  ·rw[if_pos h1]
   simp only[List.length_cons,List.length_nil];omega
theorem tv {c:TZ}:∀{vs:TW} {i:Nat} {all:TW},0<all.length->0<(iq c i vs all).length
 |[],_,_,h=>h
 |v::vs,i,all,h=>tv (vs:=vs) (pP h)
theorem E2 {t:Tr}{w:TZ}{vs:TW}:(cB t w).length<=(jL t w vs).length:=by
 unfold jL
 generalize cB t w=C
 induction C with
 |nil=>simp
 |cons c C ih=>
  rw[List.flatMap_cons,p_,List.length_cons]
  have:=tv (c:=c) (vs:=vs) (i:=0) (all:=[0]) (by simp)
  omega
theorem zG {t:Tr}{vs:TW}:(dC t vs).length=en (evT t) vs fun _=>false:=cntV_asg.symm
theorem Hb {n:Nat}{pos:Nat->Nat}{t:Tr}{vs S:TW}(ho:OkT n 0 t)(hv:InV S t)(hn:vs.Nodup)(hp:vs.Perm S)(hS:Fe S)(hpos:∀i v,S[i]?=some v->pos v=i):(dC t vs).length=dG pos vs.length t * 2 ^ dm pos vs.length t:=by
 rw[zG,yQ hp _ hn,rC (n:=n) (pos:=pos) (W:=vs.length) S (p:=0) ho hS (fun i v h=>by rw[hpos i v h];omega) (by rw[hp.length_eq];omega) hv,Nat.sub_zero]
theorem CO (t:Tr)(vs:TW):(dC t vs).length<=2 ^ vs.length:=by
 have:=List.length_filter_le (fun m=>evT t (cV vs m fun _=>false)) (List.range (2 ^ vs.length))
 rw[List.length_range]at this
 exact this
def bX:TW->(Tg)->Nat
 |[],_=>0
 |v::vs,x=>(x v).toNat+2 * bX vs x
theorem jO:∀(vs:TW) (x:Tg),bX vs x<2 ^ vs.length
 |[],_=>by simp[bX]
 |v::vs,x=>by
  have:=jO vs x
  have h2:(x v).toNat<=1:=Bool.toNat_le _
  simp only[bX,List.length_cons,Nat.pow_succ]
  omega
def iS (n:Nat):Nat->TW->List (Nat×Bool)
 |_,[]=>[]
 |i,v::vs=>(v,n.testBit i)::iS n (i+1) vs
def leG:List (Nat×Bool)->(Tf)->Tf
 |[],g=>g
 |(v,b)::l,g=>leG l fun x=>if b=true then x v && g x else x v || g x
theorem AV {n:Nat}:∀(vs:TW) (i low:Nat) (g:Tf) (x:Tg),low<2 ^ i->g x=decide (n % 2 ^ i<=low)->leG (iS n i vs) g x=decide (n % 2 ^ (i+vs.length)<=low+2 ^ i * bX vs x)
 |[],i,low,g,x,_,hg=>by
  simp only[iS,leG,bX,List.length_nil,Nat.add_zero,Nat.mul_zero]
  exact hg
 |v::vs,i,low,g,x,hl,hg=>by
  have hm:n % 2 ^ (i+1)=n % 2 ^ i+2 ^ i * (n.testBit i).toNat:=by
   rw[Nat.mod_pow_succ,Nat.testBit_eq_decide_div_mod_eq]
   rcases Nat.mod_two_eq_zero_or_one (n / 2 ^ i)with e|e<;>simp[e]
  have hlt:n % 2 ^ i<2 ^ i:=Nat.mod_lt _ (Nat.two_pow_pos i)
  have hstep:(if n.testBit i=true then x v && g x else x v || g x)=decide (n % 2 ^ (i+1)<=low+2 ^ i * (x v).toNat):=by
   rw[hm,hg]
   cases hb:n.testBit i<;>cases hx:x v<;>simp<;>omega
  have ih:=AV vs (i+1) (low+2 ^ i * (x v).toNat) (fun x=>if n.testBit i=true then x v && g x else x v || g x) x (by
   rw[Nat.pow_succ]
   have h2:(x v).toNat<=1:=Bool.toNat_le _
   have:2 ^ i * (x v).toNat<=2 ^ i * 1:=Nat.mul_le_mul_left _ h2
   omega) hstep
  simp only[iS,leG,bX,List.length_cons]
  rw[ih,show i+1+vs.length=i+(vs.length+1) by omega]
  congr 2
  rw[Nat.pow_succ,Nat.mul_add,<- Nat.mul_assoc]
  omega
theorem LA {n:Nat}{vs:TW}{x:Tg}(hn:n<2 ^ vs.length):leG (iS n 0 vs) (fun _=>true) x=decide (n<=bX vs x):=by
 rw[AV vs 0 0 _ x (by simp) (by simp[Nat.mod_one])]
 simp[Nat.mod_eq_of_lt hn]
def DepF (S:TW)(g:Tf):Prop:=∀x y,(∀v,v∈S->x v=y v)->g x=g y
theorem DepF.mono {S S':TW}{g:Tf}(h:DepF S g)(hs:∀v,v∈S->v∈S'):DepF S' g:=fun x y he=>h x y fun v hv=>he v (hs v hv)
theorem DepF.hang {n:Nat}{S:TW}{g:Tf}(h:DepF S g)(hs:∀v,v∈S->v<n):ep n g:=fun x y he=>h x y fun v hv=>he v (hs v hv)
theorem oD {n:Nat}{S:TW}:∀{t:Tr} {m:Nat},OkT n m t->DepF S (evT t)->InV S t
 |.lf _,_,_,_=>trivial
 |.nd v l h,m,⟨h1,h2,h3,h4,h5⟩,hd=>by
  have hl:DepF S (evT l):=fun x y he=>by
   rw[<- gF (h:=h) h4 x,<- gF (h:=h) h4 y]
   refine hd _ _ fun u hu=>?_
   by_cases e:u=v
   ·subst e;rw[bL,bL]
   ·rw[cN e,cN e];exact he u hu
  have hh:DepF S (evT h):=fun x y he=>by
   rw[<- gG (l:=l) h5 x,<- gG (l:=l) h5 y]
   refine hd _ _ fun u hu=>?_
   by_cases e:u=v
   ·subst e;rw[bL,bL]
   ·rw[cN e,cN e];exact he u hu
  refine⟨?_,oD h4 hl,oD h5 hh⟩
  by_cases e:v∈S
  ·exact e
  ·refine absurd (iu h4 h5 fun x=>?_) h3
   rw[<- gF (h:=h) h4 x,<- gG (l:=l) h5 x]
   refine hd _ _ fun u hu=>?_
   have hne:u≠v:=by rintro rfl;exact e hu
   rw[cN hne,cN hne]
theorem eH {n:Nat}{S:TW}{g:Tf}(hs:∀v,v∈S->v<n)(h:DepF S g):InV S (treeT n g):=by
 refine oD cQ fun x y he=>?_
 rw[bU (h.hang hs),bU (h.hang hs)]
 exact h x y he
theorem jB {n:Nat}{S:TW}:∀{t:Tr} {m:Nat},OkT n m t->InV S t->(aL t).length+1<=2 ^ (S.filter fun v=>decide (m<=v)).length
 |.lf _,m,_,_=>by simp only[aL,List.length_nil];exact Nat.one_le_two_pow
 |.nd v l h,m,⟨h1,h2,h3,h4,h5⟩,⟨i1,i2,i3⟩=>by
  have a:=jB h4 i2
  have b:=jB h5 i3
  have hc:(S.filter fun u=>decide (v+1<=u)).length+1<=(S.filter fun u=>decide (m<=u)).length:=by
   clear a b i2 i3
   induction S with
   |nil=>simp at i1
   |cons s S ih=>
    rw[List.filter_cons,List.filter_cons]
    by_cases e:s=v
    ·subst e
     rw[if_neg (by simp),if_pos (by simpa using h1),List.length_cons]
     have:(S.filter fun u=>decide (s+1<=u)).length<=(S.filter fun u=>decide (m<=u)).length:=by
      clear ih i1
      induction S with
      |nil=>simp
      |cons u S ih=>
       rw[List.filter_cons,List.filter_cons]
       by_cases hu:s+1<=u
       ·rw[if_pos (by simpa using hu),if_pos (by simp;omega),List.length_cons,List.length_cons];omega
       ·rw[if_neg (by simpa using hu)]
        split
        ·rw[List.length_cons];omega
        ·exact ih
     omega
    ·have i1':v∈S:=by
      rcases AT.1 i1 with h|h
      ·exact absurd h.symm e
      ·exact h
     have:=ih i1'
     by_cases hs:v+1<=s
     ·rw[if_pos (by simpa using hs),if_pos (by simp;omega),List.length_cons,List.length_cons];omega
     ·rw[if_neg (by simpa using hs)]
      split
      ·rw[List.length_cons];omega
      ·exact this
  simp only[aL,List.length_cons,p_]
  have h6:2 ^ ((S.filter fun u=>decide (v+1<=u)).length+1)<=2 ^ (S.filter fun u=>decide (m<=u)).length:=Nat.pow_le_pow_right (by omega) hc
  rw[Nat.pow_succ]at h6
  omega
theorem se {n:Nat}{S:TW}{t:Tr}{m k:Nat}(ho:OkT n m t)(hi:InV S t)(hk:S.length<=k):SubN t (2 ^ k - 1):=by
 refine(SubN.self t).mono ?_
 have h1:=jB ho hi
 have h2:(S.filter fun v=>decide (m<=v)).length<=S.length:=List.length_filter_le _ _
 have h3:2 ^ (S.filter fun v=>decide (m<=v)).length<=2 ^ k:=Nat.pow_le_pow_right (by omega) (by omega)
 omega
theorem di {n:Nat}{S:TW}{g:Tf}{k:Nat}(hs:∀v,v∈S->v<n)(h:DepF S g)(hk:S.length<=k):SubN (treeT n g) (2 ^ k - 1):=se cQ (eH hs h) hk
theorem ll {n:Nat}{f g h:Tf}(hf:ep n f)(hg:ep n g)(hh:ep n h):iteT n (treeT n f) (treeT n g) (treeT n h)=treeT n fun x=>if f x=true then g x else h x:=by
 refine(bY (m:=0) cQ fun x=>?_)
 have hang:ep n fun x=>if f x=true then g x else h x:=fun x y e=>by simp only;rw[hf x y e,hg x y e,hh x y e]
 rw[bU hang,bU hf,bU hg,bU hh]
theorem d9 {n:Nat}(b:Bool):treeT n (fun _=>b)=.lf b:=bY (m:=0) (t:=.lf b) trivial fun x=>rfl
theorem fT {n:Nat}{f g:Tf}(h:∀x,f x=g x):treeT n f=treeT n g:=by rw[funext h]
def cz:TW->Nat->TW
 |[],_=>[]
 |w::ws,n=>n % 2 ^ w::cz ws (n / 2 ^ w)
theorem tQ:∀{a b:TW} {n:Nat} {x:Tg},cV (a++b) n x=cV b (n / 2 ^ a.length) (cV a n x)
 |[],b,n,x=>by simp[cV]
 |v::a,b,n,x=>by
  simp only[List.cons_append,cV,List.length_cons]
  rw[tQ,Nat.div_div_eq_div_mul,Nat.pow_succ,Nat.mul_comm 2]
theorem iw:∀{vs:TW} {m v:Nat} {x:Tg},v∉vs->cV vs m x v=x v
 |[],_,_,_,_=>rfl
 |u::vs,m,v,x,h=>by
  rw[AT,not_or]at h
  simp only[cV]
  rw[iw h.2,cN h.1]
theorem cO:∀{vs:TW} {x y:Tg},(∀v,v∈vs->x v=y v)->bX vs x=bX vs y
 |[],_,_,_=>rfl
 |v::vs,x,y,h=>by
  simp only[bX]
  rw[h v (by simp),cO fun u hu=>h u (by simp[hu])]
theorem nV:∀{vs:TW} {n:Nat} {x:Tg},vs.Nodup->bX vs (cV vs n x)=n % 2 ^ vs.length
 |[],n,x,_=>by simp[bX,Nat.mod_one]
 |v::vs,n,x,hn=>by
  rw[List.nodup_cons]at hn
  simp only[bX,cV,List.length_cons]
  rw[nV hn.2,iw hn.1,bL,Nat.pow_succ,Nat.mul_comm (2 ^ vs.length) 2,Nat.mod_mul]
  rcases Nat.mod_two_eq_zero_or_one n with e|e<;>simp[e]
theorem Hc:∀{ds:TU} {n:Nat} {x:Tg},ds.flatten.Nodup->ds.map (fun a=>bX a (cV ds.flatten n x))=cz (ds.map (·.length)) n
 |[],_,_,_=>rfl
 |a::ds,n,x,hn=>by
  rw[List.flatten_cons,List.nodup_append]at hn
  obtain⟨h1,h2,h3⟩:=hn
  simp only[List.flatten_cons,List.map_cons,cz]
  rw[tQ]
  congr 1
  ·rw[cO (y:=cV a n x) fun v hv=>iw fun hv'=>h3 v hv v hv' rfl,nV h1]
  ·exact Hc h2
theorem pe:∀{vs:TW} {x y:Tg},vs.Nodup->∀v,v∈vs->cV vs (bX vs x) y v=x v
 |[],_,_,_,v,hv=>by simp at hv
 |u::vs,x,y,hn,v,hv=>by
  rw[List.nodup_cons]at hn
  simp only[bX,cV]
  have hb:(x u).toNat<=1:=Bool.toNat_le _
  have e1:((x u).toNat+2 * bX vs x) / 2=bX vs x:=by omega
  have e2:((x u).toNat+2 * bX vs x) % 2=(x u).toNat:=by omega
  rw[e1,e2]
  by_cases e:v=u
  ·subst e
   rw[iw hn.1,bL]
   cases x v<;>rfl
  ·rcases AT.1 hv with h|h
   ·exact absurd h e
   ·exact pe hn.2 v h
theorem nl:∀{ws:TW} {a b:Nat},a<2 ^ ws.sum->b<2 ^ ws.sum->cz ws a=cz ws b->a=b
 |[],a,b,ha,hb,_=>by simp at ha hb;omega
 |w::ws,a,b,ha,hb,h=>by
  simp only[cz,List.cons.injEq]at h
  simp only[List.sum_cons,Nat.pow_add]at ha hb
  have:=nl (ws:=ws) (a:=a / 2 ^ w) (b:=b / 2 ^ w) ((Nat.div_lt_iff_lt_mul (Nat.two_pow_pos w)).2 (by rw[Nat.mul_comm];exact ha)) ((Nat.div_lt_iff_lt_mul (Nat.two_pow_pos w)).2 (by rw[Nat.mul_comm];exact hb)) h.2
  rw[<- Nat.div_add_mod a (2 ^ w),<- Nat.div_add_mod b (2 ^ w),this,h.1]
theorem yL {ds:TU}:ds.flatten.length=(ds.map (·.length)).sum:=by
 induction ds with
 |nil=>rfl
 |cons a ds ih=>simp
theorem sj {n:Nat}{t:Tr}{ds:TU}(ho:OkT n 0 t)(hi:InV ds.flatten t)(hn:ds.flatten.Nodup){r:TW} :
  r∈(dC t ds.flatten).map (cz (ds.map (·.length)))↔∃x,evT t x=true/\r=ds.map fun a=>bX a x:=by
 have dep:∀{t:Tr},InV ds.flatten t->∀x y,(∀v,v∈ds.flatten->x v=y v)->evT t x=evT t y:=by
  intro t
  induction t with
  |lf b=>intro _ x y _;rfl
  |nd v l h il ih=>
   intro⟨h1,h2,h3⟩ x y he
   simp only[evT]
   rw[he v h1,il h2 x y he,ih h3 x y he]
 rw[A_]
 constructor
 ·rintro⟨m,hm,rfl⟩
  rw[fP]at hm
  exact⟨cV ds.flatten m fun _=>false,hm.2,(Hc hn).symm⟩
 ·rintro⟨x,hx,rfl⟩
  refine⟨bX ds.flatten x,?_,?_⟩
  ·rw[fP]
   refine⟨jO _ _,?_⟩
   rw[dep hi _ x fun v hv=>pe hn v hv]
   exact hx
  ·rw[<- Hc (x:=fun _=>false) hn]
   refine List.map_congr_left fun a ha=>cO fun v hv=>pe hn v ?_
   exact List.mem_flatten.2 ⟨a,ha,hv⟩
theorem yd {t:Tr}{ds:TU}:((dC t ds.flatten).map (cz (ds.map (·.length)))).Nodup:=by
 have h1:(dC t ds.flatten).Nodup:=(kX t _).imp fun h=>Nat.ne_of_lt h
 have h2:∀m,m∈dC t ds.flatten->m<2 ^ (ds.map (·.length)).sum:=fun m hm=>by
  rw[fP]at hm
  rw[<- yL];exact hm.1
 revert h1 h2
 generalize dC t ds.flatten=L
 intro h1 h2
 refine List.pairwise_map.2 ?_
 exact List.Pairwise.imp_of_mem (fun {a b} ha hb hne e=>hne (nl (h2 a ha) (h2 b hb) e)) h1
noncomputable def walkT (put:Nat->Tr->Tr->Tr):Tr->Tr
 |.lf b=>.lf b
 |.nd v l h=>put v (walkT put l) (walkT put h)
theorem iL {n:Nat}:∀{t:Tr} {m:Nat},OkT n m t->∀x y,(∀i,m<=i->i<n->x i=y i)->evT t x=evT t y
 |.lf b,_,_,_,_,_=>rfl
 |.nd v l h,m,⟨h1,h2,h3,h4,h5⟩,x,y,he=>by
  simp only[evT]
  rw[he v h1 h2,iL h4 x y fun i hi hin=>he i (by omega) hin,iL h5 x y fun i hi hin=>he i (by omega) hin]
theorem x6 {n m:Nat}{g:Tf}(hg:∀x y,(∀i,m<=i->i<n->x i=y i)->g x=g y):OkT n m (treeT n g):=by
 by_cases hm:m<=n
 ·have hk:n - (n - m)=m:=by omega
  have h1:OkT n m (treeF n (n - m) g):=by
   have:=eM (n:=n) (k:=n - m) (g:=g) (by omega)
   rwa [hk]at this
  have h2:treeT n g=treeF n (n - m) g:=bY h1 fun x=>fK x (by omega) fun x y e=>hg x y fun i hi hin=>e i (by omega) hin
  rw[h2];exact h1
 ·have h2:treeT n g=.lf (g fun _=>false):=bY (m:=0) (t:=.lf (g fun _=>false)) trivial fun x=>hg _ _ fun i hi hin=>by omega
  rw[h2];trivial
theorem Ba {n m:Nat}{a b c:Tr}(ha:OkT n m a)(hb:OkT n m b)(hc:OkT n m c):OkT n m (iteT n a b c):=
 x6 fun x y e=>by rw[iL ha x y e,iL hb x y e,iL hc x y e]
noncomputable def exP (n:Nat)(gone:Tg)(v:Nat)(a b:Tr):Tr:=if gone v=true then iteT n a (.lf true) b else mkT v a b
noncomputable def exT (n:Nat)(gone:Tg):Tr->Tr:=walkT (exP n gone)
theorem gE {n:Nat}{gone:Tg}:∀{t:Tr} {m:Nat},OkT n m t->OkT n m (exT n gone t)
 |.lf b,_,_=>trivial
 |.nd v l h,m,⟨h1,h2,h3,h4,h5⟩=>by
  have a:=gE (gone:=gone) h4
  have b:=gE (gone:=gone) h5
  show OkT n m (exP n gone v (exT n gone l) (exT n gone h))
  unfold exP
  split
  ·exact(Ba (b:=.lf true) a (by exact trivial) b).mono (by omega)
  ·exact ld h1 h2 a b
theorem rr {n:Nat}{gone:Tg}:∀{t:Tr} {m:Nat},OkT n m t->∀x,evT (exT n gone t) x=true↔∃y,(∀v,gone v=false->y v=x v)/\evT t y=true
 |.lf b,_,_,x=>⟨fun h=>⟨x,fun _ _=>rfl,h⟩,fun⟨y,_,h⟩=>h⟩
 |.nd v l h,m,⟨h1,h2,h3,h4,h5⟩,x=>by
  have il:=rr (gone:=gone) h4 x
  have ih:=rr (gone:=gone) h5 x
  have ol:=(gE (gone:=gone) h4).mono (Nat.zero_le _)
  have oh:=(gE (gone:=gone) h5).mono (Nat.zero_le _)
  show evT (exP n gone v (exT n gone l) (exT n gone h)) x=true↔_
  unfold exP
  have upd:∀{t:Tr} {y:Tg} {b:Bool},OkT n (v+1) t->evT t (da y v b)=evT t y:=fun {t y b} ht=>iL ht _ _ fun i hi _=>cN (by omega)
  by_cases hg:gone v=true
  ·rw[if_pos hg,mJ (b:=.lf true) ol (by exact trivial) oh]
   have hor:(if evT (exT n gone l) x=true then evT (.lf true) x else evT (exT n gone h) x)=true↔evT (exT n gone l) x=true\/evT (exT n gone h) x=true:=by
    by_cases e:evT (exT n gone l) x=true
    ·rw[if_pos e];exact⟨fun _=>.inl e,fun _=>rfl⟩
    ·rw[if_neg e];exact⟨fun h=>.inr h,fun h=>h.resolve_left e⟩
   rw[hor,il,ih]
   constructor
   ·rintro(⟨y,ha,hy⟩|⟨y,ha,hy⟩)
    ·refine⟨da y v false,fun u hu=>?_,?_⟩
     ·rw[cN (by rintro rfl;rw[hg]at hu;cases hu)];exact ha u hu
     ·simp only[evT,bL,Bool.false_eq_true,if_false]
      rw[upd h4];exact hy
    ·refine⟨da y v true,fun u hu=>?_,?_⟩
     ·rw[cN (by rintro rfl;rw[hg]at hu;cases hu)];exact ha u hu
     ·simp only[evT,bL,if_true]
      rw[upd h5];exact hy
   ·rintro⟨y,ha,hy⟩
    simp only[evT]at hy
    by_cases e:y v=true
    ·rw[if_pos e]at hy;exact .inr ⟨y,ha,hy⟩
    ·rw[if_neg e]at hy;exact .inl ⟨y,ha,hy⟩
  ·rw[if_neg hg,lh]
   have hgf:gone v=false:=by cases h:gone v;rfl;exact absurd h hg
   by_cases e:x v=true
   ·rw[if_pos e,ih]
    constructor
    ·rintro⟨y,ha,hy⟩;exact⟨y,ha,by simp only[evT];rw[ha v hgf,if_pos e];exact hy⟩
    ·rintro⟨y,ha,hy⟩;simp only[evT]at hy;rw[ha v hgf,if_pos e]at hy;exact⟨y,ha,hy⟩
   ·rw[if_neg e,il]
    constructor
    ·rintro⟨y,ha,hy⟩;exact⟨y,ha,by simp only[evT];rw[ha v hgf,if_neg e];exact hy⟩
    ·rintro⟨y,ha,hy⟩;simp only[evT]at hy;rw[ha v hgf,if_neg e]at hy;exact⟨y,ha,hy⟩
open Classical in
noncomputable def exF (gone:Tg)(f:Tf)(x:Tg):Bool:=decide (∃y,(∀v,gone v=false->y v=x v)/\f y=true)
theorem mM {gone:Tg}{f:Tf}{x:Tg}:exF gone f x=true↔∃y,(∀v,gone v=false->y v=x v)/\f y=true:=by simp[exF]
theorem tw {n:Nat}{gone:Tg}{f:Tf}(hf:ep n f):exT n gone (treeT n f)=treeT n (exF gone f):=by
 refine(bY (gE cQ) fun x=>?_).symm
 rw[Bool.eq_iff_iff,rr cQ,mM]
 constructor
 ·rintro⟨y,a,b⟩;exact⟨y,a,by rwa [bU hf]at b⟩
 ·rintro⟨y,a,b⟩;exact⟨y,a,by rwa [bU hf]⟩
theorem ER {S:TW}{gone:Tg}{f:Tf}(hf:DepF S f):DepF (S.filter fun v=>!gone v) (exF gone f):=fun x y e=>by
 have key:∀x y:Tg,(∀v,v∈S.filter (fun v=>!gone v)->x v=y v)->exF gone f x=true->exF gone f y=true:=fun x y e h=>by
  rw[mM]at h ⊢
  obtain⟨z,ha,hz⟩:=h
  refine⟨fun v=>if gone v=true then z v else y v,fun v hv=>by simp[hv],?_⟩
  refine(hf _ z fun v hv=>?_).trans hz
  by_cases hg:gone v=true
  ·exact if_pos hg
  ·have hgf:gone v=false:=by simpa using hg
   exact(if_neg hg).trans ((e v (List.mem_filter.2 ⟨hv,by simp[hgf]⟩)).symm.trans (ha v hgf).symm)
 rw[Bool.eq_iff_iff]
 exact⟨key x y e,key y x fun v hv=>(e v hv).symm⟩
noncomputable def rnP (n:Nat)(by_:Nat->Nat)(v:Nat)(a b:Tr):Tr:=iteT n (mkT (by_ v) (.lf false) (.lf true)) b a
noncomputable def rnT (n:Nat)(by_:Nat->Nat):Tr->Tr:=walkT (rnP n by_)
theorem nI {n:Nat}{by_:Nat->Nat}:∀{t:Tr},OkT n 0 (rnT n by_ t)
 |.lf b=>trivial
 |.nd v l h=>EI
def rnF (by_:Nat->Nat)(f:Tf)(x:Tg):Bool:=f fun v=>x (by_ v)
theorem qS {n:Nat}{by_:Nat->Nat}(hb:∀v,v<n->by_ v<n):∀{t:Tr} {m:Nat},OkT n m t->∀x,evT (rnT n by_ t) x=evT t fun v=>x (by_ v)
 |.lf b,_,_,x=>rfl
 |.nd v l h,m,⟨h1,h2,h3,h4,h5⟩,x=>by
  have il:=qS hb h4 x
  have ih:=qS hb h5 x
  have ol:OkT n 0 (mkT (by_ v) (.lf false) (.lf true)):=ld (Nat.zero_le _) (hb v h2) trivial trivial
  show evT (iteT n (mkT (by_ v) (.lf false) (.lf true)) (rnT n by_ h) (rnT n by_ l)) x=_
  rw[mJ ol nI nI,lh]
  simp only[evT,il,ih]
  by_cases e:x (by_ v)=true
  ·simp[e]
  ·simp[e]
theorem zQ {n:Nat}{by_:Nat->Nat}{f:Tf}(hb:∀v,v<n->by_ v<n)(hf:ep n f):rnT n by_ (treeT n f)=treeT n (rnF by_ f):=by
 refine(bY nI fun x=>?_).symm
 rw[qS hb cQ,bU hf]
 rfl
theorem qT {S:TW}{by_:Nat->Nat}{f:Tf}(hf:DepF S f):DepF (S.map by_) (rnF by_ f):=fun x y e=>hf _ _ fun v hv=>e _ (List.mem_map_of_mem hv)
def du (c:Nat->Nat):Tr->Nat
 |.lf _=>0
 |.nd v l h=>du c l+du c h+c v
theorem rB {n:Nat}{S:TW}{c kk:Nat->Nat}(hc:∀v,c v<=2 ^ kk v+1)(hm:∀p q,p<=q->kk q<=kk p)(hs:∀v,v∈S->kk (v+1)+1<=kk v):∀{t:Tr} {m:Nat},OkT n m t->InV S t->du c t+1<=(kk m+2) * 2 ^ kk m
 |.lf _,m,_,_=>by
  simp only[du]
  have h2:2 * 1<=(kk m+2) * 2 ^ kk m:=Nat.mul_le_mul (by omega) (Nat.two_pow_pos _)
  omega
 |.nd v l h,m,⟨h1,h2,h3,h4,h5⟩,⟨i1,i2,i3⟩=>by
  have a:=rB hc hm hs h4 i2
  have b:=rB hc hm hs h5 i3
  have hcv:=hc v
  have h6:=hs v i1
  have h7:=hm m v h1
  simp only[du]
  generalize kk (v+1)=j at *
  have p1:(j+2) * 2 ^ j * 2<=(kk v+1) * 2 ^ kk v:=by
   have e:(j+2) * 2 ^ j * 2=(j+2) * 2 ^ (j+1):=by rw[Nat.pow_succ,Nat.mul_assoc]
   rw[e]
   exact Nat.mul_le_mul (by omega) (Nat.pow_le_pow_right (by omega) (by omega))
  have p2:(kk v+2) * 2 ^ kk v<=(kk m+2) * 2 ^ kk m:=Nat.mul_le_mul (by omega) (Nat.pow_le_pow_right (by omega) h7)
  have p3:(kk v+2) * 2 ^ kk v=(kk v+1) * 2 ^ kk v+2 ^ kk v:=by
   rw[show kk v+2=(kk v+1)+1 by omega,Nat.add_mul,Nat.one_mul]
  generalize (j+2) * 2 ^ j=x at *
  generalize (kk v+1) * 2 ^ kk v=y at *
  omega
def kkS (S:TW)(m:Nat):Nat:=S.countP fun u=>decide (m<=u)
theorem AY {S:TW}{p q:Nat}(h:p<=q):kkS S q<=kkS S p:=List.countP_mono_left fun x _ hx=>by simp at hx ⊢;omega
theorem AW {S:TW}{v:Nat}(h:v∈S):kkS S (v+1)+1<=kkS S v:=by
 unfold kkS
 induction S with
 |nil=>cases h
 |cons s S ih=>
  rw[List.countP_cons,List.countP_cons]
  have hm:S.countP (fun u=>decide (v+1<=u))<=S.countP (fun u=>decide (v<=u)):=List.countP_mono_left fun x _ hx=>by simp at hx ⊢;omega
  by_cases e:s=v
  ·subst e
   simp only[show ¬ s+1<=s by omega,decide_false,Bool.false_eq_true,if_false,Nat.le_refl,decide_true,if_true]
   omega
  ·have ih':=ih (by rcases AT.1 h with h|h;exact absurd h.symm e;exact h)
   by_cases g:v+1<=s
   ·simp only[g,decide_true,if_true,show v<=s by omega];omega
   ·simp only[g,decide_false,Bool.false_eq_true,if_false,show ¬ v<=s by omega];omega
theorem AZ {S:TW}{m:Nat}:kkS S m<=S.length:=List.countP_le_length
end Go.Proofs.YtohnaepcgnbaiaaGreatDoor
