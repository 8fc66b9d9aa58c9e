/- Walks of functions that the claim reaches, and plain facts of them. Conditions: those in the statements. -/
import Derived.Test.YtohnaepcgnbaiaaGreatDoorJkSoundFj
import Derived.Deep.LoopGhost
import Derived.StillTail
import Derived.Defers
import Derived.Recover
import Derived.Test.YtohnaepcgnbaiaaGreatDoorJkValj
set_option linter.unusedSimpArgs false
set_option linter.unusedVariables false
namespace Go.Proofs.YtohnaepcgnbaiaaGreatDoor
open Go.RowKit
inductive Fin' where
 |norm
 |ret
 |exit (id:Nat)
 |panic (x:VV)
def RX (G:Gh):Exit->Fin'->Prop
 |.normal,.norm=>True
 |.ret,.ret=>True
 |.exit i,.exit j=>i=j
 |.panic ch,.panic x=>∃v,ch=[{ v:=v,recovered:=false }]/\R G v x
 |_,_=>False
theorem RX.mono {G G':Gh}(h:G.le G'){e:Exit}{f:Fin'}(r:RX G e f):RX G' e f:=by
 cases e<;>cases f<;>first|exact r|(obtain⟨v,e,hv⟩:=r;exact⟨v,e,hv.mono h⟩)
abbrev Pst:=Fin'->Env->St->Prop
def Up (N:Nat)(w0:World)(G:Gh)(D:List Deferred)(Q:Pst):Exit->Act->World->Prop:=fun e a w=>
 ∃(G':Gh) (f:Fin') (env:Env) (s:St),G.le G'/\RX G' e f/\FR N G' a.tmps env/\a.defers=D/\Sim w0 G' w s/\Q f env s
theorem Up.back {N:Nat}{w0:World}{G G':Gh}{D:List Deferred}{Q:Pst}(h:G.le G'){e:Exit}{a:Act}{w:World}(u:Up N w0 G' D Q e a w):Up N w0 G D Q e a w:=by
 obtain⟨G'',f,env,s,h1,h2⟩:=u
 exact⟨G'',f,env,s,h.trans h1,h2⟩
theorem Oper.wp_mono' {P:Program}{o:Oper}{a:Act}{w:World}{n n':Act->World->Prop}{Q Q':Exit->Act->World->Prop}(hn:∀a w,n a w->n' a w)(hQ:∀e a w,Q e a w->Q' e a w)
  (h:o.wp P a w n Q):o.wp P a w n' Q':=by
 unfold Oper.wp at h ⊢
 generalize (execOp a.eval o).run P w=r at h ⊢
 unfold Oper.upon at h ⊢
 split at h
 ·exact hn _ _ h
 ·exact hn _ _ h
 ·exact hn _ _ h
 ·refine h.mono fun e w' he=>?_
  cases e with
  |returned v=>exact hn _ _ he
  |panicked ch=>exact hQ _ _ _ he
  |outgrown=>obtain⟨a,w,q⟩:=he;exact⟨a,w,hQ _ _ _ q⟩
 ·exact h.mono fun v w' he=>hn _ _ he
 ·exact hQ _ _ _ h
 ·exact h.elim
section
variable {P : Program} {N : Nat} {D : List Deferred}
theorem mV {all:List Oper}{K:Env->St->Prop}{E:VV->Env->St->Prop}{Q:Pst}(hK:∀env s,K env s->Q .norm env s)(hE:∀x env s,E x env s->Q (.panic x) env s) :
  ∀(rest:List Oper) (env:Env) (s:St),aw P N all K E rest env s->∀(w0:World) (G:Gh) (w:World) (a:Act),FR N G a.tmps env->a.defers=D->Sim w0 G w s ->
   wpList P all.toArray (Up N w0 G D Q) rest a w
 |[],env,s,h,w0,G,w,a,hf,hD,hS=>⟨G,.norm,env,s,Gh.le.refl G,trivial,hf,hD,hS,hK env s h⟩
 |o::rest,env,s,h,w0,G,w,a,hf,hD,hS=>by
  have ih:=mV (all:=all) hK hE rest
  have mono:∀(G':Gh),G.le G'->∀(l:List Oper) (a:Act) (w:World),wpList P all.toArray (Up N w0 G' D Q) l a w->wpList P all.toArray (Up N w0 G D Q) l a w:=by
   intro G' hG l
   induction l with
   |nil=>exact fun a w h=>Up.back hG h
   |cons o l ihl=>
    intro a w h
    unfold wpList at h ⊢
    split at h
    ·rename_i hw
     rw[if_pos hw]
     rcases h with h|⟨h1,a',w',h2⟩
     ·exact .inl (Oper.wp_mono' ihl (fun e a w=>Up.back hG) h)
     ·exact .inr ⟨h1,a',w',Up.back hG h2⟩
    ·rename_i hw
     rw[if_neg hw]
     exact ihl _ _ h
  have run:aP P N E o (fun env s=>aw P N all K E rest env s) env s->o.wp P a w (wpList P all.toArray (Up N w0 G D Q) rest) (Up N w0 G D Q):=by
   intro hst
   refine Oper.wp_mono' ?_ ?_ (ng hf hD hS hst)
   ·rintro a' w' ⟨G',env',s',hG,hf',hD',hS',hk⟩
    exact mono G' hG _ _ _ (ih env' s' hk w0 G' w' a' hf' hD' hS')
   ·rintro e a' w' ⟨G',env',s',v,x,rfl,hv,hG,hf',hD',hS',hk⟩
    exact⟨G',.panic x,env',s',hG,⟨v,rfl,hv⟩,hf',hD',hS',hE _ _ _ hk⟩
  have skip:wj N o (fun env s=>aw P N all K E rest env s) env s->wpList P all.toArray (Up N w0 G D Q) rest (a.put o.dst undef) w:=by
   intro hsk
   exact ih _ _ hsk w0 G w _ (hf.put o.dst (.tup _ _ rfl (fun j v y hv=>by simp at hv))) ((dc _ _ _).trans hD) hS
  unfold wpList
  simp only[aw]at h
  cases hg:o.guard with
  |none=>
   rw[if_pos (by simp[Region.wanted,hg])]
   rw[hg]at h
   exact .inl (run h)
  |some g=>
   obtain⟨j,want⟩:=g
   rw[hg]at h
   simp only at h
   unfold yv at h
   cases hd:(all[j]?).bind (·.dst)with
   |none=>
    rw[hd]at h
    rw[if_neg (by simp[Region.wanted,hg,yielded,hd])]
    exact skip h
   |some t=>
    rw[hd]at h
    simp only at h
    have hr:=hf.rel t
    cases he:env t with
    |bool b=>
     rw[he]at hr h
     generalize hv:a.tmps.getD t undef=v at hr
     cases hr
     have hy:yielded all.toArray a.tmps j=some b:=by
      have hlt:t<a.tmps.size:=by
       rcases Nat.lt_or_ge t a.tmps.size with h'|h'
       ·exact h'
       ·simp[Array.getD,Nat.not_lt.2 h',undef]at hv
      have:a.tmps[t]?=some (.bool b):=by
       simp[Array.getD,hlt]at hv
       simp[hlt,hv]
      simp[yielded,hd,this]
     simp only[gU]at h
     by_cases hbw:b=want
     ·rw[if_pos hbw]at h
      rw[if_pos (by simp[Region.wanted,hg,hy,hbw])]
      exact .inl (run h)
     ·rw[if_neg hbw]at h
      rw[if_neg (by simp[Region.wanted,hg,hy,hbw])]
      exact skip h
    |tup xs=>
     rw[he]at hr h
     generalize hv:a.tmps.getD t undef=v at hr
     cases hr with
     |tup vs xs hs hR=>
      have hy:yielded all.toArray a.tmps j=none:=by
       by_cases hlt:t<a.tmps.size
       ·have:a.tmps[t]?=some (.tuple vs):=by
         simp[Array.getD,hlt]at hv
         simp[hlt,hv]
        simp[yielded,hd,this]
       ·simp[yielded,hd,hlt]
      rw[if_neg (by simp[Region.wanted,hg,hy])]
      exact skip h
    |_=>rw[he]at h;exact h.elim
def SW (P:Program)(N:Nat)(D:List Deferred)(c:Code)(Q:Pst)(env:Env)(s:St):Prop:=
 ∀(w0:World) (G:Gh) (w:World) (a:Act),FR N G a.tmps env->a.defers=D->Sim w0 G w s->c.wp P (Up N w0 G D Q) a w
inductive Itm where
 |code (c:Code)
 |blk (id:Nat)
 |back (I:Env->St->Prop)
def Kp (P:Program)(N:Nat)(D:List Deferred):List Itm->Pst->Pst
 |[],Q=>Q
 |.code c::k,Q=>fun f env s=>match f with|.norm=>SW P N D c (Kp P N D k Q) env s|f=>Kp P N D k Q f env s
 |.blk id::k,Q=>fun f env s=>match f with|.exit j=>if j=id then Kp P N D k Q .norm env s else Kp P N D k Q (.exit j) env s|f=>Kp P N D k Q f env s
 |.back I::k,Q=>fun f env s=>match f with|.norm=>I env s|f=>Kp P N D k Q f env s
section
variable {k : List Itm} {Q : Pst} {env : Env} {s : St}
theorem Qz {x y:Code}(h:Kp P N D (.code x::.code y::k) Q .norm env s):Kp P N D (.code (.seq x y)::k) Q .norm env s:=by
 intro w0 G w a hf hD hS
 refine wp_seq (wp_mono (h w0 G w a hf hD hS) ?_)
 rintro e a' w' ⟨G',f,env',s',hG,hx,hf',hD',hS',hq⟩
 cases f with
 |norm=>
  cases e<;>first|exact hx.elim|skip
  exact wp_mono (hq w0 G' w' a' hf' hD' hS') fun e a w=>Up.back hG
 |ret=>cases e<;>first|exact hx.elim|exact⟨G',.ret,env',s',hG,hx,hf',hD',hS',hq⟩
 |exit i=>cases e<;>first|exact hx.elim|exact⟨G',.exit i,env',s',hG,hx,hf',hD',hS',hq⟩
 |panic x=>cases e<;>first|exact hx.elim|exact⟨G',.panic x,env',s',hG,hx,hf',hD',hS',hq⟩
theorem MQ (h:Kp P N D k Q .norm env s):Kp P N D (.code .skip::k) Q .norm env s:=
 fun _ G _ _ hf hD hS=>wp_skip ⟨G,.norm,env,s,Gh.le.refl G,trivial,hf,hD,hS,h⟩
theorem MR {id:Nat}(h:Kp P N D k Q (.exit id) env s):Kp P N D (.code (.exit id)::k) Q .norm env s:=
 fun _ G _ _ hf hD hS=>wp_exit ⟨G,.exit id,env,s,Gh.le.refl G,rfl,hf,hD,hS,h⟩
theorem rO:∀k:List Itm,Kp P N D k Q .ret env s=Q .ret env s
 |[]=>rfl
 |.code c::k=>rO k
 |.blk id::k=>rO k
 |.back I::k=>rO k
theorem iz {x:VV}:∀k:List Itm,Kp P N D k Q (.panic x) env s=Q (.panic x) env s
 |[]=>rfl
 |.code c::k=>iz k
 |.blk id::k=>iz k
 |.back I::k=>iz k
theorem QA (h:Q .ret env s):Kp P N D (.code .ret::k) Q .norm env s:=
 fun _ G _ _ hf hD hS=>wp_ret ⟨G,.ret,env,s,Gh.le.refl G,trivial,hf,hD,hS,by rw[rO];exact h⟩
theorem QB {id:Nat}{c:Code}(h:Kp P N D (.code c::.blk id::k) Q .norm env s):Kp P N D (.code (.block id c)::k) Q .norm env s:=by
 intro w0 G w a hf hD hS
 refine wp_block (wp_mono (h w0 G w a hf hD hS) ?_)
 rintro e a' w' ⟨G',f,env',s',hG,hx,hf',hD',hS',hq⟩
 cases f with
 |norm=>cases e<;>first|exact hx.elim|exact⟨G',.norm,env',s',hG,hx,hf',hD',hS',hq⟩
 |ret=>cases e<;>first|exact hx.elim|exact⟨G',.ret,env',s',hG,hx,hf',hD',hS',hq⟩
 |panic x=>cases e<;>first|exact hx.elim|exact⟨G',.panic x,env',s',hG,hx,hf',hD',hS',hq⟩
 |exit i=>
  cases e<;>first|exact hx.elim|skip
  rename_i i'
  have:i'=i:=hx
  subst this
  simp only[Kp]at hq
  simp only[Exit.inBlock]
  by_cases hi:i'=id
  ·rw[if_pos hi]at hq ⊢
   exact⟨G',.norm,env',s',hG,trivial,hf',hD',hS',hq⟩
  ·rw[if_neg hi]at hq ⊢
   exact⟨G',.exit i',env',s',hG,rfl,hf',hD',hS',hq⟩
theorem Cg {id:Nat}(h:Kp P N D k Q .norm env s):Kp P N D (.blk id::k) Q .norm env s:=h
theorem MU {I:Env->St->Prop}(h:I env s):Kp P N D (.back I::k) Q .norm env s:=h
theorem Mu {c:Code}{id:Nat}(h:Kp P N D k Q (.exit id) env s):Kp P N D (.code c::k) Q (.exit id) env s:=h
theorem Mv {I:Env->St->Prop}{id:Nat}(h:Kp P N D k Q (.exit id) env s):Kp P N D (.back I::k) Q (.exit id) env s:=h
theorem Qt {id:Nat}(h:Kp P N D k Q .norm env s):Kp P N D (.blk id::k) Q (.exit id) env s:=by
 show (if id=id then _ else _)
 rw[if_pos rfl];exact h
theorem Mt {id j:Nat}(hne:j≠id)(h:Kp P N D k Q (.exit j) env s):Kp P N D (.blk id::k) Q (.exit j) env s:=by
 simp only[Kp];rw[if_neg hne];exact h
def rZ (P:Program)(N:Nat)(D:List Deferred)(c:VV)(x y:Code)(k:List Itm)(Q:Pst)(env:Env)(s:St):Prop:=
 match c with
 |.bool t=>(t=true->Kp P N D (.code x::k) Q .norm env s)/\(t=false->Kp P N D (.code y::k) Q .norm env s)
 |_=>False
theorem ue {x y:Code}:rZ P N D (.bool true) x y k Q env s=Kp P N D (.code x::k) Q .norm env s:=by simp[rZ]
theorem rY {x y:Code}:rZ P N D (.bool false) x y k Q env s=Kp P N D (.code y::k) Q .norm env s:=by simp[rZ]
theorem MT {c:Operand}{x y:Code}(h:rZ P N D (rd env c) x y k Q env s):Kp P N D (.code (.cond c x y)::k) Q .norm env s:=by
 intro w0 G w a hf hD hS
 have hr:=hf.eval c
 cases he:rd env c with
 |bool t=>
  rw[he]at hr h
  generalize hv:a.eval c=v at hr
  cases hr
  cases t with
  |true=>exact wp_cond_true hv (h.1 rfl w0 G w a hf hD hS)
  |false=>exact wp_cond_false hv (h.2 rfl w0 G w a hf hD hS)
 |_=>rw[he]at h;exact h.elim
theorem Cf {id:Nat}{ops:List Oper}(h:∀(K:Env->St->Prop) (E:VV->Env->St->Prop),(∀env s,Kp P N D k Q .norm env s->K env s)->(∀x env s,Q (.panic x) env s->E x env s)->aw P N ops K E ops env s) :
  Kp P N D (.code (.region id ops.toArray false)::k) Q .norm env s:=by
 intro w0 G w a hf hD hS
 refine wp_region_list ?_
 have:=h (fun env s=>Kp P N D k Q .norm env s) (fun x env s=>Q (.panic x) env s) (fun _ _ h=>h) (fun _ _ _ h=>h)
 exact mV (Q:=Kp P N D k Q) (fun _ _ h=>h) (fun x env s h=>by rw[iz];exact h) ops env s this w0 G w a hf hD hS
theorem aY {c:Code}(I:Nat->Env->St->Prop)(n:Nat)(h0:I n env s)(hr:∀n env s,I n env s->Kp P N D (.code c::.back (fun env' s'=>∃m,m<n/\I m env' s')::k) Q .norm env s) :
  Kp P N D (.code (.loop c)::k) Q .norm env s:=by
 intro w0 G w a hf hD hS
 refine wp_loop_ghost (fun n a w=>∃(G':Gh) (env:Env) (s:St),G.le G'/\FR N G' a.tmps env/\a.defers=D/\Sim w0 G' w s/\I n env s) n ⟨G,env,s,Gh.le.refl G,hf,hD,hS,h0⟩ ?_
 rintro n a w ⟨G',env,s,hG,hf,hD,hS,hI⟩
 refine wp_mono (hr n env s hI w0 G' w a hf hD hS) ?_
 rintro e a' w' ⟨G'',f,env',s',hG',hx,hf',hD',hS',hq⟩
 cases f with
 |norm=>
  cases e<;>first|exact hx.elim|skip
  obtain⟨m,hm,hI'⟩:=hq
  exact⟨m,hm,G'',env',s',hG.trans hG',hf',hD',hS',hI'⟩
 |ret=>cases e<;>first|exact hx.elim|exact⟨G'',.ret,env',s',hG.trans hG',hx,hf',hD',hS',hq⟩
 |exit i=>cases e<;>first|exact hx.elim|exact⟨G'',.exit i,env',s',hG.trans hG',hx,hf',hD',hS',hq⟩
 |panic x=>cases e<;>first|exact hx.elim|exact⟨G'',.panic x,env',s',hG.trans hG',hx,hf',hD',hS',hq⟩
theorem kL {c:Code}{I I':Env->St->Prop}(hI:∀env s,I env s->I' env s)(h:Kp P N D (.code c::.back I::k) Q .norm env s):Kp P N D (.code c::.back I'::k) Q .norm env s:=by
 intro w0 G w a hf hD hS
 refine wp_mono (h w0 G w a hf hD hS) ?_
 rintro e a' w' ⟨G',f,env',s',hG,hx,hf',hD',hS',hq⟩
 exact⟨G',f,env',s',hG,hx,hf',hD',hS',by cases f<;>first|exact hI _ _ hq|exact hq⟩
def KR (P:Program)(N:Nat)(D:List Deferred)(c:Code)(k:List Itm)(Q:Pst):Nat->Env->St->Prop
 |0=>fun _ _=>False
 |n+1=>fun env s=>Kp P N D (.code c::.back (KR P N D c k Q n)::k) Q .norm env s
theorem kJ {c:Code}(n:Nat)(h:KR P N D c k Q n env s):Kp P N D (.code (.loop c)::k) Q .norm env s:=by
 refine aY (fun m env s=>KR P N D c k Q m env s) n h ?_
 intro m env s hm
 cases m with
 |zero=>exact hm.elim
 |succ m=>exact kL (fun env s h=>⟨m,Nat.lt_succ_self m,h⟩) hm
theorem cD {c:Code}(n:Nat)(h:Kp P N D (.code c::.back (KR P N D c k Q n)::k) Q .norm env s):KR P N D c k Q (n+1) env s:=h
theorem dr {c:Code}{s':St}(hf:Fg s s')(h:Kp P N D (.code c::k) Q .norm env s'):Kp P N D (.code c::k) Q .norm env s:=
 fun w0 G w a hfr hD hS=>h w0 G w a hfr hD (hS.forget hf)
end
def rW (P:Program)(env:Env)(s:St):ResultVar->Option VV
 |.tmp t=>some (env t)
 |.cell t T=>fJ (qi P T) (env t) s
def gT (P:Program)(env:Env)(s:St):List ResultVar->Option (List VV)
 |[]=>some []
 |r::rs=>match rW P env s r,gT P env s rs with|some x,some xs=>some (x::xs)|_,_=>none
def kP (P:Program)(env:Env)(s:St)(rs:List ResultVar):Option VV:=
 match rs with
 |[r]=>rW P env s r
 |rs=>(gT P env s rs).map .tup
def rh (tmps:Array Value):ResultVar->Sem Value
 |.tmp t=>pure (tmps.getD t undef)
 |.cell a t=>do loadVar t (<- asAddr (tmps.getD a undef))
theorem uu (fn:Func)(tmps:Array Value):results fn tmps=(do
  let vs <- fn.results.mapM (rh tmps)
  pure (if h:vs.size=1 then vs[0] else .tuple vs)):=by
 unfold results
 congr 2
theorem su {w0 w:World}{G:Gh}{s:St}{env:Env}{tmps:Array Value}(hf:FR N G tmps env)(hS:Sim w0 G w s){r:ResultVar}{x:VV}(h:rW P env s r=some x) :
  ∃v,(rh tmps r).run P w=.ok v w/\R G v x:=by
 cases r with
 |tmp t=>
  simp only[rW,Option.some.injEq]at h
  subst h
  exact⟨_,rfl,hf.rel t⟩
 |cell t T=>
  have hr:=hf.rel t
  obtain⟨v,hrun,hR⟩:=pU (P:=P) hS hr h
  refine⟨v,?_,hR⟩
  generalize hu:tmps.getD t undef=u at hrun
  cases u with
  |pointer a=>
   cases a with
   |some a=>
    simp only[rh,hu,asAddr,Sem.run_bind,Sem.run_pure,Result.andThen_ok]
    simpa [Instr.loadAt,Instr.sureAddr]using hrun
   |none=>simp[Instr.loadAt,Instr.sureAddr]at hrun
  |_=>simp[Instr.loadAt,Instr.sureAddr]at hrun
theorem pT {w0 w:World}{G:Gh}{s:St}{env:Env}{tmps:Array Value}(hf:FR N G tmps env)(hS:Sim w0 G w s):∀(rs:List ResultVar) (xs:List VV),gT P env s rs=some xs ->
  ∃vs:List Value,(rs.mapM (rh tmps)).run P w=.ok vs w/\RL G vs.toArray xs/\vs.length=rs.length
 |[],xs,h=>by
  simp only[gT,Option.some.injEq]at h
  subst h
  exact⟨[],by simp,⟨rfl,by simp⟩,rfl⟩
 |r::rs,xs,h=>by
  simp only[gT]at h
  split at h
  ·rename_i x xs' h1 h2
   simp only[Option.some.injEq]at h
   subst h
   obtain⟨v,hv,hR⟩:=su (P:=P) hf hS h1
   obtain⟨vs,hvs,hRs,hl⟩:=pT hf hS rs xs' h2
   refine⟨v::vs,?_,⟨by simpa using hRs.1,fun j u y hu hy=>?_⟩,by simp[hl]⟩
   ·rw[List.mapM_cons]
    simp only[Sem.run_bind]
    rw[hv]
    simp only[Result.andThen_ok]
    rw[hvs]
    rfl
   ·cases j with
    |zero=>simp at hu hy;subst hu;subst hy;exact hR
    |succ j=>exact hRs.2 j u y (by simpa using hu) (by simpa using hy)
  ·cases h
theorem zK {w0 w:World}{G:Gh}{s:St}{env:Env}{tmps:Array Value}{fn:Func}(hf:FR N G tmps env)(hS:Sim w0 G w s){x:VV}(h:kP P env s fn.results.toList=some x) :
  ∃v,(results fn tmps).run P w=.ok v w/\R G v x:=by
 rw[uu,Array.mapM_eq_mapM_toList]
 generalize fn.results.toList=rs at h
 match rs,h with
 |[],h=>
  simp only[kP,gT,Option.map_some,Option.some.injEq]at h
  subst h
  exact⟨.tuple #[],by simp,.tup _ _ rfl (by simp)⟩
 |[r],h=>
  obtain⟨v,hv,hR⟩:=su (P:=P) hf hS (r:=r) h
  refine⟨v,?_,hR⟩
  simp only[Sem.run_bind,Sem.run_map,List.mapM_cons,List.mapM_nil]
  rw[hv]
  rfl
 |r::r'::rs,h=>
  simp only[kP]at h
  cases hx:gT P env s (r::r'::rs)with
  |none=>simp[hx]at h
  |some xs=>
   simp only[hx,Option.map_some,Option.some.injEq]at h
   subst h
   obtain⟨vs,hvs,hRs,hl⟩:=pT (P:=P) hf hS _ _ hx
   refine⟨.tuple vs.toArray,?_,.tup _ _ hRs.1 hRs.2⟩
   simp only[Sem.run_bind,Sem.run_map]
   rw[hvs]
   simp only[Result.andThen_ok]
   rw[dif_neg (by simp[hl])]
   rfl
def Wk (x y:VV):Prop:=∀(G:Gh) (v:Value),R G v x->R G v y
theorem Wk.refl (x:VV):Wk x x:=fun _ _ h=>h
theorem Wk.lst (xs:List (List VV))(o:Own):Wk (.lst xs o) (.lst xs .no):=fun _ _ h=>h.unown
def Qf (P:Program)(rs:List ResultVar)(Q:SEnd->St->Prop):Pst:=fun f env s=>
 match f with
 |.norm=>∃x,kP P env s rs=some x/\∃y s',Wk x y/\Fg s s'/\Q (.ret y) s'
 |.ret=>∃x,kP P env s rs=some x/\∃y s',Wk x y/\Fg s s'/\Q (.ret y) s'
 |.panic x=>∃s',Fg s s'/\Q (.panic x) s'
 |.exit _=>False
def ry (xs:List VV):Env:=fun i=>(xs[i]?).getD (.tup [])
theorem FR.start {G:Gh}{vs:Array Value}{xs:List VV}{n:Nat}(h:RL G vs xs)(hN:n=vs.size+(n - vs.size)):FR n G (vs++Array.replicate (n - vs.size) undef) (ry xs):=by
 refine⟨by simp;omega,fun i=>?_⟩
 unfold ry
 have hu:R G undef (.tup []):=.tup _ _ rfl (by simp)
 rcases Nat.lt_or_ge i vs.size with hi|hi
 ·have h2:i<xs.length:=by rw[<- h.1];exact hi
  have:(vs++Array.replicate (n - vs.size) undef).getD i undef=vs[i]:=by
   rw[Array.getD_eq_getD_getElem?,Array.getElem?_append_left hi];simp[hi]
  rw[this,m_ h2]
  exact h.2 i _ _ (Array.getElem?_eq_getElem hi) (m_ h2)
 ·have h2:xs[i]?=none:=t_ (by rw[<- h.1];exact hi)
  rw[h2]
  have:(vs++Array.replicate (n - vs.size) undef).getD i undef=undef:=by
   rw[Array.getD_eq_getD_getElem?,Array.getElem?_append_right hi,Array.getElem?_replicate]
   split<;>rfl
  rw[this]
  exact hu
theorem Fj {f:FuncId}{fn:Func}{c:Code}{xs:List VV}{s:St}{Q:SEnd->St->Prop}(hf:P.funcs[f]?=some fn)(hb:fn.body=some c)(hN:fn.ntmps=N)(hl:Nat.ble xs.length N=true)
  (h:Kp P N [] [.code c] (Qf P fn.results.toList Q) .norm (ry xs) s):SCalls P f xs s Q:=by
 intro w0 G w vs hS hvs
 subst hN
 have hle:vs.size<=fn.ntmps:=by rw[hvs.1];exact Nat.le_of_ble_eq_true hl
 refine calls_of_wp hf hb (wp_mono (h w0 G w { tmps:=vs++Array.replicate (fn.ntmps - vs.size) undef,defers:=[] } (FR.start hvs (by omega)) rfl hS) ?_)
 rintro e a w' ⟨G',f,env,s',hG,hx,hf',hD,hS',hq⟩
 have fin:(∃x,kP P env s' fn.results.toList=some x/\∃y s'',Wk x y/\Fg s' s''/\Q (.ret y) s'')->a.defers=[]/\∃v,(results fn a.tmps).run P w'=.ok v w' /\
   ∃(G':Gh) (s':St) (x:SEnd),G.le G'/\Sim w0 G' w' s'/\RE G' (.returned v) x/\Q x s':=by
  rintro⟨x,hx,y,s'',hw,hfg,hq⟩
  obtain⟨v,hrun,hR⟩:=zK (P:=P) (fn:=fn) hf' hS' hx
  exact⟨hD,v,hrun,G',s'',.ret y,hG,hS'.forget hfg,hw _ _ hR,hq⟩
 cases f with
 |norm=>cases e<;>first|exact hx.elim|exact fin hq
 |ret=>cases e<;>first|exact hx.elim|exact fin hq
 |exit i=>cases e<;>first|exact hx.elim|exact hq.elim
 |panic x=>
  cases e<;>first|exact hx.elim|skip
  obtain⟨v,rfl,hv⟩:=hx
  obtain⟨s'',hfg,hq⟩:=hq
  exact⟨hD,G',s'',.panic x,hG,hS'.forget hfg,⟨v,rfl,hv⟩,hq⟩
theorem SCalls.mono {f:FuncId}{xs:List VV}{s:St}{Q Q':SEnd->St->Prop}(h:SCalls P f xs s Q)(hq:∀x s',Q x s'->Q' x s'):SCalls P f xs s Q':=
 fun w0 G w vs hS hvs=>(h w0 G w vs hS hvs).mono fun e w' ⟨G',s',x,h1,h2,h3,h4⟩=>⟨G',s',x,h1,h2,h3,hq x s' h4⟩
theorem ai {f:FuncId}{fn:Func}(hf:P.funcs[f]?=some fn)(hn:(fn.name == "runtime.NumGoroutine")=false)(hb:fn.body.isNone=false):an P f:=by
 intro args w
 unfold callFunc
 simp only[Sem.run_bind,run_program,Result.andThen_ok,hf,hn,hb,Bool.false_eq_true,if_false,Sem.run_pure]
end
section
variable {P : Program} {N : Nat} {D : List Deferred}
theorem t8 {ops:Array Oper}{Q Q':Exit->Act->World->Prop}{i:Nat}{K K':Act->World->Prop}{a:Act}{w:World}(hK:∀a w,K a w->K' a w)(hQ:∀e a w,Q e a w->Q' e a w)(h:wpOp P ops Q i K a w):wpOp P ops Q' i K' a w:=by
 unfold wpOp at h ⊢
 cases ho:ops[i]? with
 |none=>rw[ho]at h;exact hK _ _ h
 |some o=>
  rw[ho]at h
  simp only at h ⊢
  split at h
  ·rename_i hw
   rw[if_pos hw]
   rcases h with h|⟨h1,a',w',h2⟩
   ·exact .inl (Oper.wp_mono' hK hQ h)
   ·exact .inr ⟨h1,a',w',hQ _ _ _ h2⟩
  ·rename_i hw
   rw[if_neg hw]
   exact hK _ _ h
theorem lG {md:Region.Mode}{ops:Array Oper}{Q Q':Exit->Act->World->Prop}(hQ:∀e a w,Q e a w->Q' e a w):∀(f:Nat) (listed:Array Bool) (a:Act) (w:World),wpAny P md ops Q f listed a w->wpAny P md ops Q' f listed a w
 |0,_,_,_,h=>⟨h.1,hQ _ _ _ h.2⟩
 |f+1,_,_,_,h=>⟨fun e=>hQ _ _ _ (h.1 e),fun i hi=>t8 (lG hQ f _) hQ (h.2 i hi)⟩
def gV (P:Program)(N:Nat)(all:List Oper)(E:VV->Env->St->Prop)(o:Oper)(K:Env->St->Prop)(env:Env)(s:St):Prop:=
 match o.guard with
 |none=>aP P N E o K env s
 |some (j,want)=>gU (yv all env j) want (aP P N E o K env s) (wj N o K env s)
def lY (P:Program)(N:Nat)(all:List Oper)(E:VV->Env->St->Prop)(i:Nat)(K:Env->St->Prop)(env:Env)(s:St):Prop:=
 match all[i]? with
 |none=>K env s
 |some o=>gV P N all E o K env s
def CG (P:Program)(N:Nat)(all:List Oper)(K:Env->St->Prop)(E:VV->Env->St->Prop):Nat->Array Bool->Env->St->Prop
 |0,listed,env,s=>Region.ready .any all.toArray listed=[]/\K env s
 |f+1,listed,env,s=>(Region.ready .any all.toArray listed=[]->K env s)/\∀i∈Region.ready .any all.toArray listed,lY P N all E i (CG P N all K E f (listed.setIfInBounds i true)) env s
theorem uc {all:List Oper}{E:VV->Env->St->Prop}{Q:Pst}{i:Nat}{K:Env->St->Prop}{env:Env}{s:St}{w0:World}{G:Gh}{w:World}{a:Act}{K':Act->World->Prop}
  (hE:∀x env s,E x env s->Q (.panic x) env s) (hf:FR N G a.tmps env) (hD:a.defers=D) (hS:Sim w0 G w s)
  (hK:∀(G':Gh) (env':Env) (s':St) (a':Act) (w':World),G.le G'->FR N G' a'.tmps env'->a'.defers=D->Sim w0 G' w' s'->K env' s'->K' a' w')
  (h:lY P N all E i K env s):wpOp P all.toArray (Up N w0 G D Q) i K' a w:=by
 unfold lY at h
 unfold wpOp
 rw[List.getElem?_toArray]
 cases ho:all[i]? with
 |none=>rw[ho]at h;exact hK G env s a w (Gh.le.refl G) hf hD hS h
 |some o=>
  rw[ho]at h
  simp only at h ⊢
  have run:aP P N E o K env s->o.wp P a w K' (Up N w0 G D Q):=by
   intro hst
   refine Oper.wp_mono' ?_ ?_ (ng hf hD hS hst)
   ·rintro a' w' ⟨G',env',s',hG,hf',hD',hS',hk⟩
    exact hK G' env' s' a' w' hG hf' hD' hS' hk
   ·rintro e a' w' ⟨G',env',s',v,x,rfl,hv,hG,hf',hD',hS',hk⟩
    exact⟨G',.panic x,env',s',hG,⟨v,rfl,hv⟩,hf',hD',hS',hE _ _ _ hk⟩
  have skip:wj N o K env s->K' (a.put o.dst undef) w:=by
   intro hsk
   exact hK G _ s _ w (Gh.le.refl G) (hf.put o.dst (.tup _ _ rfl (fun j v y hv=>by simp at hv))) ((dc _ _ _).trans hD) hS hsk
  unfold gV at h
  cases hg:o.guard with
  |none=>
   rw[if_pos (by simp[Region.wanted,hg])]
   rw[hg]at h
   exact .inl (run h)
  |some g=>
   obtain⟨j,want⟩:=g
   rw[hg]at h
   simp only at h
   unfold yv at h
   cases hd:(all[j]?).bind (·.dst)with
   |none=>
    rw[hd]at h
    rw[if_neg (by simp[Region.wanted,hg,yielded,hd])]
    exact skip h
   |some t=>
    rw[hd]at h
    simp only at h
    have hr:=hf.rel t
    cases he:env t with
    |bool b=>
     rw[he]at hr h
     generalize hv:a.tmps.getD t undef=v at hr
     cases hr
     have hy:yielded all.toArray a.tmps j=some b:=by
      have hlt:t<a.tmps.size:=by
       rcases Nat.lt_or_ge t a.tmps.size with h'|h'
       ·exact h'
       ·simp[Array.getD,Nat.not_lt.2 h',undef]at hv
      have:a.tmps[t]?=some (.bool b):=by
       simp[Array.getD,hlt]at hv
       simp[hlt,hv]
      simp[yielded,hd,this]
     simp only[gU]at h
     by_cases hbw:b=want
     ·rw[if_pos hbw]at h
      rw[if_pos (by simp[Region.wanted,hg,hy,hbw])]
      exact .inl (run h)
     ·rw[if_neg hbw]at h
      rw[if_neg (by simp[Region.wanted,hg,hy,hbw])]
      exact skip h
    |tup xs=>
     rw[he]at hr h
     generalize hv:a.tmps.getD t undef=v at hr
     cases hr with
     |tup vs xs hs hR=>
      have hy:yielded all.toArray a.tmps j=none:=by
       by_cases hlt:t<a.tmps.size
       ·have:a.tmps[t]?=some (.tuple vs):=by
         simp[Array.getD,hlt]at hv
         simp[hlt,hv]
        simp[yielded,hd,this]
       ·simp[yielded,hd,hlt]
      rw[if_neg (by simp[Region.wanted,hg,hy])]
      exact skip h
    |_=>rw[he]at h;exact h.elim
theorem mY {all:List Oper}{K:Env->St->Prop}{E:VV->Env->St->Prop}{Q:Pst}(hK:∀env s,K env s->Q .norm env s)(hE:∀x env s,E x env s->Q (.panic x) env s) :
  ∀(f:Nat) (listed:Array Bool) (env:Env) (s:St),CG P N all K E f listed env s->∀(w0:World) (G:Gh) (w:World) (a:Act),FR N G a.tmps env->a.defers=D->Sim w0 G w s ->
   wpAny P .any all.toArray (Up N w0 G D Q) f listed a w
 |0,_,env,s,h,w0,G,w,a,hf,hD,hS=>⟨h.1,G,.norm,env,s,Gh.le.refl G,trivial,hf,hD,hS,hK _ _ h.2⟩
 |f+1,listed,env,s,h,w0,G,w,a,hf,hD,hS=>
  ⟨fun e=>⟨G,.norm,env,s,Gh.le.refl G,trivial,hf,hD,hS,hK _ _ (h.1 e)⟩,fun i hi=>
   uc hE hf hD hS (fun G' env' s' a' w' hG hf' hD' hS' hk=>lG (fun e a w=>Up.back hG) f _ _ _ (mY hK hE f _ env' s' hk w0 G' w' a' hf' hD' hS')) (h.2 i hi)⟩
theorem MS {k:List Itm}{Q:Pst}{env:Env}{s:St}{id:Nat}{ops:List Oper}(hm:P.follows .mixedOrders=true)
  (h:∀(K:Env->St->Prop) (E:VV->Env->St->Prop),(∀env s,Kp P N D k Q .norm env s->K env s)->(∀x env s,Q (.panic x) env s->E x env s)->CG P N ops K E ops.length (Array.replicate ops.length false) env s) :
  Kp P N D (.code (.region id ops.toArray true)::k) Q .norm env s:=by
 intro w0 G w a hf hD hS
 refine wp_region_any hm ?_
 have:=h (fun env s=>Kp P N D k Q .norm env s) (fun x env s=>Q (.panic x) env s) (fun _ _ h=>h) (fun _ _ _ h=>h)
 exact mY (Q:=Kp P N D k Q) (fun _ _ h=>h) (fun x env s h=>by rw[iz];exact h) _ _ env s this w0 G _ a hf hD ⟨⟨hS.below.os,hS.below.tape,hS.below.output,hS.below.size,hS.below.block⟩,hS.K,hS.cap,hS.ok,hS.gl,hS.rows⟩
end
theorem lH {P:Program}{N:Nat}{E E':VV->Env->St->Prop}{o:Oper}{rest rest':Env->St->Prop}{env env':Env}{s:St}(hx:∀x∈o.op.operands.toList,rd env' x=rd env x)
  (hr:∀y s',rest (put N env o.dst y) s'->rest' (put N env' o.dst y) s') (hE:∀x s,E x env s->E' x env' s) (h:aP P N E o rest env s):aP P N E' o rest' env' s:=by
 have ob:∀{α:Type} {f g:α->Prop} {x:Option α},(∀y,f y->g y)->dS f x->dS g x:=by
  intro α f g x hfg hx
  cases x with
  |none=>exact hx
  |some y=>exact hfg y hx
 obtain⟨d,op,ty,p,af,g⟩:=o
 simp only at hx hr
 unfold aP at h ⊢
 cases op<;>simp only[Op.operands]at hx<;>simp only at h ⊢
 all_goals(try exact h.elim)
 all_goals(try simp only[AT,List.not_mem_nil,or_false,forall_eq_or_imp,forall_eq,Option.toArray,Array.toList_append,List.cons_append,List.nil_append]at hx)
 case move=>rw[hx];exact hr _ _ h
 case assign=>rw[hx];exact hr _ _ h
 case pick=>
  simp only[hx]
  split at h
  ·exact hr _ _ h
  ·exact h.elim
 case alloc=>exact⟨h.1,fun b hb=>hr _ _ (h.2 b hb)⟩
 case box=>simp only[hx];exact⟨h.1,fun b hb=>hr _ _ (h.2 b hb)⟩
 case build T parts=>
  have e:(parts.toList.map fun p=>(p.1,rd env' p.2))=parts.toList.map fun p=>(p.1,rd env p.2):=
   List.map_congr_left fun p hp=>by rw[hx p.2 (List.mem_map_of_mem hp)]
  rw[e]
  exact⟨h.1,h.2.1,ob (fun _=>hr _ _) h.2.2⟩
 case buildSlice T n parts=>
  have e:(parts.toList.map fun p=>(p.1,rd env' p.2))=parts.toList.map fun p=>(p.1,rd env p.2):=
   List.map_congr_left fun p hp=>by rw[hx p.2 (List.mem_map_of_mem hp)]
  rw[e]
  exact⟨h.1,h.2.1,h.2.2.1,h.2.2.2.1,ob (fun xs hh=>by
   by_cases hm:s5 T p=true
   ·rw[if_pos hm]at hh ⊢
    exact⟨hh.1,fun b hb=>hr _ _ (hh.2 b hb)⟩
   ·rw[if_neg hm]at hh ⊢
    exact hr _ _ hh) h.2.2.2.2⟩
 case load=>rw[hx];exact ob (fun _=>hr _ _) h
 case store=>rw[hx.1,hx.2];exact ob (fun _=>hr _ _) h
 case nilCheck=>rw[hx];exact⟨h.1,hr _ _ h.2⟩
 case binOp=>
  rw[hx.1,hx.2]
  split at h
  ·exact⟨h.1,ob (fun _=>hr _ _) h.2⟩
  ·split at h
   ·exact⟨h.1,hr _ _ h.2⟩
   ·exact hr _ _ h
   ·exact hr _ _ h
   ·exact h.elim
  ·obtain⟨h1,h2⟩:=h
   refine⟨h1,?_⟩
   split at h2
   ·exact hr _ _ h2
   ·exact hr _ _ h2
   ·exact h2.elim
  ·obtain⟨h1,h2,h3,h4⟩:=h
   refine⟨h1,h2,h3,?_⟩
   split at h4
   ·exact hr _ _ h4
   ·exact hr _ _ h4
   ·exact h4.elim
  ·split at h
   ·exact ob (fun _=>hr _ _) h
   ·exact ob (fun _=>hr _ _) h
   ·exact h.elim
  ·obtain⟨hc,h⟩:=h
   refine⟨hc,?_⟩
   split at h
   ·exact ob (fun _=>hr _ _) h
   ·exact ob (fun _=>hr _ _) h
   ·exact h.elim
 case typeAssert=>
  rw[hx]
  refine⟨h.1,h.2.1,?_⟩
  have h2:=h.2.2
  split at h2
  ·exact⟨h2.1,hr _ _ h2.2⟩
  ·exact h2.elim
 case convert=>rw[hx];exact ob (fun _=>hr _ _) h
 case unOp=>
  rw[hx]
  split at h
  ·exact hr _ _ h
  ·exact hr _ _ h
  ·exact h.elim
 case fieldAddr=>
  rw[hx]
  split at h
  ·exact⟨h.1,hr _ _ h.2⟩
  ·exact hr _ _ h
  ·exact h.elim
 case field=>
  rw[hx]
  split at h
  ·exact ob (fun _=>hr _ _) h
  ·exact h.elim
 case indexAddr=>rw[hx.1,hx.2];exact ob (fun _=>hr _ _) h
 case index=>rw[hx.1,hx.2];exact ob (fun _=>hr _ _) h
 case makeInterface=>rw[hx];exact⟨h.1,hr _ _ h.2⟩
 case extract=>
  rw[hx]
  split at h
  ·exact ob (fun _=>hr _ _) h
  ·exact h.elim
 case panic=>
  rw[hx]
  split at h
  ·exact hE _ _ h
  ·exact h.elim
 case lookup=>rw[hx.1,hx.2];exact ob (fun _=>hr _ _) h
 case mapUpdate=>rw[hx.1,hx.2.1,hx.2.2];exact ob (fun _=>hr _ _) h
 case slice T x lo hi mx=>
  obtain⟨hx0,hx1⟩:=hx
  have hlo:lo.map (rd env')=lo.map (rd env):=by
   cases lo with
   |none=>rfl
   |some y=>simp only[Option.map_some];rw[hx1 y (by simp)]
  have hhi:hi.map (rd env')=hi.map (rd env):=by
   cases hi with
   |none=>rfl
   |some y=>simp only[Option.map_some];rw[hx1 y (by simp)]
  rw[hx0,hlo,hhi]
  exact⟨h.1,ob (fun _=>hr _ _) h.2⟩
 case makeSlice T l c=>
  rw[hx.1,hx.2]
  split at h
  ·obtain⟨h1,h2,h3,h4,h5,h6,h7⟩:=h
   exact⟨h1,h2,h3,h4,h5,h6,fun b hb=>hr _ _ (h7 b hb)⟩
  ·obtain⟨h1,h2,h3,h4,h5,h6,h7⟩:=h
   exact⟨h1,h2,h3,h4,h5,h6,fun b hb=>hr _ _ (h7 b hb)⟩
  ·exact h.elim
 case makeMap T r=>
  cases r with
  |none=>exact fun b hb=>hr _ _ (h b hb)
  |some r=>exact h.elim
 case makeFunc fn fs caps=>
  cases fn with
  |func f=>
   simp only at h ⊢
   have e:caps.toList.map (rd env')=caps.toList.map (rd env):=List.map_congr_left fun p hp=>hx p (List.mem_append_right _ hp)
   rw[e]
   exact⟨h.1,hr _ _ h.2⟩
  |_=>exact h.elim
 case call c=>
  have ea:c.args.toList.map (rd env')=c.args.toList.map (rd env):=List.map_congr_left fun p hp=>hx p (by simp[Call.operands];exact .inr (by simpa using hp))
  have ha:∀x∈c.args.toList,rd env' x=rd env x:=fun p hp=>hx p (by simp[Call.operands];exact .inr (by simpa using hp))
  cases hc:c.callee with
  |value f=>
   rw[hc]at h
   simp only at h ⊢
   rw[hx f (by simp[Call.operands,hc]),ea]
   obtain⟨g,caps,Q,h1,h2,h3,h4⟩:=h
   exact⟨g,caps,Q,h1,h2,fun x s' q=>hr _ _ (h3 x s' q),fun x s' q=>hE _ _ (h4 x s' q)⟩
  |invoke r m=>rw[hc]at h;exact h.elim
  |builtin b=>
   rw[hc]at h
   cases b with
   |len=>
    simp only at h ⊢
    split at h
    ·rename_i x T he hT
     rw[ha x (by rw[he];simp)]
     exact ob (fun _=>hr _ _) h
    ·exact h.elim
   |min=>
    simp only at h ⊢
    split at h
    ·rename_i x y he
     rw[ha x (by rw[he];simp),ha y (by rw[he];simp)]
     exact ob (fun _=>hr _ _) h
    ·exact h.elim
   |max=>
    simp only at h ⊢
    split at h
    ·rename_i x y he
     rw[ha x (by rw[he];simp),ha y (by rw[he];simp)]
     exact ob (fun _=>hr _ _) h
    ·exact h.elim
   |append=>
    simp only at h ⊢
    split at h
    ·rename_i x y T T' he hT
     rw[ha x (by rw[he];simp),ha y (by rw[he];simp)]
     refine⟨h.1,?_⟩
     have h2:=h.2
     split at h2
     ·obtain⟨a0,a1,a2,a3,a4,a5⟩:=h2
      refine⟨a0,a1,a2,a3,a4,?_⟩
      split at a5
      ·exact a5
      ·exact⟨a5.1,fun e=>hr _ _ (a5.2.1 e),fun e b hb=>hr _ _ (a5.2.2 e b hb)⟩
      ·exact⟨a5.1,fun b hb=>hr _ _ (a5.2 b hb)⟩
     ·obtain⟨a0,a1,a2,a3,a4,a5,a6,a7,a8⟩:=h2
      exact⟨a0,a1,a2,a3,a4,a5,a6,a7,fun b' hb'=>hr _ _ (a8 b' hb')⟩
     ·obtain⟨a0,a1,a2,a3,a4,a5,a6⟩:=h2
      exact⟨a0,a1,a2,a3,a4,a5,fun b' hb'=>hr _ _ (a6 b' hb')⟩
     ·obtain⟨a0,a1,a2,a3,a4,a5⟩:=h2
      refine⟨a0,a1,a2,a3,a4,?_⟩
      split at a5
      ·exact a5
      ·exact⟨a5.1,fun e=>hr _ _ (a5.2.1 e),fun e b hb=>hr _ _ (a5.2.2 e b hb)⟩
      ·exact⟨a5.1,fun b hb=>hr _ _ (a5.2 b hb)⟩
     ·exact h2.elim
    ·exact h.elim
   |_=>exact h.elim
def F0:VV->Env->St->Prop:=fun _ _ _=>False
theorem D3 {N:Nat}{env env':Env}{d:Option Tmp}{y z:VV}(h:put N env d y=put N env d z):put N env' d y=put N env' d z:=by
 cases d with
 |none=>rfl
 |some t=>
  simp only[put]at h ⊢
  split at h
  ·rename_i ht
   have:=congrFun h t
   simp only[upd,if_true]at this
   rw[this]
  ·rename_i ht;simp only[ht,if_false]
theorem re {N:Nat}{env:Env}{dst:Option Tmp}{u:VV}{x:Operand}(h:∀d,dst=some d->x≠.tmp d):rd (put N env dst u) x=rd env x:=by
 cases dst with
 |none=>rfl
 |some t=>
  cases x with
  |tmp t'=>
   have:t'≠t:=fun e=>h t rfl (by rw[e])
   simp only[rd,put]
   split
   ·simp[upd,this]
   ·rfl
  |_=>rfl
theorem AA {N:Nat}{env:Env}{d d':Option Tmp}{y u:VV}(h:∀t,d=some t->d'≠some t):put N (put N env d y) d' u=put N (put N env d' u) d y:=by
 cases d with
 |none=>rfl
 |some t=>
  cases d' with
  |none=>rfl
  |some t'=>
   have hne:t≠t':=fun e=>h t rfl (by rw[e])
   simp only[put]
   split<;>split<;>try rfl
   funext x
   simp only[upd]
   by_cases h1:x=t
   ·subst h1;simp[hne]
   ·simp[h1]
section
variable {P : Program} {N : Nat} {all : List Oper} {s : St}
def YV (P:Program)(N:Nat)(all:List Oper)(s:St)(o:Oper)(y:VV)(env:Env):Prop:=∀K:Env->St->Prop,K (put N env o.dst y) s->gV P N all F0 o K env s
theorem d8 {E E':VV->Env->St->Prop}{o:Oper}{K K':Env->St->Prop}{env env':Env}(hx:∀x∈o.op.operands.toList,rd env' x=rd env x)(hg:∀j b,o.guard=some (j,b)->yv all env' j=yv all env j)
  (hr:∀y s',K (put N env o.dst y) s'->K' (put N env' o.dst y) s') (hE:∀x s,E x env s->E' x env' s) (h:gV P N all E o K env s):gV P N all E' o K' env' s:=by
 unfold gV at h ⊢
 cases ho:o.guard with
 |none=>rw[ho]at h;exact lH hx hr hE h
 |some g=>
  obtain⟨j,b⟩:=g
  rw[ho]at h
  simp only at h ⊢
  rw[hg j b ho]
  unfold gU at h ⊢
  split at h
  ·split at h
   ·rename_i hb;rw[if_pos hb];exact lH hx hr hE h
   ·rename_i hb;rw[if_neg hb];exact hr _ _ h
  ·exact hr _ _ h
  ·exact h.elim
theorem Fd {o:Oper}{y:VV}{env env':Env}(hx:∀x∈o.op.operands.toList,rd env' x=rd env x)(hg:∀j b,o.guard=some (j,b)->yv all env' j=yv all env j)
  (h:YV P N all s o y env):YV P N all s o y env':=fun K hK=>
 d8 hx hg (K:=fun e s'=>∃z,e=put N env o.dst z/\K (put N env' o.dst z) s') (fun z s' ⟨z',e,hk⟩=>by rw[D3 e];exact hk) (fun _ _ h=>h) (h _ ⟨y,rfl,hK⟩)
theorem BW {N:Nat}{all:List Oper}{o:Oper}{u:VV}{env:Env}{dst:Option Tmp}(hd:∀d,dst=some d->d∉o.looksAt all.toArray) :
  (∀x∈o.op.operands.toList,rd (put N env dst u) x=rd env x)/\(∀j b,o.guard=some (j,b)->yv all (put N env dst u) j=yv all env j):=by
 constructor
 ·intro x hx
  refine re fun d hd' hxd=>hd d hd' ?_
  subst hxd
  exact List.mem_append_left _ (List.mem_filterMap.2 ⟨.tmp d,by simpa using hx,rfl⟩)
 ·intro j b hg
  unfold yv
  cases hj:(all[j]?).bind (·.dst)with
  |none=>rfl
  |some t=>
   simp only
   have:rd (put N env dst u) (.tmp t)=rd env (.tmp t):=re fun d hd' hxd=>hd d hd' (by
    injection hxd with hxd
    subst hxd
    refine List.mem_append_right _ ?_
    simp[hg,hj])
   exact this
theorem pJ {E:VV->Env->St->Prop}{i:Nat}{K K':Env->St->Prop}{env:Env}{s:St}(h:∀e s,K e s->K' e s)(hh:lY P N all E i K env s):lY P N all E i K' env s:=by
 unfold lY at *
 cases ho:all[i]? with
 |none=>rw[ho]at hh;exact h _ _ hh
 |some o=>
  rw[ho]at hh
  exact d8 (fun _ _=>rfl) (fun _ _ _=>rfl) (fun _ _=>h _ _) (fun _ _ h=>h) hh
end
section
variable {P : Program} {N : Nat} {D : List Deferred}
end
theorem ed {α:Type}:∀{X Y:List α},X.Nodup->(∀x,x∈X->x∈Y)->X.length<=Y.length
 |[],_,_,_=>Nat.zero_le _
 |a::X,Y,hn,hs=>by
  obtain⟨p,q,rfl⟩:=List.append_of_mem (hs a (by simp))
  rw[List.nodup_cons]at hn
  have:=ed (X:=X) (Y:=p++q) hn.2 fun x hx=>by
   have h1:=hs x (by simp[hx])
   rw[f_,AT]at h1
   rw[f_]
   rcases h1 with h1|h1|h1
   ·exact .inl h1
   ·subst h1;exact absurd hx hn.1
   ·exact .inr h1
  simp only[List.length_cons,p_]at this ⊢
  omega
open Classical in
noncomputable def ixN:List Tr->Tr->Nat
 |[],_=>0
 |a::l,t=>if a=t then 0 else ixN l t+1
theorem bS:∀{ns:List Tr} {t:Tr},t∈ns->ns[ixN ns t]?=some t
 |a::l,t,h=>by
  unfold ixN
  split
  ·rename_i e;subst e;rfl
  ·rename_i e
   rcases AT.1 h with h|h
   ·exact absurd h.symm e
   ·simpa using bS h
theorem gD {ns:List Tr}{t:Tr}(h:t∈ns):ixN ns t<ns.length:=(x_.1 (bS h)).1
theorem A8 {ns:List Tr}{t:Tr}{k:Nat}(hn:ns.Nodup)(h:ns[k]?=some t):ixN ns t=k:=
 (List.getElem?_inj (gD (y_ h)) hn).1 ((bS (y_ h)).trans h.symm)
theorem cw {ns:List Tr}{t u:Tr}(ht:t∈ns)(hu:u∈ns)(h:ixN ns t=ixN ns u):t=u:=by
 have a:=bS ht
 rw[h,bS hu]at a
 injection a with a
 exact a.symm
theorem cx:∀{ns m:List Tr} {t:Tr},t∈ns->ixN (ns++m) t=ixN ns t
 |a::l,m,t,h=>by
  simp only[List.cons_append,ixN]
  split
  ·rfl
  ·rename_i e
   rcases AT.1 h with h|h
   ·exact absurd h.symm e
   ·rw[cx h]
theorem iK:∀{ns:List Tr} {t:Tr},t∉ns->ixN (ns++[t]) t=ns.length
 |[],t,_=>by simp[ixN]
 |a::l,t,h=>by
  simp only[List.cons_append,ixN]
  rw[if_neg (fun e=>h (by simp[e])),iK (fun e=>h (by simp[e])),List.length_cons]
structure NsOk (n:Nat) (ns:List Tr):Prop where
 z:ns[0]?=some (.lf false)
 o:ns[1]?=some (.lf true)
 nd:ns.Nodup
 ok:∀t,t∈ns->OkT n 0 t
 ch:∀v l h,.nd v l h∈ns->l∈ns/\h∈ns
theorem NsOk.lf {n:Nat}{ns:List Tr}(h:NsOk n ns)(b:Bool):.lf b∈ns/\ixN ns (.lf b)=if b then 1 else 0:=by
 cases b with
 |false=>exact⟨y_ h.z,A8 h.nd h.z⟩
 |true=>exact⟨y_ h.o,A8 h.nd h.o⟩
theorem NsOk.two {n:Nat}{ns:List Tr}(h:NsOk n ns){v:Nat}{l r:Tr}(hm:.nd v l r∈ns):2<=ixN ns (.nd v l r):=by
 have h1:=bS hm
 rcases Nat.lt_or_ge (ixN ns (.nd v l r)) 2 with hl|hl
 ·rcases(show ixN ns (.nd v l r)=0\/ixN ns (.nd v l r)=1 by omega)with e|e
  ·rw[e,h.z]at h1;cases h1
  ·rw[e,h.o]at h1;cases h1
 ·exact hl
theorem NsOk.new (n:Nat):NsOk n [.lf false,.lf true]:=
 ⟨rfl,rfl,by simp,fun t ht=>by
  simp only[AT,List.not_mem_nil,or_false]at ht
  rcases ht with rfl|rfl<;>trivial,fun v l h hm=>by simp at hm⟩
theorem NsOk.len {n:Nat}{ns:List Tr}(h:NsOk n ns):2<=ns.length:=by
 have:=(x_.1 h.o).1
 omega
theorem NsOk.add {n v:Nat}{ns:List Tr}{l r:Tr}(h:NsOk n ns)(hl:l∈ns)(hr:r∈ns)(hne:l≠r)(hv:v<n)(ol:OkT n (v+1) l)(or_:OkT n (v+1) r)(hn:.nd v l r∉ns):NsOk n (ns++[.nd v l r]):=by
 have h2:=h.len
 refine⟨by rw[g_ (by omega)];exact h.z,by rw[g_ (by omega)];exact h.o,?_,fun t ht=>?_,fun v' l' r' ht=>?_⟩
 ·rw[List.nodup_append]
  exact⟨h.nd,by simp,fun a ha b hb=>by rw[a_]at hb;subst hb;rintro rfl;exact hn ha⟩
 ·rcases f_.1 ht with ht|ht
  ·exact h.ok t ht
  ·rw[a_]at ht;subst ht;exact⟨Nat.zero_le _,hv,hne,ol,or_⟩
 ·rcases f_.1 ht with ht|ht
  ·obtain⟨a,b⟩:=h.ch v' l' r' ht
   exact⟨List.mem_append_left _ a,List.mem_append_left _ b⟩
  ·rw[a_]at ht
   injection ht with h1 h2 h3
   subst h2;subst h3
   exact⟨List.mem_append_left _ hl,List.mem_append_left _ hr⟩
theorem NsOk.subs {n:Nat}{ns:List Tr}(h:NsOk n ns):∀{t u:Tr},t∈ns->u∈aL t->u∈ns
 |.lf _,u,_,hu=>by simp[aL]at hu
 |.nd v l r,u,ht,hu=>by
  obtain⟨hl,hr⟩:=h.ch v l r ht
  simp only[aL,AT,f_]at hu
  rcases hu with rfl|hu|hu
  ·exact ht
  ·exact h.subs hl hu
  ·exact h.subs hr hu
def CntN (ns:List Tr)(N:Nat):Prop:=∃U:List Tr,U.length<=N/\∀t,t∈ns->t∈U
def FitN (ns:List Tr)(R:Tr)(B:Nat):Prop:=∀X:List Tr,X.Nodup->(∀t,t∈X->t∈ns\/t∈aL R)->X.length<=B
structure ExtN (ns ns':List Tr) (R:Tr):Prop where
 pre:∃m,ns'=ns++m
 new:∀t,t∈ns'->t∈ns\/t∈aL R
 mem:R∈ns'
theorem ExtN.sub {ns ns':List Tr}{R t:Tr}(h:ExtN ns ns' R)(ht:t∈ns):t∈ns'/\ixN ns' t=ixN ns t:=by
 obtain⟨m,rfl⟩:=h.pre
 exact⟨List.mem_append_left _ ht,cx ht⟩
theorem ExtN.refl {ns:List Tr}{R:Tr}(h:R∈ns):ExtN ns ns R:=⟨⟨[],by simp⟩,fun t ht=>.inl ht,h⟩
theorem FitN.len {ns:List Tr}{R:Tr}{B:Nat}(h:FitN ns R B)(hn:ns.Nodup):ns.length<=B:=h ns hn fun t ht=>.inl ht
theorem FitN.of {ns:List Tr}{R:Tr}{N m B:Nat}(h:CntN ns N)(hR:SubN R m)(hB:N+m<=B):FitN ns R B:=fun X hX hs=>by
 obtain⟨U,h1,h2⟩:=h
 obtain⟨S,h3,h4⟩:=hR
 have:=ed (Y:=U++S) hX fun x hx=>by
  rw[f_]
  rcases hs x hx with h|h
  ·exact .inl (h2 x h)
  ·exact .inr (h4 x h)
 rw[p_]at this
 omega
theorem CntN.ext {ns ns':List Tr}{R:Tr}{N m:Nat}(h:CntN ns N)(hR:SubN R m)(he:ExtN ns ns' R):CntN ns' (N+m):=by
 obtain⟨U,h1,h2⟩:=h
 obtain⟨S,h3,h4⟩:=hR
 refine⟨U++S,by rw[p_];omega,fun t ht=>?_⟩
 rw[f_]
 rcases he.new t ht with h|h
 ·exact .inl (h2 t h)
 ·exact .inr (h4 t h)
theorem CntN.mono {ns:List Tr}{N N':Nat}(h:CntN ns N)(hN:N<=N'):CntN ns N':=by
 obtain⟨U,h1,h2⟩:=h
 exact⟨U,by omega,h2⟩
noncomputable def keyN (ns:List Tr)(v:Nat)(l h:Tr):K3:=((v:Int),(ixN ns l:Int),(ixN ns h:Int))
structure TabN (hs:K3->Nat) (ps:List Pl) (ns:List Tr):Prop where
 ok:TabOk hs ps
 fwd:∀(i:Nat) (key:K3) (x:Int),ps[i]?=some (.fl key x)->∃v l h,.nd v l h∈ns/\key=keyN ns v l h/\x=(ixN ns (.nd v l h):Int)
 bwd:∀v l h,.nd v l h∈ns->∃i:Nat,ps[i]?=some (.fl (keyN ns v l h) (ixN ns (.nd v l h):Int))
theorem td {n:Nat}{ns:List Tr}(h:NsOk n ns){v v':Nat}{l r l' r':Tr}(hl:l∈ns)(hr:r∈ns)(hl':l'∈ns)(hr':r'∈ns)(he:keyN ns v l r=keyN ns v' l' r'):v=v'/\l=l'/\r=r':=by
 unfold keyN at he
 injection he with h1 h2
 injection h2 with h2 h3
 exact⟨by omega,cw hl hl' (by omega),cw hr hr' (by omega)⟩
theorem TabN.there {n:Nat}{hs:K3->Nat}{ps:List Pl}{ns:List Tr}(h:TabN hs ps ns){v:Nat}{l r:Tr}(hm:.nd v l r∈ns):∃i:Nat,dY ps (keyN ns v l r) ps.length (hs (keyN ns v l r))=some (i,true)/\ps[i]?=some (.fl (keyN ns v l r) (ixN ns (.nd v l r):Int)):=by
 obtain⟨i,hi⟩:=h.bwd v l r hm
 exact⟨i,h.ok.there hi,hi⟩
theorem TabN.absent {n:Nat}{hs:K3->Nat}{ps:List Pl}{ns:List Tr}(h:TabN hs ps ns)(hN:NsOk n ns){v:Nat}{l r:Tr}(hl:l∈ns)(hr:r∈ns)(hm:.nd v l r∉ns):∀(i:Nat) (x:Int),ps[i]?≠some (.fl (keyN ns v l r) x):=fun i x hi=>by
 obtain⟨v',l',r',h1,h2,_⟩:=h.fwd i _ x hi
 obtain⟨a,b⟩:=hN.ch v' l' r' h1
 obtain⟨rfl,rfl,rfl⟩:=td hN hl hr a b h2
 exact hm h1
theorem TabN.put {n:Nat}{hs:K3->Nat}{ps:List Pl}{ns:List Tr}(h:TabN hs ps ns)(hN:NsOk n ns){v k:Nat}{l r:Tr}(hl:l∈ns)(hr:r∈ns)(hm:.nd v l r∉ns)(hk:ps[k]?=some .em)(hp:pm hs ps (keyN ns v l r) k)(hu:aQ ps+1<ps.length) :
  TabN hs (ps.set k (.fl (keyN ns v l r) (ns.length:Int))) (ns++[.nd v l r]):=by
 have hkl:=(x_.1 hk).1
 have key:∀v' l' r',.nd v' l' r'∈ns->keyN (ns++[.nd v l r]) v' l' r'=keyN ns v' l' r'/\ixN (ns++[.nd v l r]) (.nd v' l' r')=ixN ns (.nd v' l' r'):=fun v' l' r' hm'=>by
  obtain⟨a,b⟩:=hN.ch v' l' r' hm'
  unfold keyN
  rw[cx a,cx b,cx hm']
  exact⟨rfl,rfl⟩
 have keyn:keyN (ns++[.nd v l r]) v l r=keyN ns v l r:=by unfold keyN;rw[cx hl,cx hr]
 refine⟨h.ok.put hk hp (kQ hu),fun i k0 x hi=>?_,fun v' l' r' hm'=>?_⟩
 ·by_cases e:i=k
  ·subst e
   rw[e_ hkl]at hi
   injection hi with hi
   injection hi with hi1 hi2
   exact⟨v,l,r,by simp,by rw[keyn];exact hi1.symm,by rw[iK hm];exact hi2.symm⟩
  ·rw[i_ (Ne.symm e)]at hi
   obtain⟨v',l',r',h1,h2,h3⟩:=h.fwd i k0 x hi
   obtain⟨k1,k2⟩:=key v' l' r' h1
   exact⟨v',l',r',List.mem_append_left _ h1,by rw[k1];exact h2,by rw[k2];exact h3⟩
 ·rcases f_.1 hm' with hm'|hm'
  ·obtain⟨i,hi⟩:=h.bwd v' l' r' hm'
   obtain⟨k1,k2⟩:=key v' l' r' hm'
   refine⟨i,?_⟩
   rw[k1,k2,i_ (by rintro rfl;rw[hk]at hi;cases hi)]
   exact hi
  ·rw[a_]at hm'
   injection hm' with h1 h2 h3
   subst h1;subst h2;subst h3
   exact⟨k,by rw[keyn,iK hm];exact e_ hkl⟩
theorem TabN.grown {hs hs':K3->Nat}{ps ps':List Pl}{ns:List Tr}(h:TabN hs ps ns)(ho:TabOk hs' ps')(he:∀(key:K3) (x:Int),(∃i:Nat,ps'[i]?=some (.fl key x))↔∃i:Nat,ps[i]?=some (.fl key x)):TabN hs' ps' ns:=
 ⟨ho,fun i key x hi=>by
  obtain⟨j,hj⟩:=(he key x).1 ⟨i,hi⟩
  exact h.fwd j key x hj,fun v l r hm=>(he _ _).2 (h.bwd v l r hm)⟩
theorem TabN.new {hs:K3->Nat}{m:Nat}(hst:∀key,hs key<m):TabN hs (List.replicate m Pl.em) [.lf false,.lf true]:=by
 refine⟨.new hst,fun i key x hi=>?_,fun v l h hm=>?_⟩
 ·rw[List.getElem?_replicate]at hi
  split at hi
  ·injection hi with hi
   cases hi
  ·cases hi
 ·simp at hm
def en (g:(Nat->Bool)->Bool):List Nat->(Nat->Bool)->Nat
 |[],x=>if g x=true then 1 else 0
 |v::vs,x=>en g vs (da x v false)+en g vs (da x v true)
theorem yQ {g:(Nat->Bool)->Bool}{a b:List Nat}(h:a.Perm b):∀(x:Nat->Bool),a.Nodup->en g a x=en g b x:=by
 induction h with
 |nil=>intro x _;rfl
 |cons v h ih=>
  intro x hn
  rw[List.nodup_cons]at hn
  simp only[en]
  rw[ih _ hn.2,ih _ hn.2]
 |swap v w l=>
  intro x hn
  simp only[List.nodup_cons,AT,not_or]at hn
  have hne:w≠v:=hn.1.1
  simp only[en]
  rw[iC (b:=false) (c:=false) hne,iC (b:=false) (c:=true) hne,iC (b:=true) (c:=false) hne,iC (b:=true) (c:=true) hne]
  omega
 |trans h1 h2 ih1 ih2=>
  intro x hn
  rw[ih1 x hn,ih2 x (h1.nodup_iff.1 hn)]
def cV:List Nat->Nat->(Nat->Bool)->(Nat->Bool)
 |[],_,x=>x
 |v::vs,m,x=>cV vs (m / 2) (da x v (m % 2 == 1))
theorem cntV_asg {g:(Nat->Bool)->Bool}:∀{vs:List Nat} {x:Nat->Bool},en g vs x=((List.range (2 ^ vs.length)).filter fun m=>g (cV vs m x)).length
 |[],x=>by
  simp only[en,List.length_nil,Nat.pow_zero,cV]
  cases h:g x<;>simp[List.range_succ,h]
 |v::vs,x=>by
  have split:∀n,((List.range (2 * n)).filter fun m=>g (cV (v::vs) m x)).length=((List.range n).filter fun m=>g (cV vs m (da x v false))).length+((List.range n).filter fun m=>g (cV vs m (da x v true))).length:=by
   intro n
   induction n with
   |zero=>rfl
   |succ n ih=>
    have e:2 * (n+1)=2 * n+1+1:=by omega
    have h0:cV (v::vs) (2 * n) x=cV vs n (da x v false):=by
     simp only[cV]
     rw[show 2 * n / 2=n by omega,show 2 * n % 2=0 by omega]
     rfl
    have h1:cV (v::vs) (2 * n+1) x=cV vs n (da x v true):=by
     simp only[cV]
     rw[show (2 * n+1) / 2=n by omega,show (2 * n+1) % 2=1 by omega]
     rfl
    rw[e,List.range_succ,List.range_succ,List.filter_append,List.filter_append,List.range_succ,List.filter_append,List.filter_append,p_,p_,p_,p_,ih]
    simp only[List.filter_cons,List.filter_nil,h0,h1]
    split<;>split<;>simp_all<;>omega
  rw[List.length_cons,Nat.pow_succ,Nat.mul_comm,split,<- cntV_asg,<- cntV_asg]
  rfl
def dm (pos:Nat->Nat)(W:Nat):Tr->Nat
 |.lf _=>W
 |.nd v _ _=>pos v
def dG (pos:Nat->Nat)(W:Nat):Tr->Nat
 |.lf b=>if b=true then 1 else 0
 |.nd v l h=>dG pos W l * 2 ^ (dm pos W l - (pos v+1))+dG pos W h * 2 ^ (dm pos W h - (pos v+1))
def InV (S:List Nat):Tr->Prop
 |.lf _=>True
 |.nd v l h=>v∈S/\InV S l/\InV S h
theorem oQ {g:(Nat->Bool)->Bool}{b:Bool}:∀{vs:List Nat} {x:Nat->Bool},(∀x,g x=b)->en g vs x=if b=true then 2 ^ vs.length else 0
 |[],x,h=>by simp only[en,h];cases b<;>rfl
 |v::vs,x,h=>by
  simp only[en]
  rw[oQ h,oQ h]
  cases b
  ·rfl
  ·simp only[if_true,List.length_cons,Nat.pow_succ];omega
def Fe (S:List Nat):Prop:=S.Pairwise (·<·)
theorem rC {n:Nat}{pos:Nat->Nat}{W:Nat}:∀(S:List Nat) {p m:Nat} {t:Tr} {x:Nat->Bool},OkT n m t->Fe S->(∀i v,S[i]?=some v->pos v=p+i)->p+S.length=W->InV S t->en (evT t) S x=dG pos W t * 2 ^ (dm pos W t - p)
 |[],p,m,.lf b,x,_,_,_,hW,_=>by
  simp only[en,evT,dG,dm]
  have:W - p=0:=by simp only[List.length_nil]at hW;omega
  rw[this]
  cases b<;>rfl
 |[],p,m,.nd v l h,x,_,_,_,_,hI=>by simp[InV]at hI
 |s::S,p,m,.lf b,x,_,_,_,hW,_=>by
  rw[oQ (g:=evT (.lf b)) (b:=b) (fun x=>rfl)]
  simp only[dG,dm]
  have:W - p=(s::S).length:=by omega
  rw[this]
  cases b<;>simp
 |s::S,p,m,.nd v l h,x,hO,hS,hp,hW,hI=>by
  have hp0:=hp 0 s rfl
  have hp':∀i v,S[i]?=some v->pos v=(p+1)+i:=fun i v hv=>by
   have:=hp (i+1) v (by simpa using hv)
   omega
  have hW':(p+1)+S.length=W:=by simp only[List.length_cons]at hW;omega
  have hS':Fe S/\∀w,w∈S->s<w:=by
   unfold Fe at hS ⊢
   rw[List.pairwise_cons]at hS
   exact⟨hS.2,hS.1⟩
  have later:∀{t:Tr} {k:Nat},OkT n k t->s<k->InV (s::S) t->InV S t:=by
   intro t
   induction t with
   |lf b=>intro k _ _ _;trivial
   |nd w l h il ih=>
    intro k ⟨h1,h2,h3,h4,h5⟩ hk ⟨i1,i2,i3⟩
    refine⟨?_,il h4 (by omega) i2,ih h5 (by omega) i3⟩
    rcases AT.1 i1 with e|e
    ·omega
    ·exact e
  obtain⟨o1,o2,o3,o4,o5⟩:=hO
  obtain⟨i1,i2,i3⟩:=hI
  rcases AT.1 i1 with e|e
  ·subst e
   have a:=rC (t:=l) (x:=da x v false) S o4 hS'.1 hp' hW' (later o4 (by omega) i2)
   have b:=rC (t:=h) (x:=da x v true) S o5 hS'.1 hp' hW' (later o5 (by omega) i3)
   have ea:en (evT (.nd v l h)) S (da x v false)=en (evT l) S (da x v false):=cntV_congr fun y hy=>by
    simp only[evT]
    rw[hy v (fun h=>absurd (hS'.2 v h) (by omega)),bL]
    simp
   have eb:en (evT (.nd v l h)) S (da x v true)=en (evT h) S (da x v true):=cntV_congr fun y hy=>by
    simp only[evT]
    rw[hy v (fun h=>absurd (hS'.2 v h) (by omega)),bL]
    simp
   simp only[en]
   rw[ea,eb,a,b]
   simp only[dG,dm]
   have:pos v - p=0:=by omega
   rw[this,Nat.pow_zero,Nat.mul_one]
   have e2:pos v+1=p+1:=by omega
   rw[e2]
  ·have hI':InV S (.nd v l h):=⟨e,later o4 (by have:=hS'.2 v e;omega) i2,later o5 (by have:=hS'.2 v e;omega) i3⟩
   have a:=fun x=>rC (t:=.nd v l h) (x:=x) S ⟨o1,o2,o3,o4,o5⟩ hS'.1 hp' hW' hI'
   simp only[en]
   rw[a,a]
   have hlev:p+1<=dm pos W (.nd v l h):=by
    obtain⟨i,hi⟩:=d_.1 e
    have:=hp' i v hi
    simp only[dm];omega
   have:dm pos W (.nd v l h) - p=(dm pos W (.nd v l h) - (p+1))+1:=by omega
   rw[this,Nat.pow_succ,<- Nat.mul_assoc]
   omega
where
 cntV_congr {g g':(Nat->Bool)->Bool}:∀{S:List Nat} {x:Nat->Bool},(∀y,(∀v,v∉S->y v=x v)->g y=g' y)->en g S x=en g' S x
  |[],x,h=>by simp only[en];rw[h x fun _ _=>rfl]
  |s::S,x,h=>by
   simp only[en]
   have k:∀b,en g S (da x s b)=en g' S (da x s b):=fun b=>cntV_congr fun y hy=>h y fun v hv=>by
    rw[AT,not_or]at hv
    rw[hy v hv.2,cN hv.1]
   rw[k,k]
end Go.Proofs.YtohnaepcgnbaiaaGreatDoor
