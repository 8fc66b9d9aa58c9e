/- Walks of functions, and plain facts. Conditions: those in the statements. -/
import Derived.Test.YteldpmgepfaiiaaGreatDoorQsSoundFj
import Derived.StillTail
import Derived.Defers
import Derived.Recover
set_option linter.unusedSimpArgs false
set_option linter.unusedVariables false
namespace Go.Proofs.YteldpmgepfaiiaaGreatDoor
open Go.RowKit
section
variable {P : Program} {N : Nat} {D : List Deferred}
theorem uB {ops:Array Oper}{Q Q':Exit->Act->World->Prop}{i:Nat}{K K':Act->World->Prop}{a:Act}{w:World}(hK:∀a w,K a w->K' a w)(hQ:∀e a w,Q e a w->Q' e a w)(h:wpOp P ops Q i K a w):wpOp P ops Q' i K' a w:=by
 unfold wpOp at h ⊢
 cases ho:ops[i]? with
 |none=>rw[ho]at h;exact hK _ _ h
 |some o=>
  rw[ho]at h
  simp only at h ⊢
  split at h
  ·rename_i hw
   rw[if_pos hw]
   rcases h with h|⟨h1,a',w',h2⟩
   ·exact .inl (Oper.wp_mono' hK hQ h)
   ·exact .inr ⟨h1,a',w',hQ _ _ _ h2⟩
  ·rename_i hw
   rw[if_neg hw]
   exact hK _ _ h
theorem lV {md:Region.Mode}{ops:Array Oper}{Q Q':Exit->Act->World->Prop}(hQ:∀e a w,Q e a w->Q' e a w):∀(f:Nat) (listed:Array Bool) (a:Act) (w:World),wpAny P md ops Q f listed a w->wpAny P md ops Q' f listed a w
 |0,_,_,_,h=>⟨h.1,hQ _ _ _ h.2⟩
 |f+1,_,_,_,h=>⟨fun e=>hQ _ _ _ (h.1 e),fun i hi=>uB (lV hQ f _) hQ (h.2 i hi)⟩
def iJ (P:Program)(N:Nat)(all:List Oper)(E:VV->Env->St->Prop)(o:Oper)(K:Env->St->Prop)(env:Env)(s:St):Prop:=
 match o.guard with
 |none=>bK P N E o K env s
 |some (j,want)=>iI (yv all env j) want (bK P N E o K env s) (wo N o K env s)
def mC (P:Program)(N:Nat)(all:List Oper)(E:VV->Env->St->Prop)(i:Nat)(K:Env->St->Prop)(env:Env)(s:St):Prop:=
 match all[i]? with
 |none=>K env s
 |some o=>iJ P N all E o K env s
def C3 (P:Program)(N:Nat)(all:List Oper)(K:Env->St->Prop)(E:VV->Env->St->Prop):Nat->Array Bool->Env->St->Prop
 |0,listed,env,s=>Region.ready .any all.toArray listed=[]/\K env s
 |f+1,listed,env,s=>(Region.ready .any all.toArray listed=[]->K env s)/\∀i∈Region.ready .any all.toArray listed,mC P N all E i (C3 P N all K E f (listed.setIfInBounds i true)) env s
theorem uE {all:List Oper}{E:VV->Env->St->Prop}{Q:Pst}{i:Nat}{K:Env->St->Prop}{env:Env}{s:St}{w0:World}{G:Gh}{w:World}{a:Act}{K':Act->World->Prop}
  (hE:∀x env s,E x env s->Q (.panic x) env s) (hf:FR N G a.tmps env) (hD:a.defers=D) (hS:Sim w0 G w s)
  (hK:∀(G':Gh) (env':Env) (s':St) (a':Act) (w':World),G.le G'->FR N G' a'.tmps env'->a'.defers=D->Sim w0 G' w' s'->K env' s'->K' a' w')
  (h:mC P N all E i K env s):wpOp P all.toArray (Up N w0 G D Q) i K' a w:=by
 unfold mC at h
 unfold wpOp
 rw[List.getElem?_toArray]
 cases ho:all[i]? with
 |none=>rw[ho]at h;exact hK G env s a w (Gh.le.refl G) hf hD hS h
 |some o=>
  rw[ho]at h
  simp only at h ⊢
  have run:bK P N E o K env s->o.wp P a w K' (Up N w0 G D Q):=by
   intro hst
   refine Oper.wp_mono' ?_ ?_ (nu hf hD hS hst)
   ·rintro a' w' ⟨G',env',s',hG,hf',hD',hS',hk⟩
    exact hK G' env' s' a' w' hG hf' hD' hS' hk
   ·rintro e a' w' ⟨G',env',s',v,x,rfl,hv,hG,hf',hD',hS',hk⟩
    exact⟨G',.panic x,env',s',hG,⟨v,rfl,hv⟩,hf',hD',hS',hE _ _ _ hk⟩
  have skip:wo N o K env s->K' (a.put o.dst undef) w:=by
   intro hsk
   exact hK G _ s _ w (Gh.le.refl G) (hf.put o.dst (.tup _ _ rfl (fun j v y hv=>by simp at hv))) ((fT _ _ _).trans hD) hS hsk
  unfold iJ at h
  cases hg:o.guard with
  |none=>
   rw[if_pos (by simp[Region.wanted,hg])]
   rw[hg]at h
   exact .inl (run h)
  |some g=>
   obtain⟨j,want⟩:=g
   rw[hg]at h
   simp only at h
   unfold yv at h
   cases hd:(all[j]?).bind (·.dst)with
   |none=>
    rw[hd]at h
    rw[if_neg (by simp[Region.wanted,hg,yielded,hd])]
    exact skip h
   |some t=>
    rw[hd]at h
    simp only at h
    have hr:=hf.rel t
    cases he:env t with
    |bool b=>
     rw[he]at hr h
     generalize hv:a.tmps.getD t undef=v at hr
     cases hr
     have hy:yielded all.toArray a.tmps j=some b:=by
      have hlt:t<a.tmps.size:=by
       rcases Nat.lt_or_ge t a.tmps.size with h'|h'
       ·exact h'
       ·simp[Array.getD,Nat.not_lt.2 h',undef]at hv
      have:a.tmps[t]?=some (.bool b):=by
       simp[Array.getD,hlt]at hv
       simp[hlt,hv]
      simp[yielded,hd,this]
     simp only[iI]at h
     by_cases hbw:b=want
     ·rw[if_pos hbw]at h
      rw[if_pos (by simp[Region.wanted,hg,hy,hbw])]
      exact .inl (run h)
     ·rw[if_neg hbw]at h
      rw[if_neg (by simp[Region.wanted,hg,hy,hbw])]
      exact skip h
    |tup xs=>
     rw[he]at hr h
     generalize hv:a.tmps.getD t undef=v at hr
     cases hr with
     |tup vs xs hs hR=>
      have hy:yielded all.toArray a.tmps j=none:=by
       by_cases hlt:t<a.tmps.size
       ·have:a.tmps[t]?=some (.tuple vs):=by
         simp[Array.getD,hlt]at hv
         simp[hlt,hv]
        simp[yielded,hd,this]
       ·simp[yielded,hd,hlt]
      rw[if_neg (by simp[Region.wanted,hg,hy])]
      exact skip h
    |_=>rw[he]at h;exact h.elim
theorem ng {all:List Oper}{K:Env->St->Prop}{E:VV->Env->St->Prop}{Q:Pst}(hK:∀env s,K env s->Q .norm env s)(hE:∀x env s,E x env s->Q (.panic x) env s) :
  ∀(f:Nat) (listed:Array Bool) (env:Env) (s:St),C3 P N all K E f listed env s->∀(w0:World) (G:Gh) (w:World) (a:Act),FR N G a.tmps env->a.defers=D->Sim w0 G w s ->
   wpAny P .any all.toArray (Up N w0 G D Q) f listed a w
 |0,_,env,s,h,w0,G,w,a,hf,hD,hS=>⟨h.1,G,.norm,env,s,Gh.le.refl G,trivial,hf,hD,hS,hK _ _ h.2⟩
 |f+1,listed,env,s,h,w0,G,w,a,hf,hD,hS=>
  ⟨fun e=>⟨G,.norm,env,s,Gh.le.refl G,trivial,hf,hD,hS,hK _ _ (h.1 e)⟩,fun i hi=>
   uE hE hf hD hS (fun G' env' s' a' w' hG hf' hD' hS' hk=>lV (fun e a w=>Up.back hG) f _ _ _ (ng hK hE f _ env' s' hk w0 G' w' a' hf' hD' hS')) (h.2 i hi)⟩
theorem JJ {k:List Itm}{Q:Pst}{env:Env}{s:St}{id:Nat}{ops:List Oper}(hm:P.follows .mixedOrders=true)
  (h:∀(K:Env->St->Prop) (E:VV->Env->St->Prop),(∀env s,Kp P N D k Q .norm env s->K env s)->(∀x env s,Q (.panic x) env s->E x env s)->C3 P N ops K E ops.length (Array.replicate ops.length false) env s) :
  Kp P N D (.code (.region id ops.toArray true)::k) Q .norm env s:=by
 intro w0 G w a hf hD hS
 refine wp_region_any hm ?_
 have:=h (fun env s=>Kp P N D k Q .norm env s) (fun x env s=>Q (.panic x) env s) (fun _ _ h=>h) (fun _ _ _ h=>h)
 exact ng (Q:=Kp P N D k Q) (fun _ _ h=>h) (fun x env s h=>by rw[jl];exact h) _ _ env s this w0 G _ a hf hD ⟨⟨hS.below.os,hS.below.tape,hS.below.output,hS.below.size,hS.below.block⟩,hS.K,hS.cap,hS.ok,hS.gl,hS.rows⟩
end
theorem lW {P:Program}{N:Nat}{E E':VV->Env->St->Prop}{o:Oper}{rest rest':Env->St->Prop}{env env':Env}{s:St}(hx:∀x∈o.op.operands.toList,rd env' x=rd env x)
  (hr:∀y s',rest (put N env o.dst y) s'->rest' (put N env' o.dst y) s') (hE:∀x s,E x env s->E' x env' s) (h:bK P N E o rest env s):bK P N E' o rest' env' s:=by
 have ob:∀{α:Type} {f g:α->Prop} {x:Option α},(∀y,f y->g y)->fk f x->fk g x:=by
  intro α f g x hfg hx
  cases x with
  |none=>exact hx
  |some y=>exact hfg y hx
 obtain⟨d,op,ty,p,af,g⟩:=o
 simp only at hx hr
 unfold bK at h ⊢
 cases op<;>simp only[Op.operands]at hx<;>simp only at h ⊢
 all_goals(try exact h.elim)
 all_goals(try simp only[F_,List.not_mem_nil,or_false,forall_eq_or_imp,forall_eq,Option.toArray,Array.toList_append,List.cons_append,List.nil_append]at hx)
 case move=>rw[hx];exact hr _ _ h
 case assign=>rw[hx];exact hr _ _ h
 case pick=>
  simp only[hx]
  split at h
  ·exact hr _ _ h
  ·exact h.elim
 case alloc=>exact⟨h.1,fun b hb=>hr _ _ (h.2 b hb)⟩
 case box=>simp only[hx];exact⟨h.1,fun b hb=>hr _ _ (h.2 b hb)⟩
 case build T parts=>
  have e:(parts.toList.map fun p=>(p.1,rd env' p.2))=parts.toList.map fun p=>(p.1,rd env p.2):=
   List.map_congr_left fun p hp=>by rw[hx p.2 (List.mem_map_of_mem hp)]
  rw[e]
  exact⟨h.1,h.2.1,ob (fun _=>hr _ _) h.2.2⟩
 case buildSlice T n parts=>
  have e:(parts.toList.map fun p=>(p.1,rd env' p.2))=parts.toList.map fun p=>(p.1,rd env p.2):=
   List.map_congr_left fun p hp=>by rw[hx p.2 (List.mem_map_of_mem hp)]
  rw[e]
  exact⟨h.1,h.2.1,h.2.2.1,h.2.2.2.1,ob (fun _=>hr _ _) h.2.2.2.2⟩
 case load=>rw[hx];exact ob (fun _=>hr _ _) h
 case store=>rw[hx.1,hx.2];exact ob (fun _=>hr _ _) h
 case nilCheck=>rw[hx];exact⟨h.1,hr _ _ h.2⟩
 case binOp=>
  rw[hx.1,hx.2]
  split at h
  ·exact⟨h.1,ob (fun _=>hr _ _) h.2⟩
  ·split at h
   ·exact⟨h.1,hr _ _ h.2⟩
   ·exact hr _ _ h
   ·exact hr _ _ h
   ·exact h.elim
  ·obtain⟨h1,h2⟩:=h
   refine⟨h1,?_⟩
   split at h2
   ·exact hr _ _ h2
   ·exact hr _ _ h2
   ·exact h2.elim
  ·obtain⟨h1,h2,h3,h4⟩:=h
   refine⟨h1,h2,h3,?_⟩
   split at h4
   ·exact hr _ _ h4
   ·exact hr _ _ h4
   ·exact h4.elim
  ·split at h
   ·exact ob (fun _=>hr _ _) h
   ·exact ob (fun _=>hr _ _) h
   ·exact h.elim
  ·obtain⟨hc,h⟩:=h
   refine⟨hc,?_⟩
   split at h
   ·exact ob (fun _=>hr _ _) h
   ·exact ob (fun _=>hr _ _) h
   ·exact h.elim
 case typeAssert=>
  rw[hx]
  refine⟨h.1,h.2.1,?_⟩
  have h2:=h.2.2
  split at h2
  ·exact⟨h2.1,hr _ _ h2.2⟩
  ·exact h2.elim
 case convert=>rw[hx];exact ob (fun _=>hr _ _) h
 case unOp=>
  rw[hx]
  split at h
  ·exact hr _ _ h
  ·exact hr _ _ h
  ·exact h.elim
 case fieldAddr=>
  rw[hx]
  split at h
  ·exact⟨h.1,hr _ _ h.2⟩
  ·exact hr _ _ h
  ·exact h.elim
 case field=>
  rw[hx]
  split at h
  ·exact ob (fun _=>hr _ _) h
  ·exact h.elim
 case indexAddr=>rw[hx.1,hx.2];exact ob (fun _=>hr _ _) h
 case index=>rw[hx.1,hx.2];exact ob (fun _=>hr _ _) h
 case makeInterface=>rw[hx];exact⟨h.1,hr _ _ h.2⟩
 case extract=>
  rw[hx]
  split at h
  ·exact ob (fun _=>hr _ _) h
  ·exact h.elim
 case panic=>
  rw[hx]
  split at h
  ·exact hE _ _ h
  ·exact h.elim
 case lookup=>rw[hx.1,hx.2];exact ob (fun _=>hr _ _) h
 case mapUpdate=>rw[hx.1,hx.2.1,hx.2.2];exact ob (fun _=>hr _ _) h
 case slice T x lo hi mx=>
  obtain⟨hx0,hx1⟩:=hx
  have hlo:lo.map (rd env')=lo.map (rd env):=by
   cases lo with
   |none=>rfl
   |some y=>simp only[Option.map_some];rw[hx1 y (by simp)]
  have hhi:hi.map (rd env')=hi.map (rd env):=by
   cases hi with
   |none=>rfl
   |some y=>simp only[Option.map_some];rw[hx1 y (by simp)]
  rw[hx0,hlo,hhi]
  exact⟨h.1,ob (fun _=>hr _ _) h.2⟩
 case makeSlice T l c=>
  rw[hx.1,hx.2]
  split at h
  ·obtain⟨h1,h2,h3,h4,h5,h6,h7⟩:=h
   exact⟨h1,h2,h3,h4,h5,h6,fun b hb=>hr _ _ (h7 b hb)⟩
  ·exact h.elim
 case makeMap T r=>
  cases r with
  |none=>exact fun b hb=>hr _ _ (h b hb)
  |some r=>exact h.elim
 case makeFunc fn fs caps=>
  cases fn with
  |func f=>
   simp only at h ⊢
   have e:caps.toList.map (rd env')=caps.toList.map (rd env):=List.map_congr_left fun p hp=>hx p (List.mem_append_right _ hp)
   rw[e]
   exact⟨h.1,hr _ _ h.2⟩
  |_=>exact h.elim
 case call c=>
  have ea:c.args.toList.map (rd env')=c.args.toList.map (rd env):=List.map_congr_left fun p hp=>hx p (by simp[Call.operands];exact .inr (by simpa using hp))
  have ha:∀x∈c.args.toList,rd env' x=rd env x:=fun p hp=>hx p (by simp[Call.operands];exact .inr (by simpa using hp))
  cases hc:c.callee with
  |value f=>
   rw[hc]at h
   simp only at h ⊢
   rw[hx f (by simp[Call.operands,hc]),ea]
   obtain⟨g,caps,Q,h1,h2,h3,h4⟩:=h
   exact⟨g,caps,Q,h1,h2,fun x s' q=>hr _ _ (h3 x s' q),fun x s' q=>hE _ _ (h4 x s' q)⟩
  |invoke r m=>rw[hc]at h;exact h.elim
  |builtin b=>
   rw[hc]at h
   cases b with
   |len=>
    simp only at h ⊢
    split at h
    ·rename_i x T he hT
     rw[ha x (by rw[he];simp)]
     exact ob (fun _=>hr _ _) h
    ·exact h.elim
   |min=>
    simp only at h ⊢
    split at h
    ·rename_i x y he
     rw[ha x (by rw[he];simp),ha y (by rw[he];simp)]
     exact ob (fun _=>hr _ _) h
    ·exact h.elim
   |max=>
    simp only at h ⊢
    split at h
    ·rename_i x y he
     rw[ha x (by rw[he];simp),ha y (by rw[he];simp)]
     exact ob (fun _=>hr _ _) h
    ·exact h.elim
   |append=>
    simp only at h ⊢
    split at h
    ·rename_i x y T T' he hT
     rw[ha x (by rw[he];simp),ha y (by rw[he];simp)]
     refine⟨h.1,?_⟩
     have h2:=h.2
     split at h2
     ·obtain⟨a0,a1,a2,a3,a4,a5⟩:=h2
      refine⟨a0,a1,a2,a3,a4,?_⟩
      split at a5
      ·exact a5
      ·exact⟨a5.1,fun e=>hr _ _ (a5.2.1 e),fun e b hb=>hr _ _ (a5.2.2 e b hb)⟩
      ·exact⟨a5.1,fun b hb=>hr _ _ (a5.2 b hb)⟩
     ·obtain⟨a0,a1,a2,a3,a4,a5,a6,a7,a8⟩:=h2
      exact⟨a0,a1,a2,a3,a4,a5,a6,a7,fun b' hb'=>hr _ _ (a8 b' hb')⟩
     ·obtain⟨a0,a1,a2,a3,a4,a5,a6⟩:=h2
      exact⟨a0,a1,a2,a3,a4,a5,fun b' hb'=>hr _ _ (a6 b' hb')⟩
     ·obtain⟨a0,a1,a2,a3,a4,a5⟩:=h2
      refine⟨a0,a1,a2,a3,a4,?_⟩
      split at a5
      ·exact a5
      ·exact⟨a5.1,fun e=>hr _ _ (a5.2.1 e),fun e b hb=>hr _ _ (a5.2.2 e b hb)⟩
      ·exact⟨a5.1,fun b hb=>hr _ _ (a5.2 b hb)⟩
     ·exact h2.elim
    ·exact h.elim
   |_=>exact h.elim
def F0:VV->Env->St->Prop:=fun _ _ _=>False
theorem Dv {N:Nat}{env env':Env}{d:Option Tmp}{y z:VV}(h:put N env d y=put N env d z):put N env' d y=put N env' d z:=by
 cases d with
 |none=>rfl
 |some t=>
  simp only[put]at h ⊢
  split at h
  ·rename_i ht
   have:=congrFun h t
   simp only[upd,if_true]at this
   rw[this]
  ·rename_i ht;simp only[ht,if_false]
theorem qR {N:Nat}{env:Env}{dst:Option Tmp}{u:VV}{x:Operand}(h:∀d,dst=some d->x≠.tmp d):rd (put N env dst u) x=rd env x:=by
 cases dst with
 |none=>rfl
 |some t=>
  cases x with
  |tmp t'=>
   have:t'≠t:=fun e=>h t rfl (by rw[e])
   simp only[rd,put]
   split
   ·simp[upd,this]
   ·rfl
  |_=>rfl
theorem A7 {N:Nat}{env:Env}{d d':Option Tmp}{y u:VV}(h:∀t,d=some t->d'≠some t):put N (put N env d y) d' u=put N (put N env d' u) d y:=by
 cases d with
 |none=>rfl
 |some t=>
  cases d' with
  |none=>rfl
  |some t'=>
   have hne:t≠t':=fun e=>h t rfl (by rw[e])
   simp only[put]
   split<;>split<;>try rfl
   funext x
   simp only[upd]
   by_cases h1:x=t
   ·subst h1;simp[hne]
   ·simp[h1]
section
variable {P : Program} {N : Nat} {all : List Oper} {s : St}
def YV (P:Program)(N:Nat)(all:List Oper)(s:St)(o:Oper)(y:VV)(env:Env):Prop:=∀K:Env->St->Prop,K (put N env o.dst y) s->iJ P N all F0 o K env s
theorem fe {E E':VV->Env->St->Prop}{o:Oper}{K K':Env->St->Prop}{env env':Env}(hx:∀x∈o.op.operands.toList,rd env' x=rd env x)(hg:∀j b,o.guard=some (j,b)->yv all env' j=yv all env j)
  (hr:∀y s',K (put N env o.dst y) s'->K' (put N env' o.dst y) s') (hE:∀x s,E x env s->E' x env' s) (h:iJ P N all E o K env s):iJ P N all E' o K' env' s:=by
 unfold iJ at h ⊢
 cases ho:o.guard with
 |none=>rw[ho]at h;exact lW hx hr hE h
 |some g=>
  obtain⟨j,b⟩:=g
  rw[ho]at h
  simp only at h ⊢
  rw[hg j b ho]
  unfold iI at h ⊢
  split at h
  ·split at h
   ·rename_i hb;rw[if_pos hb];exact lW hx hr hE h
   ·rename_i hb;rw[if_neg hb];exact hr _ _ h
  ·exact hr _ _ h
  ·exact h.elim
theorem Et {o:Oper}{y:VV}{env env':Env}(hx:∀x∈o.op.operands.toList,rd env' x=rd env x)(hg:∀j b,o.guard=some (j,b)->yv all env' j=yv all env j)
  (h:YV P N all s o y env):YV P N all s o y env':=fun K hK=>
 fe hx hg (K:=fun e s'=>∃z,e=put N env o.dst z/\K (put N env' o.dst z) s') (fun z s' ⟨z',e,hk⟩=>by rw[Dv e];exact hk) (fun _ _ h=>h) (h _ ⟨y,rfl,hK⟩)
theorem Cs {N:Nat}{all:List Oper}{o:Oper}{u:VV}{env:Env}{dst:Option Tmp}(hd:∀d,dst=some d->d∉o.looksAt all.toArray) :
  (∀x∈o.op.operands.toList,rd (put N env dst u) x=rd env x)/\(∀j b,o.guard=some (j,b)->yv all (put N env dst u) j=yv all env j):=by
 constructor
 ·intro x hx
  refine qR fun d hd' hxd=>hd d hd' ?_
  subst hxd
  exact List.mem_append_left _ (List.mem_filterMap.2 ⟨.tmp d,by simpa using hx,rfl⟩)
 ·intro j b hg
  unfold yv
  cases hj:(all[j]?).bind (·.dst)with
  |none=>rfl
  |some t=>
   simp only
   have:rd (put N env dst u) (.tmp t)=rd env (.tmp t):=qR fun d hd' hxd=>hd d hd' (by
    injection hxd with hxd
    subst hxd
    refine List.mem_append_right _ ?_
    simp[hg,hj])
   exact this
theorem pu {E:VV->Env->St->Prop}{i:Nat}{K K':Env->St->Prop}{env:Env}{s:St}(h:∀e s,K e s->K' e s)(hh:mC P N all E i K env s):mC P N all E i K' env s:=by
 unfold mC at *
 cases ho:all[i]? with
 |none=>rw[ho]at hh;exact h _ _ hh
 |some o=>
  rw[ho]at hh
  exact fe (fun _ _=>rfl) (fun _ _ _=>rfl) (fun _ _=>h _ _) (fun _ _ h=>h) hh
end
section
variable {P : Program} {N : Nat} {D : List Deferred}
end
end Go.Proofs.YteldpmgepfaiiaaGreatDoor
