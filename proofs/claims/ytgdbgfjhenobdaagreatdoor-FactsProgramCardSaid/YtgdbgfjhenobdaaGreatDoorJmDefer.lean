/- Walks of functions that the claim reaches, and plain facts of them. Conditions: those in the statements. -/
import Derived.Test.YtgdbgfjhenobdaaGreatDoorJmSoundFj
import Derived.Defers
import Derived.Recover
set_option linter.unusedSimpArgs false
set_option linter.unusedVariables false
namespace Go.Proofs.YtgdbgfjhenobdaaGreatDoor
open Go.RowKit
section
variable {P : Program} {N : Nat} {D : List Deferred}
def nest:List Code→Code→Code
 |[],y=>y
 |x::l,y=>.seq x (nest l y)
theorem wp_nest {y:Code}{Q:Pst}{R:Exit→Act→World→Prop}{w0:World}:∀(l:List Code) (env:Env) (s:St) (G:Gh) (w:World) (a:Act),
  Kp P N D (l.map .code) Q .norm env s→FR N G a.tmps env→a.defers=D→Sim w0 G w s →
  (∀(G':Gh) (env':Env) (s':St) (a':Act) (w':World),G.le G'→FR N G' a'.tmps env'→a'.defers=D→Sim w0 G' w' s'→Q .norm env' s'→y.wp P R a' w') →
  (∀(e:Exit) (f:Fin') (G':Gh) (env':Env) (s':St) (a':Act) (w':World),f≠.norm→G.le G'→RX G' e f→FR N G' a'.tmps env'→a'.defers=D→Sim w0 G' w' s'→Q f env' s'→R e a' w') →
  (nest l y).wp P R a w
 |[],env,s,G,w,a,h,hf,hD,hS,hy,hx=>hy G env s a w (Gh.le.refl G) hf hD hS h
 |x::l,env,s,G,w,a,h,hf,hD,hS,hy,hx=>by
  refine wp_seq (wp_mono (h w0 G w a hf hD hS) ?_)
  rintro e a' w' ⟨G',f,env',s',hG,hxx,hf',hD',hS',hq⟩
  cases f with
  |norm=>
   cases e<;>first|exact hxx.elim|skip
   exact wp_nest l env' s' G' w' a' hq hf' hD' hS' (fun G'' env'' s'' a'' w'' h1=>hy G'' env'' s'' a'' w'' (hG.trans h1)) (fun e f G'' env'' s'' a'' w'' hne h1=>hx e f G'' env'' s'' a'' w'' hne (hG.trans h1))
  |ret=>
   cases e<;>first|exact hxx.elim|skip
   exact hx _ .ret G' env' s' a' w' (by simp) hG trivial hf' hD' hS' (by
    have:Kp P N D (l.map .code) Q .ret env' s':=hq
    rwa [Kp_ret]at this)
  |panic v=>
   cases e<;>first|exact hxx.elim|skip
   exact hx _ (.panic v) G' env' s' a' w' (by simp) hG hxx hf' hD' hS' (by
    have:Kp P N D (l.map .code) Q (.panic v) env' s':=hq
    rwa [Kp_panic]at this)
  |exit i=>
   cases e<;>first|exact hxx.elim|skip
   exact hx _ (.exit i) G' env' s' a' w' (by simp) hG hxx hf' hD' hS' (by
    have hh:∀(l:List Code),Kp P N D (l.map .code) Q (.exit i) env' s'=Q (.exit i) env' s':=by
     intro l
     induction l with
     |nil=>rfl
     |cons x l ih=>exact ih
    have:Kp P N D (l.map .code) Q (.exit i) env' s':=hq
    rwa [hh]at this)
def SDef (P:Program)(g:FuncId)(xs:List VV)(s:St)(x:Option VV)(s':St):Prop:=
 ∀(w0:World) (G:Gh) (w:World) (vs:Array Value) (m:FrameMode),Sim w0 G w s→RL G vs xs →
  (match x with|none=>m=.returning|some x=>∃v,m=.panicking [{ v:=v,recovered:=false }]∧R G v x) →
  CallsD P g vs m w fun e u' w'=>(∃v,e=.returned v)∧settle u'=.returning∧∃G',G.le G'∧Sim w0 G' w' s'
def IsDef (G:Gh)(g:FuncId)(xs:List VV)(d:Deferred):Prop:=∃vs,RL G vs xs∧∃cap,d.target=.fn (.func g) cap∧d.args++cap=vs
theorem wp_defer_region {id:Nat}{t:Tmp}{g:FuncId}{caps:Array Operand}{c:Call}{ty ty2:TypeId}{p p2:String}{af af2:Array Edge}{R:Exit→Act→World→Prop}
  {w0:World} {G:Gh} {w:World} {a:Act} {env:Env} {s:St} (hf:FR N G a.tmps env) (hD:a.defers=[]) (hS:Sim w0 G w s) (hc:c.callee=.value (.tmp t)) (ha:c.args=#[]) (ht:t<N)
  (h:∀(G':Gh) (a':Act) (w':World) (d:Deferred),G.le G'→FR N G' a'.tmps (put N env (some t) (.fn g (caps.toList.map (rd env))))→a'.defers=[d]→IsDef G' g (caps.toList.map (rd env)) d→Sim w0 G' w' s→R .normal a' w') :
  (Code.region id #[⟨some t,.makeFunc (.func g) #[] caps,ty,p,af,none⟩,⟨none,.defer c,ty2,p2,af2,none⟩] false).wp P R a w:=by
 refine wp_region_list ?_
 have h1:vstep P N F0 ⟨some t,.makeFunc (.func g) #[] caps,ty,p,af,none⟩ (fun e s'=>e=put N env (some t) (.fn g (caps.toList.map (rd env)))∧s'=s) env s:=⟨rfl,rfl,rfl⟩
 have h2:=step_sound hf hD hS h1
 unfold wpList
 rw[if_pos (by simp[Region.wanted])]
 refine .inl (Oper.wp_mono' ?_ ?_ h2)
 ·rintro a' w' ⟨G',env',s',hG,hf',hD',hS',rfl,rfl⟩
  unfold wpList
  rw[if_pos (by simp[Region.wanted])]
  refine .inl ?_
  have hv:=hf'.rel t
  simp only[put,if_pos ht,upd,if_true]at hv
  generalize hev:a'.tmps.getD t undef=fv at hv
  cases hv with
  |fn g vs xs hs hR=>
   have hex:(execOp a'.eval ⟨none,.defer c,ty2,p2,af2,none⟩).run P w'=.ok (.defer { target:=.fn (.func g) vs,args:=#[] }) w':=by
    unfold execOp
    simp only[resolve,hc,ha,Act.eval,hev,Array.map_empty]
    simp[Deferred.ofValue]
   unfold Oper.wp
   rw[hex,Oper.upon_defer]
   refine h G' _ w' { target:=.fn (.func g) vs,args:=#[] } hG hf' (by simp[Act.put,hD']) ⟨vs,⟨hs,hR⟩,vs,rfl,by simp⟩ hS'
 ·rintro e a' w' ⟨G',env',s',v,x,rfl,hv,hG,hf',hD',hS',hk⟩
  exact hk.elim
def QD (P:Program)(rs:List ResultVar)(g:FuncId)(xs:List VV)(Q:SEnd→St→Prop):Pst:=fun f env s=>
 match f with
 |.norm=>∃s',SDef P g xs s none s'∧Qf P rs Q .ret env s'
 |.ret=>∃s',SDef P g xs s none s'∧Qf P rs Q .ret env s'
 |.panic x=>∃s',SDef P g xs s (some x) s'∧Qf P rs Q .ret env s'
 |.exit _=>False
theorem leaves_of {fn:Func}{w0:World}{G G':Gh}{w:World}{a:Act}{env:Env}{s:St}{g:FuncId}{xs:List VV}{d:Deferred}{Q:SEnd→St→Prop}{m:FrameMode}{x:Option VV}{s':St}
  (hG:G.le G') (hf:FR N G' a.tmps env) (hS:Sim w0 G' w s) (hd:IsDef G' g xs d) (hcall:Callable P g) (hm:m≠.run)
  (hx:match x with|none=>m=.returning|some x=>∃v,m=.panicking [{ v:=v,recovered:=false }]∧R G' v x)
  (h:SDef P g xs s x s') (hq:Qf P fn.results.toList Q .ret env s') :
  Leaves P fn a.tmps (fun e w'=>∃(G':Gh) (s':St) (x:SEnd),G.le G'∧Sim w0 G' w' s'∧RE G' e x∧Q x s') [d] m w:=by
 obtain⟨vs,hvs,cap,ht,ha⟩:=hd
 obtain⟨tg,ar⟩:=d
 simp only at ht ha
 subst ht
 refine leaves_cons hm (f:=g) (args:=vs) ?_ ?_
 ·simp only[invoke]
  rw[ha]
  exact hcall _ _
 ·refine(h w0 G' w vs m hS hvs hx).mono ?_
  rintro e u' w' ⟨⟨v,rfl⟩,hu,G'',hG',hS'⟩
  simp only
  rw[hu]
  obtain⟨z,hz,y,s'',hw,hfg,hq⟩:=hq
  obtain⟨v',hrun,hR⟩:=run_vres (P:=P) (fn:=fn) (hf.mono hG') hS' hz
  exact⟨v',hrun,G'',s'',.ret y,hG.trans hG',hS'.forget hfg,hw _ _ hR,hq⟩
theorem S_enterD {f:FuncId}{fn:Func}{pre:List Code}{rest:Code}{xs:List VV}{s:St}{Q:SEnd→St→Prop}{id:Nat}{t:Tmp}{g:FuncId}{caps:Array Operand}{c:Call}{ty ty2:TypeId}{p p2:String}{af af2:Array Edge}
  (hf:P.funcs[f]?=some fn)
  (hb:fn.body=some (nest pre (.seq (.region id #[⟨some t,.makeFunc (.func g) #[] caps,ty,p,af,none⟩,⟨none,.defer c,ty2,p2,af2,none⟩] false) rest)))
  (hN:fn.ntmps=N) (hl:Nat.ble xs.length N=true) (hcall:Callable P g) (hc:c.callee=.value (.tmp t)) (ha:c.args=#[]) (ht:t<N)
  (h:Kp P N [] (pre.map .code) (fun f env s=>match f with
   |.norm=>∀D,Kp P N D [.code rest] (QD P fn.results.toList g (caps.toList.map (rd env)) Q) .norm (put N env (some t) (.fn g (caps.toList.map (rd env)))) s
   |f=>Qf P fn.results.toList Q f env s) .norm (env0 xs) s):SCalls P f xs s Q:=by
 intro w0 G w vs hS hvs
 subst hN
 have hle:vs.size≤fn.ntmps:=by rw[hvs.1];exact Nat.le_of_ble_eq_true hl
 refine calls_of_wp_defers hf hb ?_
 refine wp_nest (w0:=w0) pre (env0 xs) s G w _ h (FR.start hvs (by omega)) rfl hS ?_ ?_
 ·intro G' env' s' a' w' hG hf' hD' hS' hq
  refine wp_seq (wp_defer_region hf' hD' hS' hc ha ht ?_)
  intro G'' a'' w'' d hG' hf'' hD'' hd hS''
  refine wp_mono (hq [d] w0 G'' w'' a'' hf'' hD'' hS'') ?_
  rintro e a3 w3 ⟨G3,f3,env3,s3,hG3,hx,hf3,hD3,hS3,hq3⟩
  have hd3:IsDef G3 g (caps.toList.map (rd env')) d:=by
   obtain⟨vs,hvs,r⟩:=hd
   exact⟨vs,⟨hvs.1,fun j v y h1 h2=>(hvs.2 j v y h1 h2).mono hG3⟩,r⟩
  have hGG:G.le G3:=(hG.trans hG').trans hG3
  cases f3 with
  |norm=>
   cases e<;>first|exact hx.elim|skip
   obtain⟨s4,h1,h2⟩:=hq3
   show Leaves P fn a3.tmps _ a3.defers .returning w3
   rw[hD3]
   exact leaves_of (x:=none) hGG hf3 hS3 hd3 hcall (by simp) rfl h1 h2
  |ret=>
   cases e<;>first|exact hx.elim|skip
   obtain⟨s4,h1,h2⟩:=hq3
   show Leaves P fn a3.tmps _ a3.defers .returning w3
   rw[hD3]
   exact leaves_of (x:=none) hGG hf3 hS3 hd3 hcall (by simp) rfl h1 h2
  |exit i=>cases e<;>first|exact hx.elim|exact hq3.elim
  |panic x=>
   cases e<;>first|exact hx.elim|skip
   obtain⟨v,rfl,hv⟩:=hx
   obtain⟨s4,h1,h2⟩:=hq3
   show Leaves P fn a3.tmps _ a3.defers (.panicking _) w3
   rw[hD3]
   exact leaves_of (x:=some x) hGG hf3 hS3 hd3 hcall (by simp) ⟨v,rfl,hv⟩ h1 h2
 ·rintro e f' G' env' s' a' w' hne hG hx hf' hD' hS' hq
  cases f' with
  |norm=>exact absurd rfl hne
  |ret=>
   cases e<;>first|exact hx.elim|skip
   obtain⟨z,hz,y,s'',hw,hfg,hq⟩:=hq
   show Leaves P fn a'.tmps _ a'.defers .returning w'
   rw[hD']
   obtain⟨v',hrun,hR⟩:=run_vres (P:=P) (fn:=fn) hf' hS' hz
   exact⟨v',hrun,G',s'',.ret y,hG,hS'.forget hfg,hw _ _ hR,hq⟩
  |exit i=>cases e<;>first|exact hx.elim|exact hq.elim
  |panic x=>
   cases e<;>first|exact hx.elim|skip
   obtain⟨v,rfl,hv⟩:=hx
   obtain⟨s'',hfg,hq⟩:=hq
   show Leaves P fn a'.tmps _ a'.defers (.panicking _) w'
   rw[hD']
   exact⟨G',s'',.panic x,hG,hS'.forget hfg,⟨v,rfl,hv⟩,hq⟩
def recV:Option VV→VV
 |none=>.raw .nilIface
 |some v=>v
theorem SDef_of {g:FuncId}{fn:Func}{id:Nat}{t0 t1:Tmp}{c:Call}{ty ty2:TypeId}{p p2:String}{af af2:Array Edge}{rest:Code}{xs:List VV}{s s':St}{x:Option VV}
  (hf:P.funcs[g]?=some fn) (hb:fn.body=some (.seq (.region id #[⟨some t0,.call c,ty,p,af,none⟩,⟨some t1,.assign (.tmp t0),ty2,p2,af2,none⟩] false) rest))
  (hN:fn.ntmps=N) (hl:Nat.ble xs.length N=true) (hc:c.callee=.builtin .recover) (ha:c.args=#[]) (hres:fn.results=#[])
  (h:Kp P N [] [.code rest] (fun f _ s2=>match f with|.norm=>Fg s2 s'|.ret=>Fg s2 s'|_=>False) .norm (put N (put N (env0 xs) (some t0) (recV x)) (some t1) (put N (env0 xs) (some t0) (recV x) t0)) s):SDef P g xs s x s':=by
 intro w0 G w vs m hS hvs hm
 subst hN
 have hle:vs.size≤fn.ntmps:=by rw[hvs.1];exact Nat.le_of_ble_eq_true hl
 refine callsD_of_wpS hf hb ?_
 intro c₀ cs hmode
 refine wpS_seq (wpS_region ?_)
 have hex:∀(a:Act),(execOp a.eval ⟨some t0,.call c,ty,p,af,none⟩).run P w=.ok .recover w:=by
  intro a
  unfold execOp
  simp only[resolve,hc,ha]
  simp[invoke,builtin]
 have hf0:=FR.start hvs (show fn.ntmps=vs.size+(fn.ntmps - vs.size) by omega)
 have tail:∀(v:Value) (u':FrameMode),R G v (recV x)→settle u'=.returning →
   (Exit.thenS (rest.wpS P (bodyPostS P fn c₀ cs fun e u' w'=>(∃v,e=.returned v)∧settle u'=.returning∧∃G',G.le G'∧Sim w0 G' w' s')) (bodyPostS P fn c₀ cs fun e u' w'=>(∃v,e=.returned v)∧settle u'=.returning∧∃G',G.le G'∧Sim w0 G' w' s'))
    .normal (({ tmps:=vs++Array.replicate (fn.ntmps - vs.size) undef,defers:=[] }:Act).put (some t0) v|>.put (some t1) ((({ tmps:=vs++Array.replicate (fn.ntmps - vs.size) undef,defers:=[] }:Act).put (some t0) v).eval (.tmp t0))) ({ c₀ with mode:=u' }::cs) w:=by
  intro v u' hv hu
  have hf1:=hf0.put (a:={ tmps:=vs++Array.replicate (fn.ntmps - vs.size) undef,defers:=[] }) (some t0) hv
  have hf2:=hf1.put (some t1) (hf1.eval (.tmp t0))
  refine wpS_of_wp (wp_mono (h w0 G w _ hf2 rfl hS) ?_)
  rintro e a w' ⟨G',f,env',s2,hG,hx,hf',hD,hS',hq⟩
  have fin:Fg s2 s'→a.defers=[]∧∃u'',({ c₀ with mode:=u' }:Frame)::cs={ c₀ with mode:=u'' }::cs∧∃v,(results fn a.tmps).run P w'=.ok v w'∧((∃v',Ending.returned v=.returned v')∧settle u''=.returning∧∃G',G.le G'∧Sim w0 G' w' s'):=fun hfg=>
   ⟨hD,u',rfl,.tuple #[],by rw[results_eq];simp[hres],⟨_,rfl⟩,hu,G',hG,hS'.forget hfg⟩
  cases f with
  |norm=>cases e<;>first|exact hx.elim|exact fin hq
  |ret=>cases e<;>first|exact hx.elim|exact fin hq
  |exit i=>cases e<;>first|exact hx.elim|exact hq.elim
  |panic x=>cases e<;>first|exact hx.elim|exact hq.elim
 show wpOpsS P _ _ [0,1] _ _ _
 have step:∀(v:Value) (cs':List Frame),(match recoverD (c₀::cs)with|some (v,cs')=>(v,cs')|none=>(Value.nilIface,c₀::cs))=(v,cs') →
   (Exit.thenS (rest.wpS P (bodyPostS P fn c₀ cs fun e u' w'=>(∃v,e=.returned v)∧settle u'=.returning∧∃G',G.le G'∧Sim w0 G' w' s')) (bodyPostS P fn c₀ cs fun e u' w'=>(∃v,e=.returned v)∧settle u'=.returning∧∃G',G.le G'∧Sim w0 G' w' s'))
    .normal (({ tmps:=vs++Array.replicate (fn.ntmps - vs.size) undef,defers:=[] }:Act).put (some t0) v|>.put (some t1) ((({ tmps:=vs++Array.replicate (fn.ntmps - vs.size) undef,defers:=[] }:Act).put (some t0) v).eval (.tmp t0))) cs' w →
   wpOpsS P #[⟨some t0,.call c,ty,p,af,none⟩,⟨some t1,.assign (.tmp t0),ty2,p2,af2,none⟩] (Exit.thenS (rest.wpS P (bodyPostS P fn c₀ cs fun e u' w'=>(∃v,e=.returned v)∧settle u'=.returning∧∃G',G.le G'∧Sim w0 G' w' s')) (bodyPostS P fn c₀ cs fun e u' w'=>(∃v,e=.returned v)∧settle u'=.returning∧∃G',G.le G'∧Sim w0 G' w' s'))
    [0,1] { tmps:=vs++Array.replicate (fn.ntmps - vs.size) undef,defers:=[] } (c₀::cs) w:=by
  intro v cs' hrec hgo
  unfold wpOpsS
  simp only[List.getElem?_toArray,List.getElem?_cons_zero,Region.wanted,if_true,hex]
  have second:∀(v:Value) (cs':List Frame) (Q:Exit→Act→List Frame→World→Prop),Q .normal (({ tmps:=vs++Array.replicate (fn.ntmps - vs.size) undef,defers:=[] }:Act).put (some t0) v|>.put (some t1) ((({ tmps:=vs++Array.replicate (fn.ntmps - vs.size) undef,defers:=[] }:Act).put (some t0) v).eval (.tmp t0))) cs' w →
    wpOpsS P #[⟨some t0,.call c,ty,p,af,none⟩,⟨some t1,.assign (.tmp t0),ty2,p2,af2,none⟩] Q [1] (({ tmps:=vs++Array.replicate (fn.ntmps - vs.size) undef,defers:=[] }:Act).put (some t0) v) cs' w:=by
   intro v cs' Q hq
   unfold wpOpsS
   simp only[List.getElem?_toArray,List.getElem?_cons_zero,List.getElem?_cons_succ,Region.wanted,if_true]
   exact hq
  cases hr:recoverD (c₀::cs)with
  |none=>
   rw[hr]at hrec
   injection hrec with h1 h2
   subst h1;subst h2
   exact second _ _ _ hgo
  |some q=>
   obtain⟨v',cs''⟩:=q
   rw[hr]at hrec
   injection hrec with h1 h2
   subst h1;subst h2
   exact second _ _ _ hgo
 cases x with
 |none=>
  have hm':c₀.mode=.returning:=hmode.trans hm
  have e0:({ c₀ with mode:=.returning }:Frame)=c₀:=by rw[← hm']
  have:=tail .nilIface .returning (.raw _) rfl
  rw[e0]at this
  exact step _ _ (by simp[recoverD,hm']) this
 |some y=>
  obtain⟨v,hm1,hv⟩:=hm
  have hm':c₀.mode=.panicking [{ v:=v,recovered:=false }]:=hmode.trans hm1
  exact step _ _ (by simp[recoverD,hm']) (tail v (.panicking [{ v:=v,recovered:=true }]) hv rfl)
end
end Go.Proofs.YtgdbgfjhenobdaaGreatDoor
