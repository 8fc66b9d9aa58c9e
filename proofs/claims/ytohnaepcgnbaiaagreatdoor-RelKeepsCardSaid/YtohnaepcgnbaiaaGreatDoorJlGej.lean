/- Walks. Conditions: in the statements. -/
import Derived.Test.YtohnaepcgnbaiaaGreatDoorJlFdj
set_option maxHeartbeats 32000000
set_option linter.unusedSimpArgs false
set_option linter.unusedVariables false
set_option maxRecDepth 100000
namespace Go.Proofs.YtohnaepcgnbaiaaGreatDoor
open Go.RowKit
section
variable {P : Program} {N : Nat} {D : List Deferred}
theorem MD {ops:Array Oper}{Q:Pst}{w0:World}{G G':Gh}(hG:G.le G'):∀(l:List Oper) (a:Act) (w:World),wpList P ops (Up N w0 G' D Q) l a w->wpList P ops (Up N w0 G D Q) l a w:=by
 intro l
 induction l with
 |nil=>exact fun a w h=>Up.back hG h
 |cons o l ihl=>
  intro a w h
  unfold wpList at h ⊢
  split at h
  ·rename_i hw
   rw[if_pos hw]
   rcases h with h|⟨h1,a',w',h2⟩
   ·exact .inl (C_ ihl (fun e a w=>Up.back hG) h)
   ·exact .inr ⟨h1,a',w',Up.back hG h2⟩
  ·rename_i hw
   rw[if_neg hw]
   exact ihl _ _ h
theorem np {all:List Oper}{M:Env->St->Prop}{E:VV->Env->St->Prop}{Q:Pst}(hE:∀x env s,E x env s->Q (.panic x) env s){l2:List Oper} :
  ∀(l1:List Oper) (hg:∀o,o∈l1->o.guard=none) (env:Env) (s:St),aw P N all M E l1 env s->∀(w0:World) (G:Gh) (w:World) (a:Act),FR N G a.tmps env->a.defers=D->Sim w0 G w s ->
   (∀env s,M env s->∀(G':Gh) (w:World) (a:Act),FR N G' a.tmps env->a.defers=D->Sim w0 G' w s->wpList P all.toArray (Up N w0 G' D Q) l2 a w) ->
   wpList P all.toArray (Up N w0 G D Q) (l1++l2) a w
 |[],_,env,s,h,w0,G,w,a,hf,hD,hS,hM=>hM env s h G w a hf hD hS
 |o::l1,hg,env,s,h,w0,G,w,a,hf,hD,hS,hM=>by
  have ih:=np (all:=all) (M:=M) hE (l2:=l2) l1 fun o h=>hg o (List.mem_cons_of_mem _ h)
  have hgo:=hg o (by simp)
  show wpList P all.toArray (Up N w0 G D Q) (o::(l1++l2)) a w
  unfold wpList
  simp only[aw]at h
  rw[hgo]at h
  rw[if_pos (by simp[Region.wanted,hgo])]
  refine .inl (C_ ?_ ?_ (ng hf hD hS h))
  ·rintro a' w' ⟨G',env',s',hG,hf',hD',hS',hk⟩
   exact MD hG _ _ _ (ih env' s' hk w0 G' w' a' hf' hD' hS' hM)
  ·rintro e a' w' ⟨G',env',s',v,x,rfl,hv,hG,hf',hD',hS',hk⟩
   exact⟨G',.panic x,env',s',hG,⟨v,rfl,hv⟩,hf',hD',hS',hE _ _ _ hk⟩
theorem RF {k:List Itm}{Q:Pst}{env:Env}{s:St}{id:Nat}{l1 l2:List Oper}{o:Oper}{M M2:Env->St->Prop}(hg1:∀o,o∈l1->o.guard=none)(hg:o.guard=none)
  (h1:aw P N (l1++o::l2) M (fun x env s=>Kp P N D k Q (.panic x) env s) l1 env s)
  (hraw:∀env s,M env s->∀(w0:World) (G:Gh) (w:World) (a:Act),FR N G a.tmps env->Sim w0 G w s->∃v x w' s',(execOp a.eval o).run P w=.ok (.value v) w'/\R G v x/\Sim w0 G w' s'/\M2 (put N env o.dst x) s')
  (h2:∀env s,M2 env s->aw P N (l1++o::l2) (fun env s=>Kp P N D k Q .norm env s) (fun x env s=>Kp P N D k Q (.panic x) env s) l2 env s) :
  Kp P N D (.code (.region id (l1++o::l2).toArray false)::k) Q .norm env s:=by
 intro w0 G w a hf hD hS
 refine wp_region_list ?_
 refine np (Q:=Kp P N D k Q) (fun x env s h=>h) l1 hg1 env s h1 w0 G w a hf hD hS fun env s hM G' w a hf hD hS=>?_
 obtain⟨v,x,w',s',hrun,hR,hS',hM2⟩:=hraw env s hM w0 G' w a hf hS
 refine my hg hrun ?_
 exact mV (Q:=Kp P N D k Q) (fun env s h=>h) (fun x env s h=>h) l2 _ _ (h2 _ _ hM2) w0 G' w' _ (hf.put o.dst hR) ((dc _ _ _).trans hD) hS'
theorem MA {ops:Array Oper}{Q:Exit->Act->World->Prop}{rest:List Oper}{o:Oper}{a:Act}{w w':World}(hg:o.guard=none)(hd:o.dst=none)(hrun:(execOp a.eval o).run P w=.ok .skip w')(h:wpList P ops Q rest a w'):wpList P ops Q (o::rest) a w:=by
 unfold wpList
 rw[if_pos (by simp[Region.wanted,hg])]
 refine .inl ?_
 unfold Oper.wp
 rw[hrun]
 show wpList P ops Q rest (a.put o.dst undef) w'
 rw[hd]
 exact h
theorem Rj {k:List Itm}{Q:Pst}{env:Env}{s:St}{id:Nat}{l1 l2:List Oper}{o:Oper}{M M2:Env->St->Prop}(hg1:∀o,o∈l1->o.guard=none)(hg:o.guard=none)(hd:o.dst=none)
  (h1:aw P N (l1++o::l2) M (fun x env s=>Kp P N D k Q (.panic x) env s) l1 env s)
  (hraw:∀env s,M env s->∀(w0:World) (G:Gh) (w:World) (a:Act),FR N G a.tmps env->Sim w0 G w s->∃w' s',(execOp a.eval o).run P w=.ok .skip w'/\Sim w0 G w' s'/\M2 env s')
  (h2:∀env s,M2 env s->aw P N (l1++o::l2) (fun env s=>Kp P N D k Q .norm env s) (fun x env s=>Kp P N D k Q (.panic x) env s) l2 env s) :
  Kp P N D (.code (.region id (l1++o::l2).toArray false)::k) Q .norm env s:=by
 intro w0 G w a hf hD hS
 refine wp_region_list ?_
 refine np (Q:=Kp P N D k Q) (fun x env s h=>h) l1 hg1 env s h1 w0 G w a hf hD hS fun env s hM G' w a hf hD hS=>?_
 obtain⟨w',s',hrun,hS',hM2⟩:=hraw env s hM w0 G' w a hf hS
 refine MA hg hd hrun ?_
 exact mV (Q:=Kp P N D k Q) (fun env s h=>h) (fun x env s h=>h) l2 _ _ (h2 _ _ hM2) w0 G' w' _ hf hD hS'
end
theorem q43:(qi Tryz.prog 43).sz=2/\(qi Tryz.prog 43).k.agg=true:=⟨by kernel_rfl,by kernel_rfl⟩
theorem RY {s:St}{b:Nat}{k:PK}(hb:s b=.obj 43 [.int .i64 k.1,.int .i64 k.2]):fJ (qi Tryz.prog 43) (.ptr b 0) s=some (pkV k):=by
 simp only[fJ,hb,q43.1,q43.2]
 rfl
theorem QT {D:List Deferred}{k:List Itm}{Q:Pst}{env:Env}{s:St}{m b:Nat}{key:PK}{l:List (PK×Int)}(h4:env 4=.mp m)(h12:env 12=.ptr b 0)(hm:s m=.map (mpP l))(hb:s b=.obj 43 [.int .i64 key.1,.int .i64 key.2])
  (h:Kp Tryz.prog 162 D k Q .norm (put 162 (put 162 (put 162 (put 162 (put 162 (put 162 (put 162 (put 162 env (some 52) (.mp m)) (some 53) (pkV key)) (some 54) (.tup [.int .i64 ((lkP key l).getD 0),.bool (lkP key l).isSome])) (some 51) (.tup [.int .i64 ((lkP key l).getD 0),.bool (lkP key l).isSome])) (some 55) (.int .i64 ((lkP key l).getD 0))) (some 56) (.bool (lkP key l).isSome)) (some 13) (.int .i64 ((lkP key l).getD 0))) (some 14) (.bool (lkP key l).isSome)) s) :
  Kp Tryz.prog 162 D (.code (Go.Code.region 6 #[(Go.Oper.mk (Option.some 52) (Go.Op.move (Go.Operand.tmp 4)) 187 "quan.go:139" #[] Option.none),(Go.Oper.mk (Option.some 53) (Go.Op.load 43 (Go.Operand.tmp 12)) 43 "quan.go:139" #[] Option.none),(Go.Oper.mk (Option.some 54) (Go.Op.lookup 187 (Go.Operand.tmp 52) (Go.Operand.tmp 53) Bool.true) 84 "quan.go:139" #[(Go.Edge.mk 0 Go.Ground.data),(Go.Edge.mk 1 Go.Ground.data)] Option.none),(Go.Oper.mk (Option.some 51) (Go.Op.move (Go.Operand.tmp 54)) 84 "quan.go:139" #[(Go.Edge.mk 2 Go.Ground.data)] Option.none),(Go.Oper.mk (Option.some 55) (Go.Op.extract (Go.Operand.tmp 51) 0) 3 "quan.go:139" #[(Go.Edge.mk 3 Go.Ground.data)] Option.none),(Go.Oper.mk (Option.some 56) (Go.Op.extract (Go.Operand.tmp 51) 1) 4 "quan.go:139" #[(Go.Edge.mk 3 Go.Ground.data),(Go.Edge.mk 6 (Go.Ground.gcOnly Go.Departure.lateStores))] Option.none),(Go.Oper.mk (Option.some 13) (Go.Op.assign (Go.Operand.tmp 55)) 3 "quan.go:139" #[(Go.Edge.mk 4 Go.Ground.data),(Go.Edge.mk 0 Go.Ground.phase),(Go.Edge.mk 1 Go.Ground.phase),(Go.Edge.mk 2 Go.Ground.phase),(Go.Edge.mk 3 Go.Ground.phase),(Go.Edge.mk 4 Go.Ground.phase),(Go.Edge.mk 5 (Go.Ground.textOnly Go.Departure.lateStores))] Option.none),(Go.Oper.mk (Option.some 14) (Go.Op.assign (Go.Operand.tmp 56)) 4 "quan.go:139" #[(Go.Edge.mk 5 Go.Ground.data),(Go.Edge.mk 6 Go.Ground.chain),(Go.Edge.mk 0 Go.Ground.phase),(Go.Edge.mk 1 Go.Ground.phase),(Go.Edge.mk 2 Go.Ground.phase),(Go.Edge.mk 3 Go.Ground.phase),(Go.Edge.mk 4 Go.Ground.phase),(Go.Edge.mk 5 Go.Ground.phase),(Go.Edge.mk 6 Go.Ground.phase)] Option.none)] Bool.false)::k) Q .norm env s:=by
 refine RF (l1:=[_,_]) (o:=_) (l2:=[_,_,_,_,_]) (M:=fun e s'=>e=put 162 (put 162 env (some 52) (.mp m)) (some 53) (pkV key)/\s'=s) (M2:=fun e s'=>e=put 162 (put 162 (put 162 env (some 52) (.mp m)) (some 53) (pkV key)) (some 54) (.tup [.int .i64 ((lkP key l).getD 0),.bool (lkP key l).isSome])/\s'=s) ?_ rfl ?_ ?_ ?_
 ·intro o ho
  simp at ho
  rcases ho with rfl|rfl<;>rfl
 ·have e12:put 162 env (some 52) (.mp m) 12=.ptr b 0:=by
   simp only[put]
   rw[if_pos (show 52<162 by omega)]
   simp[upd,h12]
  simp only[aw,aP,rd,h4,e12,RY hb,dS]
  exact⟨trivial,trivial⟩
 ·rintro e s' ⟨rfl,rfl⟩ w0 G w a hf hS
  have g52:=hf.rel 52
  have g53:=hf.rel 53
  have e52:put 162 (put 162 env (some 52) (.mp m)) (some 53) (pkV key) 52=.mp m:=by
   simp only[put]
   rw[if_pos (show 53<162 by omega),if_pos (show 52<162 by omega)]
   rfl
  have e53:put 162 (put 162 env (some 52) (.mp m)) (some 53) (pkV key) 53=pkV key:=by
   simp only[put]
   rw[if_pos (show 53<162 by omega)]
   rfl
  rw[e52]at g52
  rw[e53]at g53
  have v52:a.eval (.tmp 52)=.map (some m):=by
   show a.tmps.getD 52 undef=_
   generalize a.tmps.getD 52 undef=v at g52
   cases g52;rfl
  have v53:a.eval (.tmp 53)=.agg #[.int .i64 key.1,.int .i64 key.2]:=Ry g53
  refine⟨.tuple #[.int .i64 ((lkP key l).getD 0),.bool (lkP key l).isSome],.tup [.int .i64 ((lkP key l).getD 0),.bool (lkP key l).isSome],w,s',?_,?_,hS,⟨rfl,rfl⟩⟩
  ·unfold execOp
   simp only[v52,v53,Sem.run_bind,Q5 hS hm key,Result.andThen_ok]
   rfl
  ·exact .tup _ _ rfl fun j v y hv hy=>by
    match j with
    |0=>simp at hv hy;subst hv;subst hy;exact .int _ _
    |1=>simp at hv hy;subst hv;subst hy;exact .bool _
    |j+2=>simp at hv
 ·rintro e s' ⟨rfl,rfl⟩
  have hp:∀(t:Nat) (e:Env) (x:VV),t<162->put 162 e (some t) x t=x:=fun t e x ht=>by
   simp only[put]
   rw[if_pos ht]
   simp[upd]
  have hn:∀(t u:Nat) (e:Env) (x:VV),t<162->u≠t->put 162 e (some t) x u=e u:=fun t u e x ht hu=>by
   simp only[put]
   rw[if_pos ht]
   simp[upd,hu]
  simp only[aw,aP,rd,hp 54 _ _ (by omega),hp 51 _ _ (by omega),hn 55 51 _ _ (by omega) (by omega),hn 13 56 _ _ (by omega) (by omega),hn 56 55 _ _ (by omega) (by omega),hp 55 _ _ (by omega),hp 56 _ _ (by omega),dS]
  exact h
theorem AD {D:List Deferred}{k:List Itm}{Q:Pst}{env:Env}{s:St}{m b:Nat}{key:PK}{x:Int}{l:List (PK×Int)}(h4:env 4=.mp m)(h12:env 12=.ptr b 0)(h29:env 29=.int .i64 x)(hm:s m=.map (mpP l))(hb:s b=.obj 43 [.int .i64 key.1,.int .i64 key.2])
  (h:Kp Tryz.prog 162 D k Q .norm (put 162 (put 162 (put 162 env (some 158) (.mp m)) (some 159) (pkV key)) (some 160) (.int .i64 x)) (s.set m (.map (mpP (ptP key x l))))) :
  Kp Tryz.prog 162 D (.code (Go.Code.region 27 #[(Go.Oper.mk (Option.some 158) (Go.Op.move (Go.Operand.tmp 4)) 187 "quan.go:166" #[] Option.none),(Go.Oper.mk (Option.some 159) (Go.Op.load 43 (Go.Operand.tmp 12)) 43 "quan.go:166" #[] Option.none),(Go.Oper.mk (Option.some 160) (Go.Op.move (Go.Operand.tmp 29)) 3 "quan.go:166" #[] Option.none),(Go.Oper.mk Option.none (Go.Op.mapUpdate 187 (Go.Operand.tmp 158) (Go.Operand.tmp 159) (Go.Operand.tmp 160)) 0 "quan.go:166" #[(Go.Edge.mk 0 Go.Ground.data),(Go.Edge.mk 1 Go.Ground.data),(Go.Edge.mk 2 Go.Ground.data),(Go.Edge.mk 0 Go.Ground.phase),(Go.Edge.mk 1 Go.Ground.phase),(Go.Edge.mk 2 Go.Ground.phase)] Option.none)] Bool.false)::k) Q .norm env s:=by
 refine Rj (l1:=[_,_,_]) (o:=_) (l2:=[]) (M:=fun e s'=>e=put 162 (put 162 (put 162 env (some 158) (.mp m)) (some 159) (pkV key)) (some 160) (.int .i64 x)/\s'=s) (M2:=fun e s'=>e=put 162 (put 162 (put 162 env (some 158) (.mp m)) (some 159) (pkV key)) (some 160) (.int .i64 x)/\s'=s.set m (.map (mpP (ptP key x l)))) ?_ rfl rfl ?_ ?_ ?_
 ·intro o ho
  simp at ho
  rcases ho with rfl|rfl|rfl<;>rfl
 ·have e12:put 162 env (some 158) (.mp m) 12=.ptr b 0:=by
   simp only[put]
   rw[if_pos (show 158<162 by omega)]
   simp[upd,h12]
  have e29:put 162 (put 162 env (some 158) (.mp m)) (some 159) (pkV key) 29=.int .i64 x:=by
   simp only[put]
   rw[if_pos (show 159<162 by omega),if_pos (show 158<162 by omega)]
   simp[upd,h29]
  simp only[aw,aP,rd,h4,e12,RY hb,dS,e29]
  exact⟨trivial,trivial⟩
 ·rintro e s' ⟨rfl,rfl⟩ w0 G w a hf hS
  have hp:∀(t:Nat) (e:Env) (x:VV),t<162->put 162 e (some t) x t=x:=fun t e x ht=>by
   simp only[put]
   rw[if_pos ht]
   simp[upd]
  have hn:∀(t u:Nat) (e:Env) (x:VV),t<162->u≠t->put 162 e (some t) x u=e u:=fun t u e x ht hu=>by
   simp only[put]
   rw[if_pos ht]
   simp[upd,hu]
  have g158:=hf.rel 158
  have g159:=hf.rel 159
  have g160:=hf.rel 160
  rw[hn 160 158 _ _ (by omega) (by omega),hn 159 158 _ _ (by omega) (by omega),hp 158 _ _ (by omega)]at g158
  rw[hn 160 159 _ _ (by omega) (by omega),hp 159 _ _ (by omega)]at g159
  rw[hp 160 _ _ (by omega)]at g160
  have v158:a.eval (.tmp 158)=.map (some m):=by
   show a.tmps.getD 158 undef=_
   generalize a.tmps.getD 158 undef=v at g158
   cases g158;rfl
  have v159:a.eval (.tmp 159)=.agg #[.int .i64 key.1,.int .i64 key.2]:=Ry g159
  have v160:a.eval (.tmp 160)=.int .i64 x:=by
   show a.tmps.getD 160 undef=_
   generalize a.tmps.getD 160 undef=v at g160
   cases g160;rfl
  obtain⟨w',r,hS'⟩:=QZ hS hm key x
  refine⟨w',s'.set m (.map (mpP (ptP key x l))),?_,hS',⟨rfl,rfl⟩⟩
  unfold execOp
  simp only[v158,v159,v160,Sem.run_bind,r,Result.andThen_ok]
  rfl
 ·rintro e s' ⟨rfl,rfl⟩
  exact h
noncomputable def keyP (ns:Td)(a b:Tr):PK:=(((min (ixN ns a) (ixN ns b):Nat):Int),((max (ixN ns a) (ixN ns b):Nat):Int))
def MemoP (n:Nat)(gone:Tg)(ns:Td)(me:List (PK×Int)):Prop:=
 ∀k x,lkP k me=some x->∃a b,a∈ns/\b∈ns/\prT n gone a b∈ns/\k=keyP ns a b/\x=((ixN ns (prT n gone a b):Nat):Int)
theorem MemoP.app {n:Nat}{gone:Tg}{ns ns':Td}{me:List (PK×Int)}(h:MemoP n gone ns me)(hp:∃l,ns'=ns++l):MemoP n gone ns' me:=fun k x hk=>by
 obtain⟨a,b,h1,h2,h3,h4,h5⟩:=h k x hk
 exact⟨a,b,(bn hp h1).1,(bn hp h2).1,(bn hp h3).1,by unfold keyP;rw[(bn hp h1).2,(bn hp h2).2];exact h4,by rw[(bn hp h3).2];exact h5⟩
theorem QO {ns:Td}{a b c d:Tr}(ha:a∈ns)(hb:b∈ns)(hc:c∈ns)(hd:d∈ns)(h:keyP ns a b=keyP ns c d):(a=c/\b=d)\/(a=d/\b=c):=by
 unfold keyP at h
 injection h with h1 h2
 have:(ixN ns a=ixN ns c/\ixN ns b=ixN ns d)\/(ixN ns a=ixN ns d/\ixN ns b=ixN ns c):=by omega
 rcases this with ⟨e,f⟩|⟨e,f⟩
 ·exact .inl ⟨cw ha hc e,cw hb hd f⟩
 ·exact .inr ⟨cw ha hd e,cw hb hc f⟩
theorem QM (a b:Nat):be true (.int .i64 (a:Int)) (.int .i64 (b:Int))=some (.int .i64 ((max a b:Nat):Int)):=by
 have:be true (.int .i64 (a:Int)) (.int .i64 (b:Int))=some (.int .i64 (if (a:Int)<b then b else a)):=by simp[be]
 rw[this]
 congr 2
 split<;>omega
abbrev PrA:=St×OB×Td×List (PK×Int)
structure PrS (q mg m n B:Nat) (vs:TW) (s:St) (K:OB) (ns:Td) (me:List (PK×Int)) (N:Nat):Prop where
 om:OMem s K n B ns
 qo:s q=.obj 126 [.ptr K.o 0,.ptr K.s.p 0]
 go:s mg=.map (mpZ bP (aS vs))
 mo:s m=.map (mpP me)
 mne:mg≠m
 ok:MemoP n (fun v=>decide (v∈vs)) ns me
 cnt:CntN ns N
structure PrR (q mg m n B:Nat) (vs:TW) (s:St) (K:OB) (ns:Td) (N:Nat) (T:Tr) (a:PrA):Prop where
 ps:PrS q mg m n B vs a.1 a.2.1 a.2.2.1 a.2.2.2 N
 pre:∃l,a.2.2.1=ns++l
 mem:T∈a.2.2.1
 k:WKeep s a.1 K a.2.1 m
def PrC (q mg m n B:Nat)(vs:TW)(s:St)(K:OB)(ns:Td)(N:Nat)(a b:Tr):Prop:=
 SCalls Tryz.prog 116 [.ptr q 0,.int .i64 (ixN ns a:Nat),.int .i64 (ixN ns b:Nat),.mp mg,.mp m] s fun w u=>∃z:PrA,w=.ret (.tup [.int .i64 (ixN z.2.2.1 (prT n (fun v=>decide (v∈vs)) a b):Nat),.int .i64 0])/\u=z.1/\PrR q mg m n B vs s K ns N (prT n (fun v=>decide (v∈vs)) a b) z
section
variable {q mg m n B N N' : Nat} {vs : TW} {s : St} {K : OB} {ns : Td} {me : List (PK × Int)} {a b : Tr}
theorem PrS.mono (h:PrS q mg m n B vs s K ns me N)(hN:N<=N'):PrS q mg m n B vs s K ns me N':=⟨h.om,h.qo,h.go,h.mo,h.mne,h.ok,h.cnt.mono hN⟩
theorem PrC.ret (h:PrS q mg m n B vs s K ns me N)(hT:prT n (fun v=>decide (v∈vs)) a b∈ns)
  (w:SRet Tryz.prog 116 [.ptr q 0,.int .i64 (ixN ns a:Nat),.int .i64 (ixN ns b:Nat),.mp mg,.mp m] s (.tup [.int .i64 (ixN ns (prT n (fun v=>decide (v∈vs)) a b):Nat),.int .i64 0]) s):PrC q mg m n B vs s K ns N a b:=by
 refine SCalls.mono (h:=w) ?_
 rintro w u ⟨rfl,rfl⟩
 exact⟨(u,K,ns,me),rfl,rfl,h,⟨[],by simp⟩,hT,.refl _ _ _⟩
theorem Rh (h:PrS q mg m n B vs s K ns me N)(hz:a=.lf false\/b=.lf false):PrC q mg m n B vs s K ns N a b:=by
 have hN:=h.om.st.ok
 have e:prT n (fun v=>decide (v∈vs)) a b=.lf false:=by
  rcases hz with rfl|rfl
  ·exact Qe
  ·exact Rt
 have hi:=hN.lf false
 simp only[Bool.false_eq_true,if_false]at hi
 refine PrC.ret h (by rw[e];exact hi.1) ?_
 rw[e,hi.2]
 have hk:((ixN ns a:Nat):Int)=0\/((ixN ns b:Nat):Int)=0:=by
  rcases hz with rfl|rfl
  ·exact .inl (by rw[hi.2];rfl)
  ·exact .inr (by rw[hi.2];rfl)
 clear hi e hz hN h
 generalize ixN ns a=ka at *
 generalize ixN ns b=kb at *
 by_cases h1:(ka:Int)=0
 ·clear hk
  refine am Tryz.func116 rfl Tryz.ntmps116 rfl fun Q hQ hQe=>?_
  (repeat'(first|refine Ctl ?_|((with_reducible refine k_ hK ?_);clear hK hE K E)|((with_reducible refine bZ (fun h=>?_) (fun h=>?_))<;>(try(exfalso;assumption)))|(((with_reducible refine ab fun K E hK hE=>?_))<;>(try simp(disch:=omega) only[go_sem,seval,h1, *]))))
  all_goals(refine aq Jt hQ ?_)
  all_goals exact⟨_,_,Wk.refl _,Fg.refl _,rfl,rfl⟩
 ·have h2:(kb:Int)=0:=hk.resolve_left h1
  clear hk
  refine am Tryz.func116 rfl Tryz.ntmps116 rfl fun Q hQ hQe=>?_
  (repeat'(first|refine Ctl ?_|((with_reducible refine k_ hK ?_);clear hK hE K E)|((with_reducible refine bZ (fun h=>?_) (fun h=>?_))<;>(try(exfalso;assumption)))|(((with_reducible refine ab fun K E hK hE=>?_))<;>(try simp(disch:=omega) only[go_sem,seval,h1,h2, *]))))
  all_goals(refine aq Jt hQ ?_)
  all_goals exact⟨_,_,Wk.refl _,Fg.refl _,rfl,rfl⟩
theorem Rz (h:PrS q mg m n B vs s K ns me N)(ha:a=.lf true)(hb:b=.lf true):PrC q mg m n B vs s K ns N a b:=by
 have hN:=h.om.st.ok
 have e:prT n (fun v=>decide (v∈vs)) a b=.lf true:=by rw[ha,hb];exact Q9
 have hi:=hN.lf true
 simp only[if_true]at hi
 refine PrC.ret h (by rw[e];exact hi.1) ?_
 rw[e,ha,hb,hi.2]
 clear hi e hN h
 refine am Tryz.func116 rfl Tryz.ntmps116 rfl fun Q hQ hQe=>?_
 (repeat'(first|refine Ctl ?_|((with_reducible refine k_ hK ?_);clear hK hE K E)|((with_reducible refine bZ (fun h=>?_) (fun h=>?_))<;>(try(exfalso;assumption)))|(((with_reducible refine ab fun K E hK hE=>?_))<;>(try simp(disch:=omega) only[go_sem,seval, *]))))
 all_goals(refine aq Jt hQ ?_)
 all_goals exact⟨_,_,Wk.refl _,Fg.refl _,rfl,rfl⟩
theorem RA (h:PrS q mg m n B vs s K ns me N)(ha:a∈ns)(hb:b∈ns)(h0:¬ (a=.lf false\/b=.lf false))(h1:¬ (a=.lf true/\b=.lf true)){x:Int}(hx:lkP (keyP ns a b) me=some x):PrC q mg m n B vs s K ns N a b:=by
 have hN:=h.om.st.ok
 obtain⟨c,d,hc,hd,ht,hk,rfl⟩:=h.ok _ _ hx
 have e:prT n (fun v=>decide (v∈vs)) a b=prT n (fun v=>decide (v∈vs)) c d:=by
  rcases QO ha hb hc hd hk with ⟨rfl,rfl⟩|⟨rfl,rfl⟩
  ·rfl
  ·exact s7
 refine PrC.ret h (by rw[e];exact ht) ?_
 rw[e]
 have hi0:=hN.lf false
 have hi1:=hN.lf true
 simp only[Bool.false_eq_true,if_false,if_true]at hi0 hi1
 have c0:¬ ((ixN ns a:Nat):Int)=0:=fun e=>h0 (.inl (cw ha hi0.1 (by rw[hi0.2];omega)))
 have c1:¬ ((ixN ns b:Nat):Int)=0:=fun e=>h0 (.inr (cw hb hi0.1 (by rw[hi0.2];omega)))
 have c2:¬ (((ixN ns a:Nat):Int)=1/\((ixN ns b:Nat):Int)=1):=fun⟨e,f⟩=>h1 ⟨cw ha hi1.1 (by rw[hi1.2];omega),cw hb hi1.1 (by rw[hi1.2];omega)⟩
 have hm:=h.mo
 unfold keyP at hx
 clear hi0 hi1 e hk hc hd ht h hN ha hb h0 h1
 generalize ixN ns (prT n (fun v=>decide (v∈vs)) c d)=y at *
 generalize ixN ns a=ka at *
 generalize ixN ns b=kb at *
 have hmin:=uZ ka kb
 have hmax:=QM ka kb
 refine am Tryz.func116 rfl Tryz.ntmps116 rfl fun Q hQ hQe=>?_
 (repeat'(first|(with_reducible refine aR 3 ?_)|refine Ctl ?_|((with_reducible refine k_ hK ?_);clear hK hE K E)|((with_reducible refine bZ (fun h=>?_) (fun h=>?_))<;>(try(exfalso;assumption)))|(((with_reducible refine ab fun K E hK hE=>?_))<;>(try simp(disch:=omega) only[go_sem,seval,c0,c1, *]))))
 refine Ci (fun env s'=>s'=s/\env 0=.ptr q 0/\env 1=.int .i64 (ka:Int)/\env 2=.int .i64 (kb:Int)/\env 3=.mp mg/\env 4=.mp m/\env 43=.bool false) (fun KEY=>?_) ?_
 ·by_cases h1:(ka:Int)=1
  ·have h2:¬ (kb:Int)=1:=fun e=>c2 ⟨h1,e⟩
   (repeat'(first|(with_reducible first|refine KEY _ _ ?_|(refine k_ hK ?_;clear hK hE K E))|(((with_reducible first|refine ab fun K E hK hE=>?_|refine iY ?_))<;>(try simp(disch:=omega) only[go_sem,seval,h1,h2, *]))))
   all_goals exact⟨rfl,ac,ac,ac,ac,ac,ac⟩
  ·(repeat'(first|(with_reducible first|refine KEY _ _ ?_|(refine k_ hK ?_;clear hK hE K E))|(((with_reducible first|refine ab fun K E hK hE=>?_|refine iY ?_))<;>(try simp(disch:=omega) only[go_sem,seval,h1, *]))))
   all_goals exact⟨rfl,ac,ac,ac,ac,ac,ac⟩
 rintro env s' ⟨rfl,e0,e1,e2,e3,e4,e43⟩
 clear c2
 have hmf:s' m≠.free:=by rw[hm];simp
 (repeat'(first|(with_reducible refine aR 6 ?_)|refine Ctl ?_|((with_reducible refine k_ hK ?_);clear hK hE K E)|((with_reducible refine bZ (fun h=>?_) (fun h=>?_))<;>(try(exfalso;assumption)))|((first|(with_reducible refine ab fun K E hK hE=>?_)|((with_reducible refine au (fun b hb=>?_));(try(obtain⟨_,_⟩:=nef hb hmf))))<;>(try simp(disch:=omega) only[go_sem,seval,hmin,hmax, *]))))
 unfold bC
 have hbf:s' b=.free:=hb
 refine QT (key:=(((min ka kb:Nat):Int),((max ka kb:Nat):Int))) (ac) (ac) ((j_ _ _ (nef hbf hmf).1).trans hm) (q_ _ _ _) ?_
 rw[hx]
 simp only[go_sem,seval,Option.getD_some,Option.isSome_some]
 (repeat'(first|refine Ctl ?_|((with_reducible refine k_ hK ?_);clear hK hE K E)|((with_reducible refine bZ (fun h=>?_) (fun h=>?_))<;>(try(exfalso;assumption)))|(((with_reducible refine ab fun K E hK hE=>?_))<;>(try simp(disch:=omega) only[go_sem,seval, *]))))
 all_goals(refine aq Jt hQ ?_)
 all_goals exact⟨_,_,Wk.refl _,Fg.setA (Fg.refl _) hbf,rfl,rfl⟩
end
theorem Rm {n j v:Nat}:∀{t:Tr},OkT n j t->v<=aW n t->OkT n v t
 |.lf b,_,_=>trivial
 |.nd w l h,⟨h1,h2,h3,h4,h5⟩,hv=>⟨hv,h2,h3,h4,h5⟩
theorem WKeep.new {s u:St}{K K':OB}{m b:Nat}{x:Cell}(hb:s b=.free)(h:WKeep (s.set b x) u K K' m):WKeep s u K K' m:=by
 refine⟨h.p,h.q,h.o,fun z hz=>?_,fun z hz hn hzm=>?_⟩
 ·rcases h.nw z hz with e|e
  ·exact .inl e
  ·by_cases hzb:z=b
   ·exact .inr (hzb ▸ hb)
   ·exact .inr ((j_ _ _ hzb).symm.trans e)
 ·have hzb:z≠b:=(nef hb hz).1
  have e:=j_ s x hzb
  exact(h.out z (by rw[e];exact hz) hn hzm).trans e
theorem WKeep.trans {a b c:St}{K K' K'':OB}{m:Nat}(h:WKeep a b K K' m)(k:WKeep b c K' K'' m)(hm:b m≠.free):WKeep a c K K'' m:=by
 refine⟨k.p.trans h.p,k.q.trans h.q,k.o.trans h.o,fun z hz=>?_,fun z hz hn hzm=>?_⟩
 ·rcases k.nw z hz with e|e
  ·exact h.nw z e
  ·by_cases h1:K.has z
   ·exact .inl h1
   ·by_cases h2:a z=.free
    ·exact .inr h2
    ·by_cases h3:z=m
     ·exact absurd (h3 ▸ e) hm
     ·have:=h.out z h2 h1 h3
      rw[e]at this
      exact absurd this.symm h2
 ·have h1:=h.out z hz hn hzm
  rw[<- h1]
  refine k.out z (by rw[h1];exact hz) (fun h2=>?_) hzm
  rcases h.nw z h2 with e|e
  ·exact hn e
  ·exact hz e
theorem OKeep.toW {b c:St}{K K':OB}{m:Nat}(k:OKeep b c K K'):WKeep b c K K' m:=⟨k.p,k.q,k.o,k.nw,fun z hz hn _=>k.out z hz hn⟩
section
variable {q mg m n B N N' : Nat} {vs : TW} {s : St} {K : OB} {ns : Td} {me : List (PK × Int)} {a b : Tr}
theorem PrS.kq (h:PrS q mg m n B vs s K ns me N):¬ K.has q:=h.om.types h.qo (by decide) (by decide) (by decide)
theorem PrS.kg (h:PrS q mg m n B vs s K ns me N):¬ K.has mg:=h.om.nomap h.go
theorem PrS.km (h:PrS q mg m n B vs s K ns me N):¬ K.has m:=h.om.nomap h.mo
theorem PrS.qm (h:PrS q mg m n B vs s K ns me N):q≠m:=fun e=>by have:=h.mo;rw[<- e,h.qo]at this;cases this
theorem PrS.mf (h:PrS q mg m n B vs s K ns me N):s m≠.free:=by rw[h.mo];simp
theorem PrS.op (h:PrS q mg m n B vs s K ns me N){T:Tr}{z:gJ}(o:OpT s K n B ns N' T z):PrS q mg m n B vs z.1 z.2.1 z.2.2 me N':=by
 obtain⟨a1,a2,a3,a4,a5⟩:=o
 refine⟨a1,?_,?_,?_,h.mne,h.ok.app a2,a4⟩
 ·rw[a5.out q (by rw[h.qo];simp) h.kq,h.qo,a5.o,a5.p]
 ·rw[a5.out mg (by rw[h.go];simp) h.kg,h.go]
 ·rw[a5.out m h.mf h.km,h.mo]
theorem PrS.new (h:PrS q mg m n B vs s K ns me N){b:Nat}{x:Cell}(hb:s b=.free):PrS q mg m n B vs (s.set b x) K ns me N:=by
 have o:∀z,s z≠.free->(s.set b x) z=s z:=fun z hz=>j_ _ _ (nef hb hz).1
 exact⟨h.om.keep fun z hz=>o z (h.om.live hz),(o q (by rw[h.qo];simp)).trans h.qo,(o mg (by rw[h.go];simp)).trans h.go,(o m h.mf).trans h.mo,h.mne,h.ok,h.cnt⟩
theorem PrS.tell (h:PrS q mg m n B vs s K ns me N)(ha:a∈ns)(hb:b∈ns)(hT:prT n (fun v=>decide (v∈vs)) a b∈ns){k:PK}(hk:k=keyP ns a b){x:Int}(hx:x=((ixN ns (prT n (fun v=>decide (v∈vs)) a b):Nat):Int)) :
  PrS q mg m n B vs (s.set m (.map (mpP (ptP k x me)))) K ns (ptP k x me) N:=by
 refine⟨h.om.keep fun z hz=>j_ _ _ fun e=>h.km (e ▸ hz),(j_ _ _ h.qm).trans h.qo,(j_ _ _ h.mne).trans h.go,q_ _ _ _,h.mne,?_,h.cnt⟩
 intro k' y hk'
 rw[QN]at hk'
 by_cases e:k'=k
 ·rw[if_pos e]at hk'
  injection hk' with hk'
  exact⟨a,b,ha,hb,hT,e.trans hk,hk'.symm.trans hx⟩
 ·rw[if_neg e]at hk'
  exact h.ok _ _ hk'
theorem QP {ns':Td}(hp:∃l,ns'=ns++l)(ha:a∈ns)(hb:b∈ns):keyP ns' a b=keyP ns a b:=by
 unfold keyP
 rw[(bn hp ha).2,(bn hp hb).2]
theorem mG {x y z:Td}(h:∃l,y=x++l)(h2:∃l,z=y++l):∃l,z=x++l:=by
 obtain⟨l,rfl⟩:=h
 obtain⟨r,rfl⟩:=h2
 exact⟨l++r,by simp⟩
theorem PrR.fin {u0 u:St}{K':OB}{ns':Td}{me':List (PK×Int)}{bk:Nat}{c:Cell}(ha:a∈ns)(hb:b∈ns)(hbk:s bk=.free)(h0:u0=s.set bk c)(hp:∃l,ns'=ns++l)(hk:WKeep u0 u K K' m)(h:PrS q mg m n B vs u K' ns' me' N)(hT:prT n (fun v=>decide (v∈vs)) a b∈ns'){k:PK}(hkk:k=keyP ns a b){x:Int}(hx:x=((ixN ns' (prT n (fun v=>decide (v∈vs)) a b):Nat):Int))(hN:N<=N') :
  PrR q mg m n B vs s K ns N' (prT n (fun v=>decide (v∈vs)) a b) (u.set m (.map (mpP (ptP k x me'))),K',ns',ptP k x me'):=by
 subst h0
 exact⟨(h.tell (bn hp ha).1 (bn hp hb).1 hT (hkk.trans (QP hp ha hb).symm) hx).mono hN,hp,hT,(WKeep.new hbk hk).set⟩
end
section
variable {q mg m n B N j c : Nat} {vs S : TW} {s : St} {K : OB} {ns : Td} {me : List (PK × Int)} {a b : Tr}
structure PrStep (q mg m n B:Nat) (vs:TW) (s u0:St) (K:OB) (ns:Td) (me:List (PK×Int)) (N c d:Nat) (bk v:Nat) (a b a0 b0 a1 b1:Tr):Prop where
 ps:PrS q mg m n B vs u0 K ns me N
 mem:(a∈ns/\b∈ns)/\(a0∈ns/\b0∈ns)/\a1∈ns/\b1∈ns
 ok:(OkT n (v+1) a0/\OkT n (v+1) b0)/\OkT n (v+1) a1/\OkT n (v+1) b1
 vn:v<n
 free:s bk=.free
 u:u0=s.set bk (.obj 43 [.int .i64 (keyP ns a b).1,.int .i64 (keyP ns a b).2])
 lo:∀{s:St} {K:OB} {N:Nat} {ns:Td} {me:List (PK×Int)},PrS q mg m n B vs s K ns me N->a0∈ns->b0∈ns->N+c<=B->PrC q mg m n B vs s K ns (N+c) a0 b0
 hi:∀{s:St} {K:OB} {N:Nat} {ns:Td} {me:List (PK×Int)},PrS q mg m n B vs s K ns me N->a1∈ns->b1∈ns->N+c<=B->PrC q mg m n B vs s K ns (N+c) a1 b1
 eq:prT n (fun v=>decide (v∈vs)) a b=exP n (fun v=>decide (v∈vs)) v (prT n (fun v=>decide (v∈vs)) a0 b0) (prT n (fun v=>decide (v∈vs)) a1 b1)
 sub:SubN (prT n (fun v=>decide (v∈vs)) a b) d
 room:N+(c+c+d)<=B
variable {u0 : St} {d bk v : Nat} {a0 b0 a1 b1 : Tr}
structure PrMem (q mg m:Nat) (vs:TW) (K:OB) (bk:Nat) (x:PK) (u:St) (me:List (PK×Int)):Prop where
 qo:u q=.obj 126 [.ptr K.o 0,.ptr K.s.p 0]
 go:u mg=.map (mpZ bP (aS vs))
 mo:u m=.map (mpP me)
 bo:u bk=.obj 43 [.int .i64 x.1,.int .i64 x.2]
theorem PrStep.keyb (h:PrStep q mg m n B vs s u0 K ns me N c d bk v a b a0 b0 a1 b1):u0 bk=.obj 43 [.int .i64 (keyP ns a b).1,.int .i64 (keyP ns a b).2]:=by rw[h.u,q_]
theorem PrStep.memOf (h:PrStep q mg m n B vs s u0 K ns me N c d bk v a b a0 b0 a1 b1){u:St}{K':OB}{ns':Td}{me':List (PK×Int)}{N':Nat}(p:PrS q mg m n B vs u K' ns' me' N')(k:WKeep u0 u K K' m):PrMem q mg m vs K bk (keyP ns a b) u me':=by
 refine⟨?_,p.go,p.mo,?_⟩
 ·rw[<- k.o,<- k.p];exact p.qo
 ·have e:=h.keyb
  exact(k.out bk (by rw[e];simp) (h.ps.om.types e (by decide) (by decide) (by decide)) fun e2=>by rw[e2,h.ps.mo]at e;cases e).trans e
theorem PrStep.memK (h:PrStep q mg m n B vs s u0 K ns me N c d bk v a b a0 b0 a1 b1):PrMem q mg m vs K bk (keyP ns a b) u0 me:=h.memOf h.ps (.refl _ _ _)
theorem PrStep.high (h:PrStep q mg m n B vs s u0 K ns me N c d bk v a b a0 b0 a1 b1){z:PrA}(r:PrR q mg m n B vs u0 K ns (N+c) (prT n (fun v=>decide (v∈vs)) a0 b0) z) :
  SCalls Tryz.prog 116 [.ptr q 0,.int .i64 (ixN ns a1:Nat),.int .i64 (ixN ns b1:Nat),.mp mg,.mp m] z.1 fun w u=>∃y:PrA,w=.ret (.tup [.int .i64 (ixN y.2.2.1 (prT n (fun v=>decide (v∈vs)) a1 b1):Nat),.int .i64 0])/\u=y.1/\PrR q mg m n B vs z.1 z.2.1 z.2.2.1 (N+c+c) (prT n (fun v=>decide (v∈vs)) a1 b1) y:=by
 have w:=h.hi r.ps (bn r.pre h.mem.2.2.1).1 (bn r.pre h.mem.2.2.2).1 (by have:=h.room;omega)
 unfold PrC at w
 rw[(bn r.pre h.mem.2.2.1).2,(bn r.pre h.mem.2.2.2).2]at w
 exact w
theorem PrStep.kk (h:PrStep q mg m n B vs s u0 K ns me N c d bk v a b a0 b0 a1 b1){z y:PrA}(r:PrR q mg m n B vs u0 K ns (N+c) (prT n (fun v=>decide (v∈vs)) a0 b0) z)(t:PrR q mg m n B vs z.1 z.2.1 z.2.2.1 (N+c+c) (prT n (fun v=>decide (v∈vs)) a1 b1) y):WKeep u0 y.1 K y.2.1 m:=r.k.trans t.k r.ps.mf
theorem PrStep.or (h:PrStep q mg m n B vs s u0 K ns me N c d bk v a b a0 b0 a1 b1)(hv:v∈vs){z y:PrA}(r:PrR q mg m n B vs u0 K ns (N+c) (prT n (fun v=>decide (v∈vs)) a0 b0) z)(t:PrR q mg m n B vs z.1 z.2.1 z.2.2.1 (N+c+c) (prT n (fun v=>decide (v∈vs)) a1 b1) y) :
  k7 49 [.ptr K.o 0,.int .i64 (ixN z.2.2.1 (prT n (fun v=>decide (v∈vs)) a0 b0):Nat),.int .i64 (ixN y.2.2.1 (prT n (fun v=>decide (v∈vs)) a1 b1):Nat)] y.1 y.2.1 n B y.2.2.1 (N+c+c+d) (prT n (fun v=>decide (v∈vs)) a b):=by
 have e:prT n (fun v=>decide (v∈vs)) a b=iteT n (prT n (fun v=>decide (v∈vs)) a0 b0) (.lf true) (prT n (fun v=>decide (v∈vs)) a1 b1):=by rw[h.eq];simp[exP,hv]
 have hsub:=h.sub
 rw[e]at hsub ⊢
 rw[<- (bn t.pre r.mem).2,<- (h.kk r t).o]
 exact(GZ t.ps.om (bn t.pre r.mem).1 t.mem (.of t.ps.cnt hsub (by have:=h.room;omega))).toT t.ps.cnt hsub
theorem PrStep.make (h:PrStep q mg m n B vs s u0 K ns me N c d bk v a b a0 b0 a1 b1)(hv:v∉vs){z y:PrA}(r:PrR q mg m n B vs u0 K ns (N+c) (prT n (fun v=>decide (v∈vs)) a0 b0) z)(t:PrR q mg m n B vs z.1 z.2.1 z.2.2.1 (N+c+c) (prT n (fun v=>decide (v∈vs)) a1 b1) y) :
  k7 79 [.ptr K.s.p 0,.int .i64 (v:Int),.int .i64 (ixN z.2.2.1 (prT n (fun v=>decide (v∈vs)) a0 b0):Nat),.int .i64 (ixN y.2.2.1 (prT n (fun v=>decide (v∈vs)) a1 b1):Nat)] y.1 y.2.1 n B y.2.2.1 (N+c+c+d) (prT n (fun v=>decide (v∈vs)) a b):=by
 have e:prT n (fun v=>decide (v∈vs)) a b=mkT v (prT n (fun v=>decide (v∈vs)) a0 b0) (prT n (fun v=>decide (v∈vs)) a1 b1):=by rw[h.eq];simp[exP,hv]
 have hsub:=h.sub
 rw[e]at hsub ⊢
 rw[<- (bn t.pre r.mem).2,<- (h.kk r t).p]
 exact G3 t.ps.om (bn t.pre r.mem).1 t.mem (pa h.ok.1.1 h.ok.1.2) (pa h.ok.2.1 h.ok.2.2) h.vn t.ps.cnt hsub (by have:=h.room;omega)
theorem PrStep.one (h:PrStep q mg m n B vs s u0 K ns me N c d bk v a b a0 b0 a1 b1)(hv:v∈vs){z:PrA}(r:PrR q mg m n B vs u0 K ns (N+c) (prT n (fun v=>decide (v∈vs)) a0 b0) z)(h1:ixN z.2.2.1 (prT n (fun v=>decide (v∈vs)) a0 b0)=1) :
  ixN z.2.2.1 (prT n (fun v=>decide (v∈vs)) a b)=1/\PrR q mg m n B vs s K ns (N+(c+c+d)) (prT n (fun v=>decide (v∈vs)) a b) (z.1.set m (.map (mpP (ptP (keyP ns a b) 1 z.2.2.2))),z.2.1,z.2.2.1,ptP (keyP ns a b) 1 z.2.2.2):=by
 have hl:=r.ps.om.st.ok.lf true
 simp only[if_true]at hl
 have e0:prT n (fun v=>decide (v∈vs)) a0 b0=.lf true:=cw r.mem hl.1 (by rw[h1,hl.2])
 have e:prT n (fun v=>decide (v∈vs)) a b=.lf true:=by rw[h.eq,e0];exact QQ (by simp[hv])
 have e1:ixN z.2.2.1 (prT n (fun v=>decide (v∈vs)) a b)=1:=by rw[e];exact hl.2
 exact⟨e1,PrR.fin h.mem.1.1 h.mem.1.2 h.free h.u r.pre r.k r.ps (by rw[e];exact hl.1) rfl (by rw[e1];rfl) (by omega)⟩
theorem PrStep.fin (h:PrStep q mg m n B vs s u0 K ns me N c d bk v a b a0 b0 a1 b1){z y:PrA}(r:PrR q mg m n B vs u0 K ns (N+c) (prT n (fun v=>decide (v∈vs)) a0 b0) z)(t:PrR q mg m n B vs z.1 z.2.1 z.2.2.1 (N+c+c) (prT n (fun v=>decide (v∈vs)) a1 b1) y){o:gJ}(ho:OpT y.1 y.2.1 n B y.2.2.1 (N+c+c+d) (prT n (fun v=>decide (v∈vs)) a b) o) :
  PrMem q mg m vs K bk (keyP ns a b) o.1 y.2.2.2/\PrR q mg m n B vs s K ns (N+(c+c+d)) (prT n (fun v=>decide (v∈vs)) a b) (o.1.set m (.map (mpP (ptP (keyP ns a b) ((ixN o.2.2 (prT n (fun v=>decide (v∈vs)) a b):Nat):Int) y.2.2.2))),o.2.1,o.2.2,ptP (keyP ns a b) ((ixN o.2.2 (prT n (fun v=>decide (v∈vs)) a b):Nat):Int) y.2.2.2):=by
 have p:=t.ps.op ho
 have k:=(h.kk r t).trans ho.k.toW t.ps.mf
 exact⟨h.memOf p k,PrR.fin h.mem.1.1 h.mem.1.2 h.free h.u (mG (mG r.pre t.pre) ho.pre) k p ho.mem rfl rfl (by omega)⟩
end
theorem Ri {q mg m n B N c d v:Nat}{vs:TW}{s:St}{K:OB}{ns:Td}{me:List (PK×Int)}{ta tb:Tr}(h:PrS q mg m n B vs s K ns me N)(ha:ta∈ns)(hb:tb∈ns)(h0:¬ (ta=.lf false\/tb=.lf false))(h1:¬ (ta=.lf true/\tb=.lf true))(hx:lkP (keyP ns ta tb) me=none)(hv:v=min (aW n ta) (aW n tb))
  (HS:∀bk,s bk=.free->PrStep q mg m n B vs s (s.set bk (.obj 43 [.int .i64 (keyP ns ta tb).1,.int .i64 (keyP ns ta tb).2])) K ns me N c d bk v ta tb (eh v ta) (eh v tb) (dt v ta) (dt v tb)) :
  PrC q mg m n B vs s K ns (N+(c+c+d)) ta tb:=by
 have hN:=h.om.st.ok
 have hi0:=hN.lf false
 have hi1:=hN.lf true
 simp only[Bool.false_eq_true,if_false,if_true]at hi0 hi1
 have c0:¬ ((ixN ns ta:Nat):Int)=0:=fun e=>h0 (.inl (cw ha hi0.1 (by rw[hi0.2];omega)))
 have c1:¬ ((ixN ns tb:Nat):Int)=0:=fun e=>h0 (.inr (cw hb hi0.1 (by rw[hi0.2];omega)))
 have c2:¬ (((ixN ns ta:Nat):Int)=1/\((ixN ns tb:Nat):Int)=1):=fun⟨e,f⟩=>h1 ⟨cw ha hi1.1 (by rw[hi1.2];omega),cw hb hi1.1 (by rw[hi1.2];omega)⟩
 have hmf:=h.mf
 have hm:=h.mo
 have hmin:=uZ (ixN ns ta) (ixN ns tb)
 have hmax:=QM (ixN ns ta) (ixN ns tb)
 have hmv:=uZ (aW n ta) (aW n tb)
 rw[<- hv]at hmv
 have HH:=o_ HS
 have HA:=o_ ha
 have HB:=o_ hb
 have HX:=o_ hx
 clear hi0 hi1 hN h0 h1 h HS ha hb hx
 unfold PrC
 refine am Tryz.func116 rfl Tryz.ntmps116 rfl fun Q hQ hQe=>?_
 (repeat'(first|(with_reducible refine aR 3 ?_)|refine Ctl ?_|((with_reducible refine k_ hK ?_);clear hK hE K E)|((with_reducible refine bZ (fun h=>?_) (fun h=>?_))<;>(try(exfalso;assumption)))|(((with_reducible refine ab fun K E hK hE=>?_))<;>(try simp(disch:=omega) only[go_sem,seval,c0,c1, *]))))
 refine Ci (fun env s'=>s'=s/\env 0=.ptr q 0/\env 1=.int .i64 ((ixN ns ta:Nat):Int)/\env 2=.int .i64 ((ixN ns tb:Nat):Int)/\env 3=.mp mg/\env 4=.mp m/\env 43=.bool false) (fun KEY=>?_) ?_
 ·by_cases h1:((ixN ns ta:Nat):Int)=1
  ·have h2:¬ ((ixN ns tb:Nat):Int)=1:=fun e=>c2 ⟨h1,e⟩
   (repeat'(first|(with_reducible first|refine KEY _ _ ?_|(refine k_ hK ?_;clear hK hE K E))|(((with_reducible first|refine ab fun K E hK hE=>?_|refine iY ?_))<;>(try simp(disch:=omega) only[go_sem,seval,h1,h2, *]))))
   all_goals exact⟨rfl,ac,ac,ac,ac,ac,ac⟩
  ·(repeat'(first|(with_reducible first|refine KEY _ _ ?_|(refine k_ hK ?_;clear hK hE K E))|(((with_reducible first|refine ab fun K E hK hE=>?_|refine iY ?_))<;>(try simp(disch:=omega) only[go_sem,seval,h1, *]))))
   all_goals exact⟨rfl,ac,ac,ac,ac,ac,ac⟩
 rintro env s' ⟨rfl,e0,e1,e2,e3,e4,e43⟩
 clear c2
 (repeat'(first|(with_reducible refine aR 6 ?_)|refine Ctl ?_|((with_reducible refine k_ hK ?_);clear hK hE K E)|((with_reducible refine bZ (fun h=>?_) (fun h=>?_))<;>(try(exfalso;assumption)))|((first|(with_reducible refine ab fun K E hK hE=>?_)|((with_reducible refine au (fun b hb=>?_));(try(obtain⟨_,_⟩:=nef hb hmf))))<;>(try simp(disch:=omega) only[go_sem,seval,hmin,hmax, *]))))
 unfold bC
 have hbf:s' b=.free:=hb
 obtain⟨u0,hu0⟩:∃u,u=s'.set b (.obj 43 [.int .i64 ((min (ixN ns ta) (ixN ns tb):Nat):Int),.int .i64 ((max (ixN ns ta) (ixN ns tb):Nat):Int)]):=⟨_,rfl⟩
 rw[<- hu0]
 have H:PrStep q mg m n B vs s' u0 K ns me N c d b v ta tb (eh v ta) (eh v tb) (dt v ta) (dt v tb):=by rw[hu0];exact HH.out b hbf
 obtain⟨p1,p2,p3,p4⟩:=H.memK
 have hx:=HX.out
 have hvn:=H.vn
 obtain⟨mk,hnm⟩:=H.ps.om.st.mem
 have w1:=c8 u0 K.s.p K.s.g K.s.q n B (ixN ns ta) ns ta mk 0 hnm (bS HA.out)
 have w2:=c8 u0 K.s.p K.s.g K.s.q n B (ixN ns tb) ns tb mk 0 hnm (bS HB.out)
 have w3:=wY H.ps.om H.ps.qo HA.out hvn
 have w4:=wY H.ps.om H.ps.qo HB.out hvn
 have w5:=H.lo H.ps H.mem.2.1.1 H.mem.2.1.2 (by have:=H.room;omega)
 have HS:=o_ H
 obtain⟨kp,hkp⟩:∃k,k=keyP ns ta tb:=⟨_,rfl⟩
 rw[<- hkp]at p4 hx
 have HKP:=o_ hkp
 have hlk:=fO (k:=v) (ks:=vs)
 clear H hu0 hnm hmin hmax HH HX hkp hm
 unfold PrC at w5
 generalize hga:ixN ns ta=ka at *
 generalize hgb:ixN ns tb=kb at *
 generalize hla:ixN ns (eh v ta)=kal at *
 generalize hlb:ixN ns (eh v tb)=kbl at *
 generalize hha:ixN ns (dt v ta)=kah at *
 generalize hhb:ixN ns (dt v tb)=kbh at *
 have HHA:=o_ hha
 have HHB:=o_ hhb
 clear hga hgb hla hlb hha hhb
 generalize aW n ta=va at *
 generalize aW n tb=vb at *
 generalize lowN ns ta=l1 at *
 generalize lowN ns tb=l2 at *
 generalize highN ns ta=l3 at *
 generalize highN ns tb=l4 at *
 clear hv
 refine QT (key:=kp) (ac) (ac) p3 p4 ?_
 rw[hx]
 simp only[go_sem,seval,Option.getD_none,Option.isSome_none]
 (repeat'(first|refine Ctl ?_|((with_reducible refine k_ hK ?_);clear hK hE K E)|((with_reducible refine bZ (fun h=>?_) (fun h=>?_))<;>(try(exfalso;assumption)))|(((with_reducible first|refine ab fun K E hK hE=>?_|refine ae ey (w1) ?_|refine ae ey (w2) ?_|refine ae QR (w3) ?_|refine ae QR (w4) ?_))<;>(try simp(disch:=omega) only[go_sem,seval,hmv, *]))))
 refine ao rM w5 (fun z r=>?_)
 have w6:=HS.out.high r
 rw[HHA.out,HHB.out]at w6
 obtain⟨q1,q2,q3,q4⟩:=HS.out.memOf r.ps r.k
 rw[<- HKP.out]at q4
 have HR:=o_ r
 clear w1 w2 w3 w4 w5 p1 p2 p3 p4 r e43 HHA HHB hmv hx c0 c1 hbf
 obtain⟨u1,K1,ns1,me1⟩:=z
 dsimp only at w6 q1 q2 q3 q4 ⊢
 generalize hlo:ixN ns1 (prT n (fun v=>decide (v∈vs)) (eh v ta) (eh v tb))=lo at *
 have HLO:=o_ hlo
 clear hlo
 simp only[go_sem,seval]
 by_cases hg:v∈vs
 ·rw[decide_eq_true hg]at hlk
  by_cases h1:(lo:Int)=1
  ·obtain⟨g1,F⟩:=HS.out.one hg HR.out (HLO.out.trans (by omega))
   dsimp only at g1 F
   rw[<- HKP.out]at F
   have HF:=o_ F
   have HRE:=o_ g1
   clear w6 q1 F g1
   (repeat'(first|(with_reducible refine aR 27 ?_)|refine Ctl ?_|((with_reducible refine k_ hK ?_);clear hK hE K E)|((with_reducible refine bZ (fun h=>?_) (fun h=>?_))<;>(try(exfalso;assumption)))|(((with_reducible refine ab fun K E hK hE=>?_))<;>(try simp(disch:=omega) only[go_sem,seval,hlk,h1, *]))))
   unfold bC
   refine AD (key:=kp) (x:=1) (ac) (ac) (ac) q3 q4 ?_
   simp only[go_sem,seval]
   (repeat'(first|refine Ctl ?_|((with_reducible refine k_ hK ?_);clear hK hE K E)|(((with_reducible refine ab fun K E hK hE=>?_))<;>(try simp(disch:=omega) only[go_sem,seval, *]))))
   all_goals(refine aq Jt hQ ?_)
   all_goals exact⟨_,_,Wk.refl _,Fg.refl _,(u1.set m (.map (mpP (ptP kp 1 me1))),K1,ns1,_),congrArg (fun z:Nat=>SEnd.ret (.tup [.int .i64 (z:Int),.int .i64 0])) HRE.out.symm,rfl,HF.out⟩
  ·(repeat'(first|refine Ctl ?_|((with_reducible refine k_ hK ?_);clear hK hE K E)|((with_reducible refine bZ (fun h=>?_) (fun h=>?_))<;>(try(exfalso;assumption)))|(((with_reducible refine ab fun K E hK hE=>?_))<;>(try simp(disch:=omega) only[go_sem,seval,hlk,h1, *]))))
   refine ao rM w6 (fun y t=>?_)
   have w7:=HS.out.or hg HR.out t
   obtain⟨r1,r2,r3,r4⟩:=HS.out.memOf t.ps (HS.out.kk HR.out t)
   rw[<- HKP.out]at r4
   have HT:=o_ t
   clear w6 q1 q2 q3 q4 t
   obtain⟨u2,K2,ns2,me2⟩:=y
   dsimp only at w7 r1 r2 r3 r4 ⊢
   rw[HLO.out]at w7
   unfold k7 at w7
   generalize ixN ns2 (prT n (fun v=>decide (v∈vs)) (dt v ta) (dt v tb))=hi at *
   simp only[go_sem,seval]
   (repeat'(first|refine Ctl ?_|((with_reducible refine k_ hK ?_);clear hK hE K E)|((with_reducible refine bZ (fun h=>?_) (fun h=>?_))<;>(try(exfalso;assumption)))|(((with_reducible refine ab fun K E hK hE=>?_))<;>(try simp(disch:=omega) only[go_sem,seval,hlk, *]))))
   refine ao xH w7 (fun o ho=>?_)
   obtain⟨⟨f1,f2,f3,f4⟩,F⟩:=HS.out.fin HR.out HT.out ho
   obtain⟨u3,K3,ns3⟩:=o
   dsimp only at f1 f2 f3 f4 F ⊢
   rw[<- HKP.out]at F f4
   have HF:=o_ F
   clear w7 r1 r2 r3 r4 ho F f1 f2
   generalize hre:ixN ns3 (prT n (fun v=>decide (v∈vs)) ta tb)=re at *
   have HRE:=o_ hre
   clear hre
   simp only[go_sem,seval]
   (repeat'(first|(with_reducible refine aR 27 ?_)|refine Ctl ?_|((with_reducible refine k_ hK ?_);clear hK hE K E)|((with_reducible refine bZ (fun h=>?_) (fun h=>?_))<;>(try(exfalso;assumption)))|(((with_reducible refine ab fun K E hK hE=>?_))<;>(try simp(disch:=omega) only[go_sem,seval, *]))))
   unfold bC
   refine AD (key:=kp) (x:=(re:Int)) (ac) (ac) (ac) f3 f4 ?_
   simp only[go_sem,seval]
   (repeat'(first|refine Ctl ?_|((with_reducible refine k_ hK ?_);clear hK hE K E)|(((with_reducible refine ab fun K E hK hE=>?_))<;>(try simp(disch:=omega) only[go_sem,seval, *]))))
   all_goals(refine aq Jt hQ ?_)
   all_goals exact⟨_,_,Wk.refl _,Fg.refl _,(_,K3,ns3,_),congrArg (fun z:Nat=>SEnd.ret (.tup [.int .i64 (z:Int),.int .i64 0])) HRE.out.symm,rfl,HF.out⟩
 ·rw[decide_eq_false hg]at hlk
  (repeat'(first|refine Ctl ?_|((with_reducible refine k_ hK ?_);clear hK hE K E)|((with_reducible refine bZ (fun h=>?_) (fun h=>?_))<;>(try(exfalso;assumption)))|(((with_reducible refine ab fun K E hK hE=>?_))<;>(try simp(disch:=omega) only[go_sem,seval,hlk, *]))))
  refine ao rM w6 (fun y t=>?_)
  have w7:=HS.out.make hg HR.out t
  obtain⟨r1,r2,r3,r4⟩:=HS.out.memOf t.ps (HS.out.kk HR.out t)
  rw[<- HKP.out]at r4
  have HT:=o_ t
  clear w6 q1 q2 q3 q4 t
  obtain⟨u2,K2,ns2,me2⟩:=y
  dsimp only at w7 r1 r2 r3 r4 ⊢
  rw[HLO.out]at w7
  unfold k7 at w7
  generalize ixN ns2 (prT n (fun v=>decide (v∈vs)) (dt v ta) (dt v tb))=hi at *
  simp only[go_sem,seval]
  (repeat'(first|refine Ctl ?_|((with_reducible refine k_ hK ?_);clear hK hE K E)|((with_reducible refine bZ (fun h=>?_) (fun h=>?_))<;>(try(exfalso;assumption)))|(((with_reducible refine ab fun K E hK hE=>?_))<;>(try simp(disch:=omega) only[go_sem,seval,hlk, *]))))
  refine ao oW w7 (fun o ho=>?_)
  obtain⟨⟨f1,f2,f3,f4⟩,F⟩:=HS.out.fin HR.out HT.out ho
  obtain⟨u3,K3,ns3⟩:=o
  dsimp only at f1 f2 f3 f4 F ⊢
  rw[<- HKP.out]at F f4
  have HF:=o_ F
  clear w7 r1 r2 r3 r4 ho F f1 f2
  generalize hre:ixN ns3 (prT n (fun v=>decide (v∈vs)) ta tb)=re at *
  have HRE:=o_ hre
  clear hre
  simp only[go_sem,seval]
  (repeat'(first|(with_reducible refine aR 27 ?_)|refine Ctl ?_|((with_reducible refine k_ hK ?_);clear hK hE K E)|((with_reducible refine bZ (fun h=>?_) (fun h=>?_))<;>(try(exfalso;assumption)))|(((with_reducible refine ab fun K E hK hE=>?_))<;>(try simp(disch:=omega) only[go_sem,seval, *]))))
  unfold bC
  refine AD (key:=kp) (x:=(re:Int)) (ac) (ac) (ac) f3 f4 ?_
  simp only[go_sem,seval]
  (repeat'(first|refine Ctl ?_|((with_reducible refine k_ hK ?_);clear hK hE K E)|(((with_reducible refine ab fun K E hK hE=>?_))<;>(try simp(disch:=omega) only[go_sem,seval, *]))))
  all_goals(refine aq Jt hQ ?_)
  all_goals exact⟨_,_,Wk.refl _,Fg.refl _,(_,K3,ns3,_),congrArg (fun z:Nat=>SEnd.ret (.tup [.int .i64 (z:Int),.int .i64 0])) HRE.out.symm,rfl,HF.out⟩
theorem PrC.mono {q mg m n B N N':Nat}{vs:TW}{s:St}{K:OB}{ns:Td}{a b:Tr}(h:PrC q mg m n B vs s K ns N a b)(hN:N<=N'):PrC q mg m n B vs s K ns N' a b:=by
 refine SCalls.mono (h:=h) ?_
 rintro w u ⟨z,rfl,rfl,h1⟩
 exact⟨z,rfl,rfl,h1.ps.mono hN,h1.pre,h1.mem,h1.k⟩
theorem RB {q mg m n B:Nat}{vs S:TW}:∀(z:Nat) (a b:Tr) (j:Nat) {s:St} {K:OB} {N:Nat} {ns:Td} {me:List (PK×Int)},szT a+szT b<z->OkT n j a->OkT n j b->InV S a->InV S b->a∈ns->b∈ns->PrS q mg m n B vs s K ns me N->N+prC S j<=B->PrC q mg m n B vs s K ns (N+prC S j) a b
 |0,_,_,_,_,_,_,_,_,hz,_,_,_,_,_,_,_,_=>absurd hz (Nat.not_lt_zero _)
 |z+1,a,b,j,s,K,N,ns,me,hz,oa,ob,ia,ib,ha,hb,h,hB=>by
  by_cases h0:a=.lf false\/b=.lf false
  ·exact Rh (h.mono (Nat.le_add_right _ _)) h0
  by_cases h1:a=.lf true/\b=.lf true
  ·exact Rz (h.mono (Nat.le_add_right _ _)) h1.1 h1.2
  cases hx:lkP (keyP ns a b) me with
  |some x=>exact RA (h.mono (Nat.le_add_right _ _)) ha hb h0 h1 hx
  |none=>
   have hvn:min (aW n a) (aW n b)<n:=by
    cases a with
    |nd w l r=>have:=oa.2.1;simp only[aW];omega
    |lf x=>
     cases b with
     |nd w l r=>have:=ob.2.1;simp only[aW];omega
     |lf y=>cases x<;>cases y<;>simp at h0 h1
   obtain⟨v,hv⟩:∃v,v=min (aW n a) (aW n b):=⟨_,rfl⟩
   rw[<- hv]at hvn
   have hva:v<=aW n a:=by omega
   have hvb:v<=aW n b:=by omega
   have hvS:v∈S/\j<=v:=by
    by_cases e:aW n a<=aW n b
    ·have e2:v=aW n a:=by omega
     rw[e2]at hvn ⊢
     exact⟨Or ia hvn,Pr oa hvn⟩
    ·have e2:v=aW n b:=by omega
     rw[e2]at hvn ⊢
     exact⟨Or ib hvn,Pr ob hvn⟩
   have hsz:szT (eh v a)+szT (eh v b)<szT a+szT b/\szT (dt v a)+szT (dt v b)<szT a+szT b:=by
    have sa:=EL (v:=v) (t:=a)
    have sb:=EL (v:=v) (t:=b)
    by_cases e:aW n a<=aW n b
    ·have:=Ft hvn (t:=a) (by omega)
     omega
    ·have:=Ft hvn (t:=b) (by omega)
     omega
   have hst:=Qx hvS.2 hvS.1
   have hch:=h.om.st.ok.ch
   obtain⟨al,ah⟩:=Fn oa hva hvn
   obtain⟨bl,bh⟩:=Fn ob hvb hvn
   refine(Ri (c:=prC S (v+1)) (d:=2 ^ kkS S v) h ha hb h0 h1 hx hv fun bk hbk=>?_).mono (by omega)
   refine⟨h.new hbk,⟨⟨ha,hb⟩,⟨(sk hch ha).1,(sk hch hb).1⟩,(sk hch ha).2,(sk hch hb).2⟩,⟨⟨al,bl⟩,ah,bh⟩,hvn,hbk,rfl,?_,?_,Qr oa ob hva hvb hvn,?_,by omega⟩
   ·exact fun p m1 m2 hr=>RB z _ _ (v+1) (by omega) al bl (sJ ia).1 (sJ ib).1 m1 m2 p hr
   ·exact fun p m1 m2 hr=>RB z _ _ (v+1) (by omega) ah bh (sJ ia).2 (sJ ib).2 m1 m2 p hr
   ·exact(CK (pa (Rm oa hva) (Rm ob hvb)) (Ra (oa.mono (Nat.zero_le _)) (ob.mono (Nat.zero_le _)) ia ib)).mono (Nat.sub_le _ _)
theorem y4 {s:St}{KK:OB}{n B N q:Nat}{ns:Td}{f g:Tf}{S vs:TW}(hO:OMem s KK n B ns)(hq:s q=.obj 126 [.ptr KK.o 0,.ptr KK.s.p 0])(hf:DepF S f)(hg:DepF S g)(hS:∀v,v∈S->v<n)(mf:treeT n f∈ns)(mg:treeT n g∈ns)(ow:Own)(hvn:vs.Nodup)(hv:∀v,v∈vs->v<n)(hl:vs.length<=256)(hc:CntN ns N)(hB:N+(S.length+2) * 2 ^ S.length<=B) :
  OpFC 83 [.ptr q 0,.int .i64 (ixF n ns f:Nat),.int .i64 (ixF n ns g:Nat),.lst (ak vs) ow] s KK n B ns (N+(S.length+2) * 2 ^ S.length) (exF (fun v=>decide (v∈vs)) fun x=>f x && g x):=by
 have hqf:s q≠.free:=by rw[hq];simp
 have wm:=vR hO hq vs [ixF n ns f,ixF n ns g] ow .full hv hl (fun k hk=>by
  simp only[AT,List.not_mem_nil,or_false]at hk
  rcases hk with rfl|rfl
  ·exact gD mf
  ·exact gD mg) (by simp)
 rw[show ak [ixF n ns f,ixF n ns g]=[[.int .i64 ((ixF n ns f:Nat):Int)],[.int .i64 ((ixF n ns g:Nat):Int)]] from rfl]at wm
 have ws:=B5 s vs ow hvn (by omega)
 have HP:=o_ (fun(mgb m:Nat) (u:St) (p:PrS q mgb m n B vs u KK ns [] N)=>RB (S:=S) (szT (treeT n f)+szT (treeT n g)+1) (treeT n f) (treeT n g) 0 (Nat.lt_succ_self _) cQ cQ (eH hS hf) (eH hS hg) mf mg p (by have:=QJ (S:=S);omega))
 have he:prT n (fun v=>decide (v∈vs)) (treeT n f) (treeT n g)=treeT n (exF (fun v=>decide (v∈vs)) fun x=>f x && g x):=by
  unfold prT prF
  have e1:evT (treeT n f)=f:=funext fun x=>bU (hf.hang hS) x
  have e2:evT (treeT n g)=g:=funext fun x=>bU (hg.hang hS) x
  rw[e1,e2]
 have HE:=o_ he
 have HO:=o_ hO
 have HQ:=o_ hq
 have HC:=o_ hc
 have HB:=o_ hB
 clear hO hq hf hg hS mf mg hvn hv hl hc hB he
 unfold OpFC
 refine am Tryz.func83 rfl Tryz.ntmps83 rfl fun Q hQ hQe=>?_
 (repeat'(first|refine Ctl ?_|((with_reducible refine k_ hK ?_);clear hK hE K E)|((with_reducible refine bZ (fun h=>?_) (fun h=>?_))<;>(try(exfalso;assumption)))|(((with_reducible first|refine ab fun K E hK hE=>?_|refine ae BC (wm) ?_))<;>(try simp(disch:=omega) only[go_sem,seval, *]))))
 refine ao GJ ws (fun a h=>?_)
 obtain⟨u1,gb⟩:=a
 obtain⟨hgf,hu1⟩:=h
 dsimp only at hgf hu1 ⊢
 have g1:∀z,s z≠.free->u1 z=s z:=fun z hz=>by rw[hu1,j_ _ _ (nef hgf hz).1]
 have m1:u1 gb=.map (mpZ bP (aS vs)):=by rw[hu1,q_]
 have HPS:=o_ (fun(m:Nat) (hm:u1 m=.free)=>show PrS q gb m n B vs (u1.set m (.map [])) KK ns [] N from by
  have g2:∀z,u1 z≠.free->(u1.set m (.map [])) z=u1 z:=fun z hz=>j_ _ _ (nef hm hz).1
  have g3:∀z,s z≠.free->(u1.set m (.map [])) z=s z:=fun z hz=>(g2 z (by rw[g1 z hz];exact hz)).trans (g1 z hz)
  refine⟨HO.out.keep fun z hz=>g3 z (HO.out.live hz),(g3 q hqf).trans HQ.out,(g2 gb (by rw[m1];simp)).trans m1,q_ _ _ _,fun e=>?_,fun k x hk=>(by cases hk),HC.out⟩
  rw[e,hm]at m1
  cases m1)
 have HK:=o_ (fun(m:Nat) (hm:u1 m=.free)=>And.intro (show ∀z,s z≠.free->(u1.set m (.map [])) z=s z from fun z hz=>(j_ _ _ (nef hm (by rw[g1 z hz];exact hz)).1).trans (g1 z hz)) (show s m=.free from by
  by_cases e:s m=.free
  ·exact e
  ·exact absurd (g1 m e ▸ hm) e))
 clear hu1 hgf g1 ws wm hqf
 simp only[go_sem,seval]
 (repeat'(((((with_reducible refine au (fun b hb=>?_)))))))
 have hbf:u1 b=.free:=hb
 have w:=HP.out gb b _ (HPS.out b hbf)
 unfold PrC at w
 change SCalls Tryz.prog _ [.ptr q 0,.int .i64 ((ixF n ns f:Nat):Int),.int .i64 ((ixF n ns g:Nat):Int),.mp gb,.mp b] _ _ at w
 have HW:=HK.out b hbf
 have HF:=o_ (fun(z:PrA) (r:PrR q gb b n B vs (u1.set b (.map [])) KK ns (N+prC S 0) (prT n (fun v=>decide (v∈vs)) (treeT n f) (treeT n g)) z)=>show OpF s KK n B ns (N+(S.length+2) * 2 ^ S.length) (exF (fun v=>decide (v∈vs)) fun x=>f x && g x) (z.1,z.2.1,z.2.2.1) from
  ⟨r.ps.om,r.pre,HE.out ▸ r.mem,r.ps.cnt.mono (Nat.add_le_add_left QJ _),r.k.toO HW.1 HW.2⟩)
 clear HO HQ HC HB HP HPS HK HW m1 hb
 generalize u1.set b (.map [])=u2 at *
 refine ao rM w (fun a h=>?_)
 have HF3:=o_ (HF.out _ h)
 obtain⟨u3,K3,ns3,me3⟩:=a
 dsimp only at HF3 ⊢
 rw[HE.out]
 clear h w HF HE
 simp only[go_sem,seval]
 (repeat'(first|refine Ctl ?_|((with_reducible refine k_ hK ?_);clear hK hE K E)))
 all_goals(refine aq Ny hQ ?_)
 all_goals exact⟨_,_,Wk.refl _,Fg.refl _,(u3,K3,ns3),rfl,rfl,HF3.out⟩
open Go.RowKit Go.Lib Go.Shelf Go.Sort
theorem GW {α:Type}[Inhabited α](enc:α->Value)(vv:α->VV)(hR:∀(G:Gh) x,R G (enc x) (vv x))(hone:∀x,(vv x).one=true)(hinv:∀(G:Gh) v x,R G v (vv x)->v=enc x)(f:FuncId)(T:TypeId)(s:St)(g i j:Nat)(zs:List α)(z0:α)(hij:i<=j)(hj:j<=zs.length)(hn:zs.length<=100000000)(hs:s g=.row T 1 (zs.map vv))
  (hcon:∀(cap:Nat) (w:World),Holds enc w g 0 zs.toArray->zs.length<=cap->cap<=9223372036854775807->Calls Tryz.prog f #[.slice (some ⟨g,0,none⟩) zs.length cap,.int .i64 i,.int .i64 j] w fun e w'=>e=.returned (.slice (some ⟨g,0,none⟩) (zs.length - (j - i)) cap)/\∃q,w'=Sort.putRow enc (Sort.ahead w q) g 0 (zs.take i++zs.drop j++List.replicate (j - i) z0).toArray) :
  SRet Tryz.prog f [.mrw g zs.length,.int .i64 (i:Int),.int .i64 (j:Int)] s (.mrw g (zs.length - (j - i))) (s.set g (.row T 1 ((zs.take i++zs.drop j).map vv))):=by
 intro w0 G w vs hS hA
 obtain⟨v1,v2,v3,rfl,r1,r2,r3⟩:=QS hA
 cases r1 with
 |mrw _ _ cap sz hq hc=>
 cases r2
 cases r3
 have hok:=hS.ok g
 rw[hs]at hok
 obtain⟨hB,hnK,c,cap',hh,hq',hcs,hl,hm,hx⟩:=hok
 rw[hq]at hq'
 injection hq' with hq'
 injection hq' with hq1 hq2
 subst hq1 hq2
 rw[z_]at hl
 have hblk:g<w.heap.size:=hS.lt (by rw[hs];simp)
 have hcell:∀(i:Nat) (z:α),zs[i]?=some z->c[i]?=some (enc z):=fun i z hz=>by
  obtain⟨_,v,h1,h2⟩:=hx i (vv z) (by simp[hz])
  rw[<- hinv _ _ _ h2]
  exact h1
 have hH:Holds enc w g 0 zs.toArray:=fun j hj=>by
  rw[List.size_toArray]at hj
  have h1:=hcell j _ (m_ hj)
  constructor
  ·rw[getElem!_pos _ j (by simpa using hj)]
   simp only[World.cell?,Nat.zero_add,hh]
   simpa using h1
  ·simp[World.frozen?,hh]
 refine(hcon cap w hH (by omega) (Nat.le_trans hm (by decide))).mono ?_
 rintro e w' ⟨rfl,n,rfl⟩
 have hS1:Sim w0 G (Sort.ahead w n) s:=hS.world ⟨rfl,rfl,rfl,Nat.le_refl _,fun _ _=>rfl⟩
 obtain⟨R0,hR0⟩:∃R0,R0=zs.take i++zs.drop j:=⟨_,rfl⟩
 have hRl:R0.length=zs.length - (j - i):=by rw[hR0,p_,r_,u_];omega
 rw[<- hR0]
 obtain⟨d',hd'⟩:∃d',d'=(R0++List.replicate (j - i) z0).toArray:=⟨_,rfl⟩
 have hdl:d'.size=zs.length:=by rw[hd',List.size_toArray,p_,List.length_replicate,hRl];omega
 rw[<- hd']
 have hmod:∀k,(Sort.putRow enc (Sort.ahead w n) g 0 d').heap[k]?=if g=k then(w.heap[k]?).map (onCells (putCells enc 0 d'))else w.heap[k]?:=fun k=>Array.getElem?_modify ..
 have hS2:=hS1.set_row hs (Sort.putRow enc (Sort.ahead w n) g 0 d') c (putCells enc 0 d' c) (ys:=R0.map vv) hh
  ⟨rfl,rfl,rfl,by simp[Sort.putRow,mapBlock],fun k hk=>by rw[hmod,if_neg (by omega)];rfl⟩ (by simp[Sort.putRow,mapBlock]) (by rw[hmod,if_pos rfl,hh];rfl) (fun k hk=>by rw[hmod,if_neg (Ne.symm hk)];rfl)
  (by simp[putCells]) (by rw[z_,hRl,hcs];omega) (fun i x hi=>by
   simp only[n_]at hi
   obtain⟨k,hk,rfl⟩:=Option.map_eq_some_iff.1 hi
   have hil:=(x_.1 hk).1
   refine⟨hone _,enc k,?_,hR _ _⟩
   have hid:i<d'.size:=by omega
   have hdk:d'[i]=k:=by
    have h3:d'.toList[i]?=some k:=by rw[hd'];simp only[g_ hil];exact hk
    rw[Array.getElem?_toList,Array.getElem?_eq_getElem hid]at h3
    injection h3
   have hic:i<c.size:=by rw[hcs];omega
   simp only[putCells,Array.getElem?_mapIdx,Array.getElem?_eq_getElem hic,Option.map_some,Nat.zero_le,Nat.zero_add,true_and,hid,if_true,Nat.sub_zero]
   rw[getElem!_pos d' i hid,hdk])
 refine⟨G,_,.ret (.mrw g (zs.length - (j - i))),Gh.le.refl G,hS2,.mrw g _ cap _ hq (by omega),rfl,rfl⟩
theorem RI (s:St)(g i j:Nat)(l:TW)(hij:i<=j)(hj:j<=l.length)(hn:l.length<=100000000)(hs:s g=.row 3 1 (dv l)) :
  SRet Tryz.prog 85 [.mrw g l.length,.int .i64 (i:Int),.int .i64 (j:Int)] s (.mrw g (l.length - (j - i))) (s.set g (.row 3 1 (dv (l.take i++l.drop j)))):=by
 have e:∀l:TW,dv l=(l.map fun(k:Nat)=>(k:Int)).map fun(z:Int)=>VV.int .i64 z:=fun l=>by simp[dv]
 have h:=GW (Value.int .i64) (fun(z:Int)=>VV.int .i64 z) (fun G x=>.int _ _) (fun x=>rfl) (fun G v x h=>by cases h;rfl) 85 3 s g i j (l.map fun(k:Nat)=>(k:Int)) 0 hij (by rw[z_];exact hj) (by rw[z_];exact hn) (by rw[hs,e]) (fun cap w hH h1 h2=>Tryz.slices_Delete_int g 0 cap i j _ w hH h1 h2 hij (by rw[z_];exact hj))
 rw[z_]at h
 rw[e,List.map_append,List.map_take,List.map_drop]
 exact h
theorem RH (s:St)(g i j:Nat)(l:TV)(hij:i<=j)(hj:j<=l.length)(hn:l.length<=100000000)(hs:s g=.row 9 1 (l.map fun x=>.str x)) :
  SRet Tryz.prog 84 [.mrw g l.length,.int .i64 (i:Int),.int .i64 (j:Int)] s (.mrw g (l.length - (j - i))) (s.set g (.row 9 1 ((l.take i++l.drop j).map fun x=>.str x))):=
 GW encStr (fun x=>VV.str x) (fun G x=>.str _) (fun x=>rfl) (fun G v x h=>by cases h;rfl) 84 9 s g i j l [] hij hj hn hs (fun cap w hH h1 h2=>Tryz.slices_Delete_string g 0 cap i j l w hH h1 h2 hij hj)
end Go.Proofs.YtohnaepcgnbaiaaGreatDoor
namespace Go.Proofs.YtohnaepcgnbaiaaGreatDoor
open Go.RowKit
attribute [-go_sem] bJ cX bH bG aT cU cT
section
variable {G : Gh} {v : Value} {g n : Nat} {xs : Tb} {b c r : VV}
theorem R.frz1 (hn:xs.length=n)(hK:∀(i:Nat) (y:VV),xs[i]?=some y->y.one=true/\∃v,G.K g i=some v/\R G v y)(hr:R G v (.tup [.agg [.mrw g n,b,c],r])):R G v (.tup [.agg [.lst (xs.map fun y=>[y]) .no,b,c],r]):=by
 generalize hq:VV.tup [.agg [.mrw g n,b,c],r]=q at hr
 cases hr with
 |tup vs ys hs hR=>
  injection hq with hq
  subst hq
  refine .tup vs _ hs fun j v y hv hy=>?_
  match j with
  |0=>
   have hy:VV.agg [.lst (xs.map fun y=>[y]) .no,b,c]=y:=by simpa using hy
   subst hy
   have h0:=hR 0 v _ hv rfl
   generalize hq2:VV.agg [.mrw g n,b,c]=q2 at h0
   cases h0 with
   |agg us zs hs2 h1 hR2=>
    injection hq2 with hq2
    subst hq2
    refine .agg us _ hs2 (fun y hy=>?_) fun k w y hw hy=>?_
    ·simp only[AT,List.not_mem_nil,or_false]at hy
     rcases hy with rfl|rfl|rfl
     ·rfl
     ·exact h1 _ (by simp)
     ·exact h1 _ (by simp)
    ·match k with
     |0=>
      have hy:VV.lst (xs.map fun y=>[y]) .no=y:=by simpa using hy
      subst hy
      exact R.frz hn hK (hR2 0 w _ hw rfl)
     |1=>exact hR2 1 w y hw hy
     |2=>exact hR2 2 w y hw hy
     |k+3=>simp at hy
   |_=>cases hq2
  |1=>exact hR 1 v y hv hy
  |j+2=>simp at hy
 |_=>cases hq
end
theorem SCalls.frz1 {P:Program}{s:St}{f:FuncId}{xs:Tb}{Q:SEnd->St->Prop}
  (h:SCalls P f xs s fun e t=>∃(b c r:VV) (g n:Nat) (T:TypeId) (ys:Tb),e=.ret (.tup [.agg [.mrw g n,b,c],r])/\t g=.row T 1 ys/\ys.length=n/\Q (.ret (.tup [.agg [.lst (ys.map fun y=>[y]) .no,b,c],r])) (t.set g .free)):SCalls P f xs s Q:=by
 intro w0 G w vs hS hR
 refine(h w0 G w vs hS hR).mono ?_
 rintro e w' ⟨G',s',x,hG,hS',hE,b,c,r,g,n,T,ys,rfl,hg,hn,hq⟩
 obtain⟨G2,hle,hS2,hK,_⟩:=hS'.frzR hg
 refine⟨G2,_,_,hG.trans hle,hS2,?_,hq⟩
 cases e with
 |returned v=>exact R.frz1 hn hK (R.mono hle hE)
 |_=>exact hE
def iV {α:Type}(l:List α)(k:Nat):List α:=l.take k++l.drop (k+1)
theorem wI {α:Type}{l:List α}{k:Nat}(h:k<l.length):(iV l k).length=l.length - 1:=by
 unfold iV
 rw[p_,r_,u_]
 omega
theorem GQ {s:St}{KK:OB}{x m q c n B N k d:Nat}{ns:Td}{ds:TN}{o:TU}(hM:RMem s KK x m q c n B ns ds o)(hD:DOk n ds o){ff fw:Tf}(A:TV)(o1:Own)(D:TW)(o2:Own)(hR:Rel4 ds o A D)(hk:D[k]?=some d)(hf:DepF (aj o D) ff)(mf:treeT n ff∈ns)(hw:DepF (aj o D) fw)(mw:treeT n fw∈ns)
  (hc:CntN ns N) (hB:N+((aj o D).length+2) * 2 ^ (aj o D).length<=B) :
  SCalls Tryz.prog 53 [.ptr x 0,.agg [.lst (az A) o1,.lst (ak D) o2,.int .i64 (ixF n ns ff:Nat)],.int .i64 (k:Int),.int .i64 (ixF n ns fw:Nat)] s fun w u=>∃a:gI,w=.ret (.tup [.agg [.lst (az (iV A k)) .no,.lst (ak (iV D k)) .no,.int .i64 (ixF n a.2.2.2 (exF (fun v=>decide (v∈aj o [d])) fun y=>ff y && fw y):Nat)],.int .i64 0])/\u=a.1/\RelR s KK x m q c n B ns ds o (N+((aj o D).length+2) * 2 ^ (aj o D).length) (exF (fun v=>decide (v∈aj o [d])) fun y=>ff y && fw y) a:=by
 have hkl:k<D.length:=(x_.1 hk).1
 have hdm:d∈D:=y_ hk
 have hl8:=hR.l8
 have hnm8:=hR.nm.2.2
 have hln:=hR.ln
 have hDne:D≠[]:=fun e=>by rw[e]at hkl;simp at hkl
 have hAne:A≠[]:=fun e=>by rw[e]at hln;simp at hln;exact hDne (l_ (by omega))
 have hsl:((ak D).take (k+1)).drop k=ak [d]:=by
  have e:(ak D)[k]?=some [.int .i64 (d:Int)]:=aH hk
  rw[List.take_add_one,e,Option.toList,List.drop_append,List.drop_of_length_le (by rw[r_];omega),r_,Nat.min_eq_left (by rw[natsL_len];omega),Nat.sub_self]
  rfl
 have hV1:(∀(x:Tb),x∈ak D->x.length=1)=True:=eq_true fun y hy=>by
  obtain⟨z,_,rfl⟩:=A_.1 hy
  rfl
 have hkk:k<=k+1:=Nat.le_succ k
 have WV:=o_ (fun(u:St) (hu:∀z,s z≠.free->u z=s z)=>gK (hM.more hu).C hD [d] .no (fun z hz=>by rw[a_]at hz;subst hz;exact hR.d4.lt _ hdm) (by simp))
 have WP:=o_ (fun(u:St) (hu:∀z,s z≠.free->u z=s z)=>y4 (vs:=aj o [d]) (hM.more hu).C.om (hM.more hu).C.qo hf hw (aJ hD hR.d4.lt) mf mw .no (cr hD (by simp) (fun z hz=>by rw[a_]at hz;subst hz;exact hR.d4.lt _ hdm)) (aJ hD (fun z hz=>by rw[a_]at hz;subst hz;exact hR.d4.lt _ hdm)) (by have:=gn hD (ks:=[d]) (fun z hz=>by rw[a_]at hz;subst hz;exact hR.d4.lt _ hdm);simp at this;omega) hc hB)
 have WCS:=o_ (fun u=>zm u A o1 hAne (by omega))
 have WCM:=o_ (fun u=>lF u D o2 hDne (by omega))
 have HM:=o_ hM
 have HMF:=o_ mf
 have HC:=o_ hc
 have hDl:=natsL_len (ks:=D)
 clear mf mw hc hB hf hw hk hdm hAne hDne
 obtain⟨a1,hx⟩:=hM.xf
 unfold spC at hx
 have hxl:=hM.xl
 generalize (exF (fun v=>decide (v∈aj o [d])) fun y=>ff y && fw y)=GF at *
 generalize hkf:ixF n ns ff=kf at *
 have HKF:=o_ hkf
 generalize ixF n ns fw=kw at *
 clear hkf hM
 generalize hSA:az A=SA at *
 generalize hV:ak D=V at *
 generalize szC ds=SZ at *
 clear hSA hV
 refine SCalls.frz1 (SCalls.frz2 ?_)
 refine am Tryz.func53 rfl Tryz.ntmps53 rfl fun Q hQ hQe=>?_
 (repeat'(first|(with_reducible refine aR 1 ?_)|refine Ctl ?_|((with_reducible refine k_ hK ?_);clear hK hE K E)|((first|(with_reducible refine ab fun K E hK hE=>?_)|((with_reducible refine au (fun b hb=>?_));(repeat(obtain⟨_,hb⟩:=hb));(try(obtain⟨_,_⟩:=nef hb hxl))))<;>(try simp(disch:=omega) only[go_sem,seval, *]))))
 rename_i b5 hb5 _ _ n1 n2 _ _
 obtain⟨b8,hb8e⟩:∃z,z=b:=⟨_,rfl⟩
 subst hb8e
 have hb8:s b8=.free:=hb
 unfold bC
 obtain⟨u0,hu0⟩:∃u,u=(s.set b5 (.obj 30 [.lst SA o1,.lst V o2,.int .i64 (kf:Int)])).set b8 (.obj 30 [.lst [] .full,.lst [] .full,.int .i64 0]):=⟨_,rfl⟩
 rw[<- hu0]
 have g0:∀z,s z≠.free->u0 z=s z:=fun z hz=>by rw[hu0,j_ _ _ (nef hb8 hz).1,j_ _ _ (nef hb5 hz).1]
 have k5:u0 b5=.obj 30 [.lst SA o1,.lst V o2,.int .i64 (kf:Int)]:=by rw[hu0,j_ _ _ (‹_›),q_]
 have k8:u0 b8=.obj 30 [.lst [] .full,.lst [] .full,.int .i64 0]:=by rw[hu0,q_]
 have hx0:=(g0 x hxl).trans hx
 have wv:=WV.out u0 g0
 rw[if_pos (by simp)]at wv
 have wp:=WP.out u0 g0
 unfold OpFC at wp
 have M0:=HM.out.more g0
 have R0:RelR s KK x m q c n B ns ds o N ff (u0,KK,m,ns):=RelR.win M0 (.new g0) HMF.out HC.out
 have HM0:=o_ M0
 have HR0:=o_ R0
 have G0:=o_ (And.intro g0 hb8)
 clear hu0 hb g0 WV WP hb5 hb8 n1 n2 M0 R0 HC HMF HM hx
 generalize hv1:ak (aj o [d])=VV1 at *
 clear hv1
 have hkn:(k:Int)+1<=(D.length:Int):=by omega
 have hk1:k+1<=D.length:=hkl
 (repeat'(first|refine Ctl ?_|(with_reducible first|(refine k_ hK ?_;clear hK hE K E)|(refine k_ hKh ?_;clear hKh Kh)|(refine k_ hKb (aC ?_);clear hKb Kb)|refine ax 1 [([0,1,2,3,4,5,6,7,8,9],10,[[]])] [11,12,13,14,15] hQe fun K E hK hE=>?_|refine ax 2 [([0,1,2,3,4,5,6,7],8,[[]])] [9,10,11,12,13] hQe fun K E hK hE=>?_)|(((with_reducible first|refine ae qH (wv) ?_|refine ay fun Kh hKh=>?_|refine aG fun Kh hKh=>?_|refine aB fun Kb hKb=>?_))<;>(try simp(disch:=omega) only[go_sem,seval,hDl,hsl,hkk,hk1,hV1,and_self,if_true, *]))))
 refine ao Sc wp (fun a h=>?_)
 obtain⟨u3,K3,ns3⟩:=a
 have HR3:Hid (RelR s KK x m q c n B ns ds o (N+((aj o D).length+2) * 2 ^ (aj o D).length) GF (u3,K3,m,ns3)):=o_ (HR0.out.then (RelR.op HM0.out h))
 have l5:=(h.k.out b5 (by rw[k5];simp) (HM0.out.C.om.types k5 (by decide) (by decide) (by decide))).trans k5
 have l8:=(h.k.out b8 (by rw[k8];simp) (HM0.out.C.om.types k8 (by decide) (by decide) (by decide))).trans k8
 dsimp only at l5 l8 ⊢
 generalize hkg:ixF n ns3 GF=kg at *
 have HKG:=o_ hkg
 clear h wp wv hx0 k5 k8 hkg hsl hV1 hxl HKF
 simp only[go_sem,seval]
 (repeat'(first|refine Ctl ?_|(with_reducible first|(refine k_ hK ?_;clear hK hE K E)|(refine k_ hKh ?_;clear hKh Kh)|(refine k_ hKb (aC ?_);clear hKb Kb)|refine ax 5 [([0,1,3,4,5,7,8,10,11,12,14],2,[[3,4,5,7,8,10,11,12,14]]),([],6,[[],[7,8,10,11,12,14]]),([],9,[[],[],[10,11,12,14]]),([],13,[[],[],[],[14]]),([15],16,[[],[],[],[],[]])] [17] hQe fun K E hK hE=>?_)|((with_reducible refine bZ (fun h=>?_) (fun h=>?_))<;>(try(exfalso;assumption)))|(((with_reducible first|refine ab fun K E hK hE=>?_|refine ay fun Kh hKh=>?_|refine aG fun Kh hKh=>?_|refine aB fun Kb hKb=>?_))<;>(try simp(disch:=omega) only[go_sem,seval, *]))))
 refine ao lV (WCS.out _) (fun a h=>?_)
 obtain⟨u4,g1⟩:=a
 obtain⟨hgf,hu4⟩:=h
 dsimp only at hgf hu4 ⊢
 have f4:∀z,u3 z≠.free->u4 z=u3 z:=fun z hz=>by rw[hu4,j_ _ _ (nef hgf hz).1]
 have pg1:u4 g1=.row 9 1 (A.map fun x=>.str x):=by rw[hu4,q_]
 have m5:=(f4 b5 (by rw[l5];simp)).trans l5
 have m8:=(f4 b8 (by rw[l8];simp)).trans l8
 have n5:¬ b5=g1:=fun e=>by rw[e,pg1]at m5;cases m5
 have n8:¬ b8=g1:=fun e=>by rw[e,pg1]at m8;cases m8
 have wd:=RH u4 g1 k (k+1) A hkk (by omega) (by omega) pg1
 rw[show k+1 - k=1 by omega,hln]at wd
 obtain⟨u5,hu5⟩:∃u,u=u4.set g1 (.row 9 1 ((A.take k++A.drop (k+1)).map fun x=>.str x)):=⟨_,rfl⟩
 rw[<- hu5]at wd
 have f5:∀z,u3 z≠.free->u5 z=u3 z:=fun z hz=>by rw[hu5,j_ _ _ (nef hgf hz).1,f4 z hz]
 have q5:=(f5 b5 (by rw[l5];simp)).trans l5
 have q8:=(f5 b8 (by rw[l8];simp)).trans l8
 have r1:u5 g1=.row 9 1 ((iV A k).map fun x=>.str x):=by rw[hu5,q_];rfl
 have HG1:=o_ (And.intro f5 hgf)
 clear hu4 hu5 f4 f5 hgf pg1
 simp only[go_sem,seval]
 (repeat'(first|(with_reducible first|(refine k_ hKh ?_;clear hKh Kh)|(refine k_ hKb (aC ?_);clear hKb Kb))|(((with_reducible first|refine ae Sb (wd) ?_|refine ay fun Kh hKh=>?_|refine aB fun Kb hKb=>?_))<;>(try simp(disch:=omega) only[go_sem,seval, *]))))
 refine ao ft (WCM.out _) (fun a h=>?_)
 obtain⟨u6,g2⟩:=a
 obtain⟨hgf,hu6⟩:=h
 dsimp only at hgf hu6 ⊢
 have f6:∀z,u5 z≠.free->u6 z=u5 z:=fun z hz=>by rw[hu6,j_ _ _ (nef hgf hz).1]
 have pg2:u6 g2=.row 3 1 (dv D):=by rw[hu6,q_]
 have w2:=RI u6 g2 k (k+1) D hkk hk1 (by omega) pg2
 rw[show k+1 - k=1 by omega]at w2
 obtain⟨u7,hu7⟩:∃u,u=u6.set g2 (.row 3 1 (dv (D.take k++D.drop (k+1)))):=⟨_,rfl⟩
 rw[<- hu7]at w2
 have f7:∀z,u5 z≠.free->u7 z=u5 z:=fun z hz=>by rw[hu7,j_ _ _ (nef hgf hz).1,f6 z hz]
 have t5:=(f6 b5 (by rw[q5];simp)).trans q5
 have t8:=(f6 b8 (by rw[q8];simp)).trans q8
 have v8:=(f7 b8 (by rw[q8];simp)).trans q8
 have v1:=(f7 g1 (by rw[r1];simp)).trans r1
 have v2:u7 g2=.row 3 1 (dv (iV D k)):=by rw[hu7,q_];rfl
 have HG2:=o_ (And.intro f7 hgf)
 clear hu6 hu7 f6 f7 hgf pg2 wd
 simp only[go_sem,seval]
 (repeat'(first|refine Ctl ?_|(with_reducible first|(refine k_ hK ?_;clear hK hE K E)|(refine k_ hKh ?_;clear hKh Kh)|(refine k_ hKb (aC ?_);clear hKb Kb))|(((with_reducible first|refine ae Sa (w2) ?_|refine ay fun Kh hKh=>?_|refine aG fun Kh hKh=>?_|refine aB fun Kb hKb=>?_))<;>(try simp(disch:=omega) only[go_sem,seval, *]))))
 all_goals(refine aq NG hQ ?_)
 have n82:¬ b8=g2:=fun e=>by rw[e,v2]at v8;cases v8
 have n28:¬ g2=b8:=fun e=>n82 e.symm
 have n81:¬ g1=b8:=fun e=>by rw[<- e,v1]at v8;cases v8
 have n12:¬ g1=g2:=fun e=>by rw[e,v2]at v1;cases v1
 have e1:((iV A k).map fun x=>VV.str x).length=D.length - 1:=by rw[z_,wI (by omega),hln]
 have e2:(dv (iV D k)).length=D.length - 1:=by rw[oz,wI hkl]
 refine⟨_,_,Wk.refl _,Fg.refl _,_,_,_,g2,_,_,_,rfl,(j_ _ _ n28).trans v2,e2,_,_,_,g1,_,_,_,rfl,((j_ _ _ n12).trans (j_ _ _ n81)).trans v1,e1,(St.set (St.set (St.set u7 b8 _) g2 .free) g1 .free,K3,m,ns3),?_,rfl,?_⟩
 ·rw[tm]
  dsimp only
  rw[HKG.out]
  simp[az]
 ·refine HR3.out.finG fun z hz=>?_
  by_cases e8:z=b8
  ·subst e8;exact .inr ⟨⟨_,l8⟩,fun e=>absurd G0.out.2 e⟩
  left
  have h5:=HG1.out.1 z hz
  have hz5:u5 z≠.free:=by rw[h5];exact hz
  rw[j_ _ _ (nef HG1.out.2 hz).1,j_ _ _ (nef HG2.out.2 hz5).1,j_ _ _ e8,HG2.out.1 z hz5,h5]
end Go.Proofs.YtohnaepcgnbaiaaGreatDoor
namespace Go.Proofs.YtohnaepcgnbaiaaGreatDoor
open Go.RowKit
attribute [-go_sem] bJ cX bH bG aT cU cT
theorem Ru {D:TW}{k d:Nat}(hk:D[k]?=some d):((ak D).take (k+1)).drop k=ak [d]:=by
 have hkl:k<D.length:=(x_.1 hk).1
 have e:(ak D)[k]?=some [.int .i64 (d:Int)]:=aH hk
 rw[List.take_add_one,e,Option.toList,List.drop_append,List.drop_of_length_le (by rw[r_];omega),r_,Nat.min_eq_left (by rw[natsL_len];omega),Nat.sub_self]
 rfl
theorem Rv (D:TW):(∀(x:Tb),x∈ak D->x.length=1)=True:=eq_true fun y hy=>by
 obtain⟨z,_,rfl⟩:=A_.1 hy
 rfl
theorem Rg {s:St}{KK:OB}{x m q c n B N k d v:Nat}{ns:Td}{ds:TN}{o:TU}(hn64:n<=64)(hM:RMem s KK x m q c n B ns ds o)(hD:DOk n ds o){ff:Tf}(A:TV)(o1:Own)(D:TW)(o2:Own)(hR:Rel4 ds o A D)(a:TT)(hix:ixA a A=(k:Int))(hk:D[k]?=some d)(hv:v<4)(hf:DepF (aj o D) ff)(mf:treeT n ff∈ns)
  (hc:CntN ns N) (hB:N+2+((aj o D).length+2) * 2 ^ (aj o D).length<=B) :
  SCalls Tryz.prog 20 [.ptr x 0,.agg [.lst (az A) o1,.lst (ak D) o2,.int .i64 (ixF n ns ff:Nat)],.str a,.int .i64 (v:Int)] s fun w u=>∃z:gI,w=.ret (.tup [.agg [.lst (az (iV A k)) .no,.lst (ak (iV D k)) .no,.int .i64 (ixF n z.2.2.2 (exF (fun v=>decide (v∈aj o [d])) fun y=>ff y && gZ o [d] [v] y):Nat)],.int .i64 0])/\u=z.1/\RelR s KK x m q c n B ns ds o (N+2+((aj o D).length+2) * 2 ^ (aj o D).length) (exF (fun v=>decide (v∈aj o [d])) fun y=>ff y && gZ o [d] [v] y) z:=by
 have hkl:k<D.length:=(x_.1 hk).1
 have hdm:d∈D:=y_ hk
 have hl8:=hR.l8
 have hk1:k+1<=D.length:=hkl
 have hkk:k<=k+1:=Nat.le_succ k
 have hk0:¬ (k:Int)<0:=by omega
 have hsl:=Ru hk
 have hV1:=Rv D
 have WM:=o_ (fun(u:St) (hu:∀z,s z≠.free->u z=s z)=>po hn64 (hM.more hu) hD [[.lst (az A) o1,.lst (ak D) o2,.int .i64 ((ixF n ns ff:Nat):Int)]] .full (fun z hz=>by
  rw[a_]at hz
  exact⟨⟨A,D,treeT n ff⟩,o1,o2,hz,hR.ok hD hf mf⟩) (by simp))
 have WIX:=o_ (fun(u:St)=>xW A o1 a (by have:=hR.nm.2.2;omega) u)
 have hdv:(aj o [d]).length=2:=by
  have:=Dom4.vl (ds:=ds) (o:=o) (D:=[d]) (fun z hz=>by rw[a_]at hz;subst hz;exact hR.d4 _ hdm)
  simpa using this
 have WT:=o_ (fun(u:St) (m':Nat) (M:RMem u KK x m' q c n B ns ds o)=>show OpFC 52 [.ptr c 0,.lst (ak [d]) .no,.lst (ak [v]) .full] u KK n B ns (N+2) (gZ o [d] [v]) from by
  have h:=tY M.C hD [d] [v] .no .full (fun z hz=>by rw[a_]at hz;subst hz;exact hR.d4.lt _ hdm) (by simp) (by simp) rfl (fun i k' v' y h1 h2 h3=>by
   match i with
   |0=>
    simp at h1 h2
    subst h1 h2
    obtain⟨nm,e⟩:=(hR.d4 _ hdm).1
    rw[e]at h3
    injection h3 with h3
    subst h3
    exact hv
   |i+1=>simp at h1) hc (by rw[hdv];omega)
  rw[hdv]at h
  exact h)
 have WO:=o_ (fun(u:St) (K':OB) (m':Nat) (ns':Td) (M:RMem u K' x m' q c n B ns' ds o) (e1:treeT n ff∈ns') (e2:treeT n (gZ o [d] [v])∈ns') (hc':CntN ns' (N+2))=>
  GQ (fw:=gZ o [d] [v]) M hD A o1 D o2 hR hk hf e1 ((zB o).mono (gk fun z hz=>by rw[a_]at hz;subst hz;exact hdm)) e2 hc' hB)
 have HM:=o_ hM
 have HMF:=o_ mf
 have HC:=o_ hc
 have hDl:=natsL_len (ks:=D)
 clear mf hc hB hf hk hdm hM hdv
 rw[hix]at WIX
 generalize (exF (fun v=>decide (v∈aj o [d])) fun y=>ff y && gZ o [d] [v] y)=GF at *
 generalize hkf:ixF n ns ff=kf at *
 have HKF:=o_ hkf
 clear hkf
 generalize hSA:az A=SA at *
 generalize hV:ak D=V at *
 generalize hSR:az (iV A k)=SR at *
 generalize hVR:ak (iV D k)=VR at *
 clear hSA hV hSR hVR
 refine am Tryz.func20 rfl Tryz.ntmps20 rfl fun Q hQ hQe=>?_
 (repeat'(first|refine Ctl ?_|((with_reducible refine k_ hK ?_);clear hK hE K E)|((first|(with_reducible refine ab fun K E hK hE=>?_)|((with_reducible refine au (fun b hb=>?_));(repeat(obtain⟨_,hb⟩:=hb))))<;>(try simp(disch:=omega) only[go_sem,seval, *]))))
 rename_i b5 hb5 n1 n2
 obtain⟨b8,hb8e⟩:∃z,z=b:=⟨_,rfl⟩
 subst hb8e
 have hb8:s b8=.free:=hb
 obtain⟨u0,hu0⟩:∃u,u=(s.set b5 (.obj 30 [.lst SA o1,.lst V o2,.int .i64 (kf:Int)])).set b8 (.obj 30 [.lst [] .full,.lst [] .full,.int .i64 0]):=⟨_,rfl⟩
 rw[<- hu0]
 have g0:∀z,s z≠.free->u0 z=s z:=fun z hz=>by rw[hu0,j_ _ _ (nef hb8 hz).1,j_ _ _ (nef hb5 hz).1]
 have k5:u0 b5=.obj 30 [.lst SA o1,.lst V o2,.int .i64 (kf:Int)]:=by rw[hu0,j_ _ _ (‹_›),q_]
 have k8:u0 b8=.obj 30 [.lst [] .full,.lst [] .full,.int .i64 0]:=by rw[hu0,q_]
 have wm:=WM.out u0 g0
 have G0:=o_ (And.intro g0 hb8)
 clear hu0 hb g0 WM hb5 hb8 n1 n2
 refine ao oY wm (fun a h=>?_)
 obtain⟨u1,m1⟩:=a
 obtain⟨M1,K1⟩:=h
 dsimp only at M1 K1 ⊢
 have R1:=RelR.win M1 K1 HMF.out HC.out
 have j5:=R1.own (HM.out.more G0.out.1) k5 (by decide) (by decide) (by decide) (by decide)
 have j8:=R1.own (HM.out.more G0.out.1) k8 (by decide) (by decide) (by decide) (by decide)
 have R2:RelR s KK x m q c n B ns ds o N ff (u1,KK,m1,ns):=(RelR.win (HM.out.more G0.out.1) (.new G0.out.1) HMF.out HC.out).then R1
 dsimp only at j5 j8
 have wt:=WT.out u1 m1 M1
 unfold OpFC at wt
 obtain⟨a1,hx1⟩:=M1.xf
 unfold spC at hx1
 have HR2:=o_ R2
 have HM1:=o_ M1
 have wix:=WIX.out u1
 have hl8:u1 b8≠.free:=by rw[j8];simp
 clear wm M1 K1 R1 R2 k5 k8 WIX WT
 generalize szC ds=SZ at *
 simp only[go_sem,seval]
 (repeat'(first|refine Ctl ?_|(with_reducible first|(refine k_ hK ?_;clear hK hE K E)|(refine k_ hKh ?_;clear hKh Kh)|refine ax 6 [([0,1,2,3,4,5,6,7,8,9,10,11],12,[[]])] [13,14,15,16,17] hQe fun K E hK hE=>?_)|((with_reducible refine bZ (fun h=>?_) (fun h=>?_))<;>(try(exfalso;assumption)))|(((with_reducible first|refine ab fun K E hK hE=>?_|refine ae kB (wix) ?_|refine ay fun Kh hKh=>?_|refine aB fun Kb hKb=>?_))<;>(try simp(disch:=omega) only[go_sem,seval,hDl,hsl,hkk,hk1,hV1,hk0,and_self,if_true, *]))))
 refine ao Qc wt (fun a h=>?_)
 obtain⟨u2,K2,ns2⟩:=a
 have R3t:RelR s KK x m q c n B ns ds o (N+2) (gZ o [d] [v]) (u2,K2,m1,ns2):=HR2.out.then (RelR.op HM1.out h)
 obtain⟨R3,e3⟩:=R3t.also HMF.out
 have l5:=(h.k.out b5 (by rw[j5];simp) (HM1.out.C.om.types j5 (by decide) (by decide) (by decide))).trans j5
 have l8:=(h.k.out b8 (by rw[j8];simp) (HM1.out.C.om.types j8 (by decide) (by decide) (by decide))).trans j8
 have wo:=WO.out u2 K2 m1 ns2 R3.M R3.mem R3t.mem R3.cnt
 dsimp only at l5 l8 e3 ⊢
 rw[e3,HKF.out]at wo
 generalize hkt:ixF n ns2 (gZ o [d] [v])=kt at *
 have HR3:=o_ R3
 clear h wt j5 j8 R3t R3 e3 hx1 wix hl8 WO hkt
 simp only[go_sem,seval]
 (repeat'(first|refine Ctl ?_|(with_reducible first|(refine k_ hK ?_;clear hK hE K E)|(refine k_ hKh ?_;clear hKh Kh)|(refine k_ hKb (aC ?_);clear hKb Kb))|((with_reducible refine bZ (fun h=>?_) (fun h=>?_))<;>(try(exfalso;assumption)))|(((with_reducible first|refine ab fun K E hK hE=>?_|refine aG fun Kh hKh=>?_))<;>(try simp(disch:=omega) only[go_sem,seval, *]))))
 refine ao Rn wo (fun a h=>?_)
 obtain⟨u3,K3,m3,ns3⟩:=a
 have p8:=h.own HR3.out.M l8 (by decide) (by decide) (by decide) (by decide)
 have HR4:=o_ (HR3.out.then h)
 dsimp only at p8 ⊢
 generalize hkg:ixF n ns3 GF=kg at *
 have HKG:=o_ hkg
 clear h wo l5 l8 hkg
 simp only[go_sem,seval,p8]
 (repeat'(first|refine Ctl ?_|((with_reducible refine k_ hK ?_);clear hK hE K E)))
 all_goals(refine aq NK hQ ?_)
 all_goals refine⟨_,_,Wk.refl _,Fg.refl _,(St.set u3 b8 _,K3,m3,ns3),?_,rfl,?_⟩
 ·dsimp only
  rw[HKG.out]
 ·refine HR4.out.finG fun z hz=>?_
  by_cases e8:z=b8
  ·subst e8;exact .inr ⟨⟨_,p8⟩,fun e=>absurd G0.out.2 e⟩
  left
  rw[j_ _ _ e8]
def i7 (o:TU)(d e:Nat)(x:Tg):Bool:=decide (bX (o.getD d []) x<4) && decide (bX (o.getD d []) x=bX (o.getD e []) x)
theorem qA {o:TU}{D:TW}{d e:Nat}(hd:d∈D)(he:e∈D):DepF (aj o D) (i7 o d e):=fun x y h=>by
 have h1:=cO (vs:=o.getD d []) (x:=x) (y:=y) fun v hv=>h v (gk (ks:=[d]) (fun z hz=>by rw[a_]at hz;subst hz;exact hd) v (by simpa [aj]using hv))
 have h2:=cO (vs:=o.getD e []) (x:=x) (y:=y) fun v hv=>h v (gk (ks:=[e]) (fun z hz=>by rw[a_]at hz;subst hz;exact he) v (by simpa [aj]using hv))
 unfold i7
 rw[h1,h2]
theorem Rf {s:St}{KK:OB}{x m q c n B N j k e d:Nat}{ns:Td}{ds:TN}{o:TU}(hn64:n<=64)(hM:RMem s KK x m q c n B ns ds o)(hD:DOk n ds o){ff:Tf}(A:TV)(o1:Own)(D:TW)(o2:Own)(hR:Rel4 ds o A D)(a b:TT)(hix:ixA a A=(j:Int))(hix2:ixA b A=(k:Int))(hj:D[j]?=some e)(hk:D[k]?=some d)(hjk:¬ j=k)(hf:DepF (aj o D) ff)(mf:treeT n ff∈ns)
  (hc:CntN ns N) (hB:N+132+((aj o D).length+2) * 2 ^ (aj o D).length<=B) :
  SCalls Tryz.prog 21 [.ptr x 0,.agg [.lst (az A) o1,.lst (ak D) o2,.int .i64 (ixF n ns ff:Nat)],.str a,.str b] s fun w u=>∃z:gI,w=.ret (.tup [.agg [.lst (az (iV A k)) .no,.lst (ak (iV D k)) .no,.int .i64 (ixF n z.2.2.2 (exF (fun v=>decide (v∈aj o [d])) fun y=>ff y && i7 o e d y):Nat)],.int .i64 0])/\u=z.1/\RelR s KK x m q c n B ns ds o (N+132+((aj o D).length+2) * 2 ^ (aj o D).length) (exF (fun v=>decide (v∈aj o [d])) fun y=>ff y && i7 o e d y) z:=by
 have hkl:k<D.length:=(x_.1 hk).1
 have hdm:d∈D:=y_ hk
 have hem:e∈D:=y_ hj
 have hde:¬ e=d:=fun h=>hjk (by
  subst h
  exact(List.getElem?_inj (x_.1 hj).1 hR.nd).1 (hj.trans hk.symm))
 have hj0:¬ (j:Int)<0:=by omega
 have hjk2:¬ (j:Int)=(k:Int):=by omega
 have hvj:=aH hj
 have hvk:=aH hk
 have hsz1:(szC ds)[e]?=some [.int .i64 4]:=by obtain⟨nm,h⟩:=(hR.d4 _ hem).1;exact kT h
 have hsz2:(szC ds)[d]?=some [.int .i64 4]:=by obtain⟨nm,h⟩:=(hR.d4 _ hdm).1;exact kT h
 have hl8:=hR.l8
 have hk0:¬ (k:Int)<0:=by omega
 have WM:=o_ (fun(u:St) (hu:∀z,s z≠.free->u z=s z)=>po hn64 (hM.more hu) hD [[.lst (az A) o1,.lst (ak D) o2,.int .i64 ((ixF n ns ff:Nat):Int)]] .full (fun z hz=>by
  rw[a_]at hz
  exact⟨⟨A,D,treeT n ff⟩,o1,o2,hz,hR.ok hD hf mf⟩) (by simp))
 have WIX:=o_ (fun(u:St)=>xW A o1 a (by have:=hR.nm.2.2;omega) u)
 have WIY:=o_ (fun(u:St)=>xW A o1 b (by have:=hR.nm.2.2;omega) u)
 have WT:=o_ (fun(u:St) (m':Nat) (M:RMem u KK x m' q c n B ns ds o)=>show OpFC 54 [.ptr c 0,.int .i64 (e:Int),.int .i64 (d:Int)] u KK n B ns (N+132) (i7 o e d) from by
  obtain⟨nm1,h1⟩:=(hR.d4 _ hem).1
  obtain⟨nm2,h2⟩:=(hR.d4 _ hdm).1
  have l1:=(hR.d4 _ hem).2
  have l2:=(hR.d4 _ hdm).2
  have e1:o[e]?=some (o.getD e []):=by
   rw[List.getD_eq_getElem?_getD,m_ (by rw[hD.len];exact hR.d4.lt _ hem)];rfl
  have e2:o[d]?=some (o.getD d []):=by
   rw[List.getD_eq_getElem?_getD,m_ (by rw[hD.len];exact hR.d4.lt _ hdm)];rfl
  have h:=Rp M.C hD h1 h2 e1 e2 (by rw[l1,l2]) hde hc (by rw[l1];omega)
  rw[l1]at h
  exact h)
 have WO:=o_ (fun(u:St) (K':OB) (m':Nat) (ns':Td) (M:RMem u K' x m' q c n B ns' ds o) (e1:treeT n ff∈ns') (e2:treeT n (i7 o e d)∈ns') (hc':CntN ns' (N+132))=>
  GQ (fw:=i7 o e d) M hD A o1 D o2 hR hk hf e1 (qA hem hdm) e2 hc' hB)
 have HM:=o_ hM
 have HMF:=o_ mf
 have HC:=o_ hc
 have hDl:=natsL_len (ks:=D)
 clear mf hc hB hf hk hj hdm hem hM hde
 rw[hix]at WIX
 rw[hix2]at WIY
 generalize (exF (fun v=>decide (v∈aj o [d])) fun y=>ff y && i7 o e d y)=GF at *
 generalize hkf:ixF n ns ff=kf at *
 have HKF:=o_ hkf
 clear hkf
 generalize hSA:az A=SA at *
 generalize hV:ak D=V at *
 generalize hSR:az (iV A k)=SR at *
 generalize hVR:ak (iV D k)=VR at *
 clear hSA hV hSR hVR
 refine am Tryz.func21 rfl Tryz.ntmps21 rfl fun Q hQ hQe=>?_
 (repeat'(first|refine Ctl ?_|((with_reducible refine k_ hK ?_);clear hK hE K E)|((first|(with_reducible refine ab fun K E hK hE=>?_)|((with_reducible refine au (fun b hb=>?_));(repeat(obtain⟨_,hb⟩:=hb))))<;>(try simp(disch:=omega) only[go_sem,seval, *]))))
 rename_i b5 hb5 n1 n2
 obtain⟨b8,hb8e⟩:∃z,z=b:=⟨_,rfl⟩
 subst hb8e
 have hb8:s b8=.free:=hb
 obtain⟨u0,hu0⟩:∃u,u=(s.set b5 (.obj 30 [.lst SA o1,.lst V o2,.int .i64 (kf:Int)])).set b8 (.obj 30 [.lst [] .full,.lst [] .full,.int .i64 0]):=⟨_,rfl⟩
 rw[<- hu0]
 have g0:∀z,s z≠.free->u0 z=s z:=fun z hz=>by rw[hu0,j_ _ _ (nef hb8 hz).1,j_ _ _ (nef hb5 hz).1]
 have k5:u0 b5=.obj 30 [.lst SA o1,.lst V o2,.int .i64 (kf:Int)]:=by rw[hu0,j_ _ _ (‹_›),q_]
 have k8:u0 b8=.obj 30 [.lst [] .full,.lst [] .full,.int .i64 0]:=by rw[hu0,q_]
 have wm:=WM.out u0 g0
 have G0:=o_ (And.intro g0 hb8)
 clear hu0 hb g0 WM hb5 hb8 n1 n2
 refine ao oY wm (fun a h=>?_)
 obtain⟨u1,m1⟩:=a
 obtain⟨M1,K1⟩:=h
 dsimp only at M1 K1 ⊢
 have R1:=RelR.win M1 K1 HMF.out HC.out
 have j5:=R1.own (HM.out.more G0.out.1) k5 (by decide) (by decide) (by decide) (by decide)
 have j8:=R1.own (HM.out.more G0.out.1) k8 (by decide) (by decide) (by decide) (by decide)
 have R2:RelR s KK x m q c n B ns ds o N ff (u1,KK,m1,ns):=(RelR.win (HM.out.more G0.out.1) (.new G0.out.1) HMF.out HC.out).then R1
 dsimp only at j5 j8
 have wt:=WT.out u1 m1 M1
 unfold OpFC at wt
 obtain⟨a1,hx1⟩:=M1.xf
 unfold spC at hx1
 have HR2:=o_ R2
 have HM1:=o_ M1
 have wix:=WIX.out u1
 have wiy:=WIY.out u1
 have hl8:u1 b8≠.free:=by rw[j8];simp
 clear wm M1 K1 R1 R2 k5 k8 WIX WIY WT
 generalize szC ds=SZ at *
 simp only[go_sem,seval]
 (repeat'(first|refine Ctl ?_|(with_reducible first|(refine k_ hK ?_;clear hK hE K E)|(refine k_ hKh ?_;clear hKh Kh)|(refine k_ hKb (aC ?_);clear hKb Kb)|refine ax 3 [([0,1,2,4,5,6],3,[[4,5,6]]),([],7,[[],[]])] [8,9] hQe fun K E hK hE=>?_|refine ax 4 [] [0,1,2,3,4,5,6,7,8,9,10,11,12,13,14,15,16,17,18,19,20,21,22,23,24,25,26,27,28,29,30,31,32,33,34,35] hQe fun K E hK hE=>?_|refine ax 6 [([0,1,2,3,4,5,6,7,8,9,10,11,12,13],14,[[]])] [15,16,17,18,19] hQe fun K E hK hE=>?_)|((with_reducible refine bZ (fun h=>?_) (fun h=>?_))<;>(try(exfalso;assumption)))|(((with_reducible first|refine ae kB (wix) ?_|refine ae kB (wiy) ?_|refine ay fun Kh hKh=>?_|refine aG fun Kh hKh=>?_|refine aB fun Kb hKb=>?_))<;>(try simp(disch:=omega) only[go_sem,seval,hDl,hk0,hj0,hjk2,hvj,hvk,hsz1,hsz2, *]))))
 refine ao Se wt (fun a h=>?_)
 obtain⟨u2,K2,ns2⟩:=a
 have R3t:RelR s KK x m q c n B ns ds o (N+132) (i7 o e d) (u2,K2,m1,ns2):=HR2.out.then (RelR.op HM1.out h)
 obtain⟨R3,e3⟩:=R3t.also HMF.out
 have l5:=(h.k.out b5 (by rw[j5];simp) (HM1.out.C.om.types j5 (by decide) (by decide) (by decide))).trans j5
 have l8:=(h.k.out b8 (by rw[j8];simp) (HM1.out.C.om.types j8 (by decide) (by decide) (by decide))).trans j8
 have wo:=WO.out u2 K2 m1 ns2 R3.M R3.mem R3t.mem R3.cnt
 dsimp only at l5 l8 e3 ⊢
 rw[e3,HKF.out]at wo
 generalize hkt:ixF n ns2 (i7 o e d)=kt at *
 have HR3:=o_ R3
 clear h wt j5 j8 R3t R3 e3 hx1 wix wiy hl8 WO hkt
 simp only[go_sem,seval]
 (repeat'(first|refine Ctl ?_|(with_reducible first|(refine k_ hK ?_;clear hK hE K E)|(refine k_ hKh ?_;clear hKh Kh)|(refine k_ hKb (aC ?_);clear hKb Kb))|((with_reducible refine bZ (fun h=>?_) (fun h=>?_))<;>(try(exfalso;assumption)))|(((with_reducible first|refine ab fun K E hK hE=>?_|refine aG fun Kh hKh=>?_))<;>(try simp(disch:=omega) only[go_sem,seval, *]))))
 refine ao Rn wo (fun a h=>?_)
 obtain⟨u3,K3,m3,ns3⟩:=a
 have p8:=h.own HR3.out.M l8 (by decide) (by decide) (by decide) (by decide)
 have HR4:=o_ (HR3.out.then h)
 dsimp only at p8 ⊢
 generalize hkg:ixF n ns3 GF=kg at *
 have HKG:=o_ hkg
 clear h wo l5 l8 hkg
 simp only[go_sem,seval,p8]
 (repeat'(first|refine Ctl ?_|((with_reducible refine k_ hK ?_);clear hK hE K E)))
 all_goals(refine aq NJ hQ ?_)
 all_goals refine⟨_,_,Wk.refl _,Fg.refl _,(St.set u3 b8 _,K3,m3,ns3),?_,rfl,?_⟩
 ·dsimp only
  rw[HKG.out]
 ·refine HR4.out.finG fun z hz=>?_
  by_cases e8:z=b8
  ·subst e8;exact .inr ⟨⟨_,p8⟩,fun e=>absurd G0.out.2 e⟩
  left
  rw[j_ _ _ e8]
theorem Fo {s:St}{KK:OB}{x m q c n B N:Nat}{ns:Td}{ds:TN}{o:TU}(hn64:n<=64)(hM:RMem s KK x m q c n B ns ds o)(hD:DOk n ds o){ff:Tf}(A:TV)(o1:Own)(D:TW)(o2:Own)(hR:Rel4 ds o A D)(hDne:D≠[])(hf:DepF (aj o D) ff)(mf:treeT n ff∈ns)
  (A2:TV) (o3:Own) (h2:bi A2) (hne2:A2≠[]) (hsub:∀a,a∈A2->a∈A) (hc:CntN ns N) (hB:N+D.length * (20+2 ^ (2 * D.length))+((aj o D).length+2) * 2 ^ (aj o D).length<=B) :
  SCalls Tryz.prog 14 [.ptr x 0,.agg [.lst (az A) o1,.lst (ak D) o2,.int .i64 (ixF n ns ff:Nat)],.lst (az A2) o3] s fun w u=>∃a:gI,w=.ret (.tup [.agg [.lst (az A2) .no,.lst (ak (aK A D A2)) .no,.int .i64 (ixF n a.2.2.2 (exF (fun v=>decide (v∈aj o (c7 (fun d=>decide (d∈aK A D A2)) D))) ff):Nat)],.int .i64 0])/\u=a.1/\RelR s KK x m q c n B ns ds o (N+D.length * (20+2 ^ (2 * D.length))+((aj o D).length+2) * 2 ^ (aj o D).length) (exF (fun v=>decide (v∈aj o (c7 (fun d=>decide (d∈aK A D A2)) D))) ff) a:=by
 have hl8:=hR.l8
 have h28:=h2.2.2
 have wm:=fun(u:St) (hu:∀z,s z≠.free->u z=s z)=>po hn64 (hM.more hu) hD [[.lst (az A) o1,.lst (ak D) o2,.int .i64 ((ixF n ns ff:Nat):Int)]] .full (fun z hz=>by
  rw[a_]at hz
  exact⟨⟨A,D,treeT n ff⟩,o1,o2,hz,hR.ok hD hf mf⟩) (by simp)
 have wix:=fun(u:St) (a:TT)=>xW A o1 a (by have:=hR.nm.2.2;omega) u
 have wcs:=fun u=>iA u A2 o3 (by omega)
 have wcm:=fun u=>lF u D o2 hDne (by omega)
 have hA2l:=dj A2
 have hDl:=natsL_len (ks:=D)
 have HSA2:=o_ (fun(i:Nat) (a:TT) (e:A2[i]?=some a)=>iD e)
 have HSD:=o_ (fun(i:Nat) (d:Nat) (e:D[i]?=some d)=>aH e)
 have WM:=o_ wm
 have WIX:=o_ wix
 have WCS:=o_ wcs
 have WCM:=o_ wcm
 have HM:=o_ hM
 have HMF:=o_ mf
 have HC:=o_ hc
 have HR:=o_ hR
 have H2:=o_ h2
 have HSUB:=o_ hsub
 have HB:=o_ hB
 have HF:=o_ hf
 have HDD:=o_ hD
 clear wm wix wcs wcm hM mf hc hR h2 hsub hB hf hD
 generalize hkf:ixF n ns ff=kf at *
 have HKF:=o_ hkf
 clear hkf
 generalize az A=SA at *
 generalize az A2=SB at *
 generalize hV:ak D=V at *
 have HV:=o_ hV
 clear hV
 refine am Tryz.func14 rfl Tryz.ntmps14 rfl fun Q hQ hQe=>?_
 (repeat'(first|refine Ctl ?_|((with_reducible refine k_ hK ?_);clear hK hE K E)|((first|(with_reducible refine ab fun K E hK hE=>?_)|((with_reducible refine au (fun b hb=>?_));(repeat(obtain⟨_,hb⟩:=hb))))<;>(try simp(disch:=omega) only[go_sem,seval, *]))))
 rename_i b4 hb4 n1 n2
 obtain⟨b6,hb6e⟩:∃z,z=b:=⟨_,rfl⟩
 subst hb6e
 have hb6:s b6=.free:=hb
 obtain⟨u0,hu0⟩:∃u,u=(s.set b4 (.obj 30 [.lst SA o1,.lst V o2,.int .i64 (kf:Int)])).set b6 (.obj 30 [.lst [] .full,.lst [] .full,.int .i64 0]):=⟨_,rfl⟩
 rw[<- hu0]
 have g0:∀z,s z≠.free->u0 z=s z:=fun z hz=>by rw[hu0,j_ _ _ (nef hb6 hz).1,j_ _ _ (nef hb4 hz).1]
 have k4:u0 b4=.obj 30 [.lst SA o1,.lst V o2,.int .i64 (kf:Int)]:=by rw[hu0,j_ _ _ (‹_›),q_]
 have k6:u0 b6=.obj 30 [.lst [] .full,.lst [] .full,.int .i64 0]:=by rw[hu0,q_]
 have wm:=WM.out u0 g0
 have G0:=o_ (And.intro g0 hb6)
 clear hu0 hb g0 WM hb4 hb6 n1 n2
 refine ao oY wm (fun a h=>?_)
 obtain⟨u1,m1⟩:=a
 obtain⟨M1,K1⟩:=h
 dsimp only at M1 K1 ⊢
 have R1:=RelR.win M1 K1 HMF.out HC.out
 have j4:=R1.own (HM.out.more G0.out.1) k4 (by decide) (by decide) (by decide) (by decide)
 have j6:=R1.own (HM.out.more G0.out.1) k6 (by decide) (by decide) (by decide) (by decide)
 have R2:RelR s KK x m q c n B ns ds o N ff (u1,KK,m1,ns):=(RelR.win (HM.out.more G0.out.1) (.new G0.out.1) HMF.out HC.out).then R1
 dsimp only at j4 j6
 have HR2:=o_ R2
 have HM1:=o_ M1
 have hl4:u1 b4≠.free:=by rw[j4];simp
 have hl6:u1 b6≠.free:=by rw[j6];simp
 clear wm M1 K1 R1 R2 k4 k6
 simp only[go_sem,seval]
 (repeat'(first|refine Ctl ?_|((with_reducible refine k_ hK ?_);clear hK hE K E)|((with_reducible refine bZ (fun h=>?_) (fun h=>?_))<;>(try(exfalso;assumption)))|((first|(with_reducible first|refine ab fun K E hK hE=>?_|refine ae lV (WCS.out _) ?_)|((with_reducible refine au (fun b hb=>?_));(repeat(obtain⟨_,hb⟩:=hb));(try(obtain⟨_,_⟩:=nef hb hl4;obtain⟨_,_⟩:=nef hb hl6))))<;>(try simp(disch:=omega) only[go_sem,seval, *]))))
 rename_i b8 hb8 _ _ _ _ n1 n2 _ _ _ _
 obtain⟨bm,hbme⟩:∃z,z=b:=⟨_,rfl⟩
 subst hbme
 have hbm:u1 bm=.free:=hb
 obtain⟨S0,hS0⟩:∃u,u=(u1.set b8 (.obj 30 [.lst SB .no,.lst [] .full,.int .i64 0])).set bm (.map []):=⟨_,rfl⟩
 rw[<- hS0]
 have k8:S0 b8=.obj 30 [.lst SB .no,.lst [] .full,.int .i64 0]:=by rw[hS0,j_ _ _ n2,q_]
 have n8m:¬ b8=bm:=n2
 have f0:∀z,u1 z≠.free->S0 z=u1 z:=fun z hz=>by rw[hS0,j_ _ _ (nef hbm hz).1,j_ _ _ (nef hb8 hz).1]
 have m0:S0 bm=.map (mpV bP (g9 [])):=by rw[hS0,q_];rfl
 refine Cj (GS.rawnil (i:=1) k8 rfl) ?_
 simp only[List.set_cons_succ,List.set_cons_zero]
 have hI:KI u1 (S0.set b8 (.obj 30 [.lst SB .no,.raw (.slice none 0 0),.int .i64 0])) b8 bm (.lst SB .no) (A2.take 0) (aK A D (A2.take 0)):=
  ⟨fun z hz=>(j_ _ _ (nef hb8 hz).1).trans (f0 z hz),.inl ⟨rfl,q_ _ _ _⟩,(j_ _ _ fun e=>n8m e.symm).trans m0,hb8,hbm⟩
 have HI:=o_ hI
 clear hS0 k8 n8m f0 m0 hI hb hb8 hbm n1 n2 hl6
 refine aY (fun f env s'=>∃(i:Nat),i<=A2.length/\f+i=A2.length/\Hid (KI u1 s' b8 bm (.lst SB .no) (A2.take i) (aK A D (A2.take i)))/\env 0=.ptr x 0/\env 4=.ptr b4 0/\env 6=.ptr b6 0/\env 8=.ptr b8 0/\env 9=.mp bm/\env 26=.lst SB o3/\env 27=.int .i64 A2.length/\env 28=.int .i64 i) A2.length
  ⟨0,by omega,by omega,HI,ac,ac,ac,ac,ac,ac,(by(rw[<- hA2l];((try simp(disch:=assumption) only[go_sem,seval, *])<;>rfl))),ac⟩ ?_
 clear HI
 rintro f env s' ⟨i,hi,hfi,HI,e0,e4,e6,e8,e9,e26,e27,e28⟩
 by_cases hlt:i<A2.length
 ·obtain⟨a,ha⟩:∃a,A2[i]?=some a:=⟨_,m_ hlt⟩
  have hxa:=HSA2.out i a ha
  have J:=HI.out
  have p4:=(J.fr b4 hl4).trans j4
  have htk:A2.take (i+1)=A2.take i++[a]:=by rw[List.take_add_one,ha];rfl
  have hno:a∉A2.take i:=fun hin=>by
   have h1:(A2.take (i+1)).Nodup:=H2.out.1.sublist (List.take_sublist _ _)
   rw[htk,List.nodup_append]at h1
   exact h1.2.2 a hin a (by simp) rfl
  have hpt:=nA hno
  rw[<- htk]at hpt
  have hlk:(lkA a (g9 (A2.take i))).getD false=false:=by rw[nB hno];rfl
  obtain⟨k,hix,hk⟩:∃k:Nat,ixA a A=(k:Int)/\A[k]?=some a:=by
   rcases lk a A with ⟨_,h⟩|h
   ·exact absurd (HSUB.out a (y_ ha)) h
   ·exact h
  have wix:=WIX.out s' a
  rw[hix]at wix
  obtain⟨d,hd⟩:∃d,D[k]?=some d:=⟨_,m_ (by have h1:=HR.out.ln;have:=(x_.1 hk).1;omega)⟩
  have hvd:=HSD.out k d hd
  have hka:=qr (A:=A) (D:=D) ha hix hd
  have hkl:(aK A D (A2.take i)).length<=8:=by rw[dp,r_];omega
  have mt:=J.mt
  have HKA:=o_ hka
  have HJ:=o_ J
  have hk0:¬ (k:Int)<0:=by omega
  clear J htk hno hix hk hd hka ha HI
  generalize aK A D (A2.take i)=Dp at *
  (repeat'(first|(with_reducible refine aR 12 ?_)|refine Ctl ?_|((with_reducible refine k_ hK ?_);clear hK hE K E)|((with_reducible refine bZ (fun h=>?_) (fun h=>?_))<;>(try(exfalso;assumption)))|(((with_reducible first|refine ab fun K E hK hE=>?_|refine ae kB (wix) ?_))<;>(try simp(disch:=omega) only[go_sem,seval,hA2l,hxa,hlk,hpt,hk0, *]))))
  unfold bC
  have J1:=HJ.out.put (e':=A2.take (i+1))
  refine bE fun S1 hS1=>?_
  rw[<- hS1]at J1
  have p4:=(J1.fr b4 hl4).trans j4
  have HJ1:=o_ J1
  clear hS1 mt wix hpt hlk HJ
  rcases J1.o8 with ⟨hnil,o8⟩|⟨g,o8,hg,hgf⟩
  ·subst hnil
   have h8:S1 b8≠.free:=by rw[o8];simp
   clear J1
   (repeat'(first|refine Ctl ?_|(with_reducible first|(refine k_ hK ?_;clear hK hE K E)|(refine k_ hKh ?_;clear hKh Kh)|(refine k_ hKb (aC ?_);clear hKb Kb)|refine ax 12 [([0,1,2,3,4,5,6,7],8,[[]]),([9],10,[[],[]])] [] hQe fun K E hK hE=>?_)|((first|(with_reducible first|refine ab fun K E hK hE=>?_|refine ay fun Kh hKh=>?_|refine aG fun Kh hKh=>?_|refine aB fun Kb hKb=>?_)|((with_reducible refine fG (fun bM hM=>?_));(try(obtain⟨_,_⟩:=nef hM (a:=b8) (by exact h8)))))<;>(try simp(disch:=omega) only[go_sem,seval,hA2l,hvd,List.flatten_cons,List.flatten_nil,List.append_nil, *]))))
   have H7:=HJ1.out.app0 hM d
   rw[show [d]=[]++[d] from rfl,<- HKA.out]at H7
   all_goals exact⟨f - 1,by omega,i+1,by omega,by omega,o_ H7,ac,ac,ac,ac,ac,ac,ac,ac⟩
  ·have n8g:¬ b8=g:=fun e=>by rw[e,hg]at o8;cases o8
   have n4g:¬ b4=g:=fun e=>by rw[e,hg]at p4;cases p4
   have hDpl:(List.map (fun(k:Nat)=>VV.int .i64 (k:Int)) Dp).length=Dp.length:=z_ _
   clear J1
   (repeat'(first|refine Ctl ?_|(with_reducible first|(refine k_ hK ?_;clear hK hE K E)|(refine k_ hKh ?_;clear hKh Kh)|(refine k_ hKb (aC ?_);clear hKb Kb)|refine ax 12 [([0,1,2,3,4,5,6,7],8,[[]]),([9],10,[[],[]])] [] hQe fun K E hK hE=>?_)|((first|(with_reducible first|refine ab fun K E hK hE=>?_|refine ay fun Kh hKh=>?_|refine aG fun Kh hKh=>?_|refine aB fun Kb hKb=>?_)|((with_reducible refine cJ (fun bM hM=>?_));(try(obtain⟨_,_⟩:=nef hM (a:=b8) (by rw[j_ _ _ n8g,o8];simp)))))<;>(try simp(disch:=omega) only[go_sem,seval,hA2l,hvd,hDpl,List.flatten_cons,List.flatten_nil,List.append_nil, *]))))
   have H7:=HJ1.out.app o8 hg hgf hM d
   rw[<- HKA.out]at H7
   all_goals exact⟨f - 1,by omega,i+1,by omega,by omega,o_ H7,ac,ac,ac,ac,ac,ac,ac,ac⟩
 ·have hin:i=A2.length:=by omega
  have J:=HI.out
  rw[hin,b_]at J
  have hA2p:0<A2.length:=List.length_pos_iff.2 hne2
  have hkl:(aK A D A2).length=A2.length:=dp
  have hnl:¬ (i:Int)<(A2.length:Int):=by omega
  rcases J.o8 with ⟨hnil,_⟩|⟨g,o8,hg,hgf⟩
  ·exfalso;rw[hnil]at hkl;simp at hkl;omega
  have HJ:=o_ J
  clear HI J
  (repeat'(first|(with_reducible refine aR 14 ?_)|refine Ctl ?_|((with_reducible refine k_ hK ?_);clear hK hE K E)|((with_reducible refine bZ (fun h=>?_) (fun h=>?_))<;>(try(exfalso;omega)))|(((with_reducible refine ab fun K E hK hE=>?_))<;>(try simp(disch:=omega) only[go_sem,seval,hA2l,hnl, *]))))
  unfold bC
  refine lD (GSg.frz (i:=1) o8 rfl hg (z_ _)) ?_
  simp only[List.set_cons_zero,List.set_cons_succ]
  rw[tm]
  refine bE fun SF hSF=>?_
  have k8:SF b8=.obj 30 [.lst SB .no,.lst (ak (aK A D A2)) .no,.int .i64 0]:=by rw[hSF,q_]
  have fr:∀z,u1 z≠.free->SF z=u1 z:=fun z hz=>by
   rw[hSF,j_ _ _ (fun e=>hz (by rw[e];exact HJ.out.f.1)),j_ _ _ (fun e=>hz (by rw[e];exact hgf)),HJ.out.fr z hz]
  have HK:=o_ (show aK A D A2=aK A D A2 from rfl)
  have hKl8:(aK A D A2).length<=8:=by rw[hkl];exact h28
  generalize hKD:aK A D A2=KD at *
  have HKD:=o_ hKD
  have MF:=HM1.out.more fr
  have wc:=xY MF HDD.out SA o1 D o2 HR.out.d4 hl8 HF.out HMF.out HC.out (by have:=HB.out;omega)
  rw[HV.out,HKF.out]at wc
  have p4:=(fr b4 hl4).trans j4
  have hR0:=HR2.out.new fr
  have HMF2:=o_ MF
  have HR0:Hid (RelR s KK x m q c n B ns ds o N ff (SF,KK,m1,ns)):=o_ hR0
  have HFR:=o_ fr
  have hf8:u1 b8=.free:=HJ.out.f.1
  have HF8:=o_ hf8
  clear hSF fr MF hR0 hg hgf o8 HJ hKD HK hkl hf8
  (repeat'((((with_reducible refine ab fun K E hK hE=>?_))<;>(try simp(disch:=omega) only[go_sem,seval, *]))))
  refine ao GU wc (fun a h=>?_)
  obtain⟨u3,K3,ns3⟩:=a
  try dsimp only at h
  have HR3:Hid (RelR s KK x m q c n B ns ds o (N+D.length * (20+2 ^ (2 * D.length))) ff (u3,K3,m1,ns3)):=o_ (HR0.out.then (RelR.op HMF2.out h))
  have l4:=(h.k.out b4 (by rw[p4];simp) (HMF2.out.C.om.types p4 (by decide) (by decide) (by decide))).trans p4
  have p6:=(HFR.out b6 (by rw[j6];simp)).trans j6
  have l6:=(h.k.out b6 (by rw[p6];simp) (HMF2.out.C.om.types p6 (by decide) (by decide) (by decide))).trans p6
  have l8:=(h.k.out b8 (by rw[k8];simp) (HMF2.out.C.om.types k8 (by decide) (by decide) (by decide))).trans k8
  have e3:ixF n ns3 ff=kf:=(bn h.pre HMF.out).2.trans HKF.out
  have HM3:=o_ h.mem
  have HC3:=o_ h.cnt
  obtain⟨a3,hx3⟩:=HR3.out.M.xf
  unfold spC at hx3
  have HE3:=o_ e3
  dsimp only at l4 l6 l8 hx3 ⊢
  clear h wc p4 p6 k8 e3
  generalize szC ds=SZ at *
  simp only[go_sem,seval,l4,e4]
  rw[v_ _ _ _ l4]
  (repeat'(first|refine Ctl ?_|(with_reducible first|(refine k_ hK ?_;clear hK hE K E)|(refine k_ hKh ?_;clear hKh Kh)|refine ax 17 [([0,1,2,3,4,5,7],6,[[0,1,2,3,7]]),([],8,[[],[0,1,2,3]]),([],9,[[],[],[]])] [10,11,12,13,14] hQe fun K E hK hE=>?_)|((with_reducible refine bZ (fun h=>?_) (fun h=>?_))<;>(try(exfalso;assumption)))|(((with_reducible first|refine ab fun K E hK hE=>?_|refine ay fun Kh hKh=>?_|refine aB fun Kb hKb=>?_))<;>(try simp(disch:=omega) only[go_sem,seval, *]))))
  refine ao ft (WCM.out _) (fun a h=>?_)
  obtain⟨u5,g⟩:=a
  obtain⟨hgf,hu5⟩:=h
  dsimp only at hgf hu5 ⊢
  have f5:∀z,u3 z≠.free->u5 z=u3 z:=fun z hz=>by rw[hu5,j_ _ _ (nef hgf hz).1]
  have pg:u5 g=.row 3 1 (dv D):=by rw[hu5,q_]
  have p8:=(f5 b8 (by rw[l8];simp)).trans l8
  have wd:=zf u5 g b8 D (.lst SB .no) (.int .i64 0) KD pg p8 (by omega) (by omega)
  obtain⟨u6,hu6⟩:∃z,z=u5.set g .free:=⟨_,rfl⟩
  rw[<- hu6]at wd
  have f6:∀z,u3 z≠.free->u6 z=u3 z:=fun z hz=>by rw[hu6,j_ _ _ (nef hgf hz).1,f5 z hz]
  have hkeep:∀d,d∈c7 (fun d=>decide (d∈KD)) D->d∈D:=fun d hd=>(List.mem_filter.1 hd).1
  have M6:=HR3.out.M.more f6
  have wv:=gK M6.C HDD.out (c7 (fun d=>decide (d∈KD)) D) .no (fun d hd=>HR.out.d4.lt d (hkeep d hd)) (by have:=qs (p:=fun d=>decide (d∈KD)) (l:=D);omega)
  have hkn:(c7 (fun d=>decide (d∈KD)) D).Nodup:=HR.out.nd.sublist List.filter_sublist
  rw[if_pos hkn]at wv
  have hKs:=gn HDD.out (ks:=c7 (fun d=>decide (d∈KD)) D) (fun d hd=>HR.out.d4.lt d (hkeep d hd))
  have hKl:=qs (p:=fun d=>decide (d∈KD)) (l:=D)
  have we:=y8 (vs:=aj o (c7 (fun d=>decide (d∈KD)) D)) M6.C.om M6.C.qo HF.out (aJ HDD.out HR.out.d4.lt) HM3.out .no (cr HDD.out hkn (fun d hd=>HR.out.d4.lt d (hkeep d hd))) (aJ HDD.out (fun d hd=>HR.out.d4.lt d (hkeep d hd))) (by omega) HC3.out HB.out
  dsimp only at we
  rw[HE3.out]at we
  have px:=(f6 x HR3.out.M.xl).trans hx3
  have q4:=(f6 b4 (by rw[l4];simp)).trans l4
  have q6:=(f6 b6 (by rw[l6];simp)).trans l6
  have q8:=(f6 b8 (by rw[l8];simp)).trans l8
  have px5:=(f5 x HR3.out.M.xl).trans hx3
  have HM6:=o_ M6
  have HR6:Hid (RelR s KK x m q c n B ns ds o (N+D.length * (20+2 ^ (2 * D.length))) ff (u6,K3,m1,ns3)):=o_ (HR3.out.new f6)
  unfold OpFC at we
  obtain⟨GF,hGF⟩:∃z,z=exF (fun v=>decide (v∈aj o (c7 (fun d=>decide (d∈KD)) D))) ff:=⟨_,rfl⟩
  rw[<- hGF]at we
  have HGF:=o_ hGF
  clear hu5 hu6 f5 f6 hgf M6 hkeep hkn hKs hKl hGF p8 pg
  generalize ak (aj o (c7 (fun d=>decide (d∈KD)) D))=VG at *
  generalize ak (c7 (fun d=>decide (d∈KD)) D)=VK at *
  generalize ak KD=VD at *
  simp only[go_sem,seval]
  (repeat'(first|refine Ctl ?_|(with_reducible first|(refine k_ hK ?_;clear hK hE K E)|(refine k_ hKh ?_;clear hKh Kh)|(refine k_ hKb (aC ?_);clear hKb Kb)|refine ax 18 [([0,1,2,3,4,5,6],7,[[]]),([8,9,10,11],12,[[10],[]])] [13] hQe fun K E hK hE=>?_)|(((with_reducible first|refine ae Qi (wd) ?_|refine ae qH (wv) ?_|refine ay fun Kh hKh=>?_|refine aG fun Kh hKh=>?_|refine aB fun Kb hKb=>?_))<;>(try simp(disch:=omega) only[go_sem,seval, *]))))
  refine ao Qg we (fun a h=>?_)
  obtain⟨u7,K7,ns7⟩:=a
  try dsimp only at h
  have HR7:Hid (RelR s KK x m q c n B ns ds o (N+D.length * (20+2 ^ (2 * D.length))+((aj o D).length+2) * 2 ^ (aj o D).length) GF (u7,K7,m1,ns7)):=o_ (HR6.out.then (RelR.op HM6.out h))
  have r6:=(h.k.out b6 (by rw[q6];simp) (HM6.out.C.om.types q6 (by decide) (by decide) (by decide))).trans q6
  have r8:=(h.k.out b8 (by rw[q8];simp) (HM6.out.C.om.types q8 (by decide) (by decide) (by decide))).trans q8
  have HG8:Hid (s b8≠.free->kF KK x m b8):=o_ fun e=>Classical.byContradiction fun hk=>e ((HR2.out.k.out b8 e hk).symm.trans HF8.out)
  have n68:¬ b6=b8:=fun e=>by rw[e,HF8.out]at j6;cases j6
  have n86:¬ b8=b6:=fun e=>n68 e.symm
  dsimp only at r6 r8 ⊢
  generalize hkp:ixF n ns7 GF=kp at *
  have HKP:=o_ hkp
  clear h we wd wv l4 l6 l8 q4 q6 q8 px px5 hx3 hkp
  simp only[go_sem,seval,r8]
  (repeat'(first|refine Ctl ?_|(with_reducible first|(refine k_ hK ?_;clear hK hE K E)|(refine k_ hKh ?_;clear hKh Kh)|(refine k_ hKb (aC ?_);clear hKb Kb))|((with_reducible refine bZ (fun h=>?_) (fun h=>?_))<;>(try(exfalso;assumption)))|(((with_reducible first|refine ab fun K E hK hE=>?_|refine ay fun Kh hKh=>?_|refine aG fun Kh hKh=>?_|refine aB fun Kb hKb=>?_))<;>(try simp(disch:=omega) only[go_sem,seval, *]))))
  all_goals(refine aq Gw hQ ?_)
  all_goals refine⟨_,_,Wk.refl _,Fg.refl _,(St.set _ b6 _,K7,m1,ns7),?_,rfl,?_⟩
  ·have e:(ixF n ns7 (exF (fun v=>decide (v∈aj o (c7 (fun d=>decide (d∈KD)) D))) ff))=kp:=by rw[<- HGF.out];exact HKP.out
   show _=SEnd.ret (.tup [.agg [.lst SB .no,.lst VD .no,.int .i64 ((ixF n ns7 (exF (fun v=>decide (v∈aj o (c7 (fun d=>decide (d∈KD)) D))) ff):Nat):Int)],.int .i64 0])
   rw[e]
  ·rw[<- HGF.out]
   refine HR7.out.finG fun z hz=>?_
   by_cases e6:z=b6
   ·subst e6;exact .inr ⟨⟨_,r6⟩,fun e=>absurd G0.out.2 e⟩
   by_cases e8:z=b8
   ·subst e8;exact .inr ⟨⟨_,r8⟩,HG8.out⟩
   left
   rw[j_ _ _ e6,j_ _ _ e8]
theorem RLaw.keep {s u:St}{K:OB}{x m q c:Nat}{ns:Td}{i N N':Nat}{A A2:TV}{D D' K':TW}(L:RLaw s u K x m q c ns i N){S S':TW->Prop}{f:Tf}{k:Nat}(hT:Tells (oR i) D S f)(hk:Nod ns f k)(o1 o2:Own)(hn:bi A)(hl:A.length=D.length)(hd:D.Nodup)(h4:∀d,d∈D->d<4)(hDne:D≠[])(o3:Own)(hn2:bi A2)(hne2:A2≠[])(hsub:∀a,a∈A2->a∈A)(hD':aK A D A2=D')(hK:c7 (fun d=>decide (d∈D')) D=K')(hS:Tells (oR i) D' S' (exF (fun v=>decide (v∈aj (oR i) K')) f))
  (hN:N+D.length * (20+2 ^ (2 * D.length))+(2 * D.length+2) * 2 ^ (2 * D.length)<=N') (hB:N'<=65536) :
  SCalls Tryz.prog 14 [.ptr x 0,.agg [.lst (az A) o1,.lst (ak D) o2,.int .i64 (k:Nat)],.lst (az A2) o3] u fun w u'=>∃a:tU,w=.ret (.tup [.agg (dM A2 D' a.1.2.2.2.2),.int .i64 0])/\u'=a.1.1/\ResT s u ns x q c i N' D' S' a:=by
 subst hD' hK
 have hvl:=dE L.i3 h4
 have h:=Fo (by omega) L.M L.D A o1 D o2 (L.r4 hn hl hd h4) hDne hT.dep hk.mem A2 o3 hn2 hne2 hsub L.n (by rw[hvl];omega)
 rw[hk.ix,hvl]at h
 refine SCalls.mono (h:=h) ?_
 rintro w u' ⟨a,rfl,rfl,h⟩
 exact⟨_,rfl,rfl,L.res h hN hS⟩
theorem xv {o:TU}{g:Tf}:exF (fun v=>decide (v∈aj o [])) g=g:=Bn fun v=>by simp[aj]
theorem RLaw.pick {s u:St}{K:OB}{x m q c:Nat}{ns:Td}{i N N':Nat}{A A':TV}{D D':TW}(L:RLaw s u K x m q c ns i N){S S':TW->Prop}{f:Tf}{k:Nat}(hT:Tells (oR i) D S f)(hk:Nod ns f k)(o1 o2:Own)(hn:bi A)(hl:A.length=D.length)(hd:D.Nodup)(h4:∀d,d∈D->d<4)(a:TT){j d v:Nat}(hix:ixA a A=(j:Int))(hj:D[j]?=some d)(hv:v<4)(hA':iV A j=A')(hD':iV D j=D')
  (hS:Tells (oR i) D' S' (exF (fun v=>decide (v∈aj (oR i) [d])) fun y=>f y && gZ (oR i) [d] [v] y)) (hN:N+2+(2 * D.length+2) * 2 ^ (2 * D.length)<=N') (hB:N'<=65536) :
  SCalls Tryz.prog 20 [.ptr x 0,.agg [.lst (az A) o1,.lst (ak D) o2,.int .i64 (k:Nat)],.str a,.int .i64 (v:Int)] u fun w u'=>∃a:tU,w=.ret (.tup [.agg (dM A' D' a.1.2.2.2.2),.int .i64 0])/\u'=a.1.1/\ResT s u ns x q c i N' D' S' a:=by
 subst hA' hD'
 have hvl:=dE L.i3 h4
 have h:=Rg (by omega) L.M L.D A o1 D o2 (L.r4 hn hl hd h4) a hix hj hv hT.dep hk.mem L.n (by rw[hvl];omega)
 rw[hk.ix,hvl]at h
 refine SCalls.mono (h:=h) ?_
 rintro w u' ⟨a,rfl,rfl,h⟩
 exact⟨_,rfl,rfl,L.res h hN hS⟩
theorem RLaw.same {s u:St}{K:OB}{x m q c:Nat}{ns:Td}{i N N':Nat}{A A':TV}{D D':TW}(L:RLaw s u K x m q c ns i N){S S':TW->Prop}{f:Tf}{k:Nat}(hT:Tells (oR i) D S f)(hk:Nod ns f k)(o1 o2:Own)(hn:bi A)(hl:A.length=D.length)(hd:D.Nodup)(h4:∀d,d∈D->d<4)(a b:TT){j j2 e d:Nat}(hix:ixA a A=(j:Int))(hix2:ixA b A=(j2:Int))(hj:D[j]?=some e)(hj2:D[j2]?=some d)(hne:¬ j=j2)(hA':iV A j2=A')(hD':iV D j2=D')
  (hS:Tells (oR i) D' S' (exF (fun v=>decide (v∈aj (oR i) [d])) fun y=>f y && i7 (oR i) e d y)) (hN:N+132+(2 * D.length+2) * 2 ^ (2 * D.length)<=N') (hB:N'<=65536) :
  SCalls Tryz.prog 21 [.ptr x 0,.agg [.lst (az A) o1,.lst (ak D) o2,.int .i64 (k:Nat)],.str a,.str b] u fun w u'=>∃a:tU,w=.ret (.tup [.agg (dM A' D' a.1.2.2.2.2),.int .i64 0])/\u'=a.1.1/\ResT s u ns x q c i N' D' S' a:=by
 subst hA' hD'
 have hvl:=dE L.i3 h4
 have h:=Rf (by omega) L.M L.D A o1 D o2 (L.r4 hn hl hd h4) a b hix hix2 hj hj2 hne hT.dep hk.mem L.n (by rw[hvl];omega)
 rw[hk.ix,hvl]at h
 refine SCalls.mono (h:=h) ?_
 rintro w u' ⟨a,rfl,rfl,h⟩
 exact⟨_,rfl,rfl,L.res h hN hS⟩
theorem rJ {o:TU}{d:Nat}:∀v,(fun v=>decide (v∈aj o [d])) v=true↔v∈o.getD d []:=fun v=>by simp[aj]
theorem gw {T:TU}{w:Nat}(hw:w<=3)(hT:∀t,t∈T->t.length=w/\∀v,v∈t->v<4):dL (br T):=by
 have h1:=jG hT
 have h2:4 ^ w<=4 ^ 3:=Nat.pow_le_pow_right (by omega) hw
 refine⟨by omega,fun r hr=>?_⟩
 obtain⟨t,ht,rfl⟩:=nY.1 hr
 have:=(hT t ht).1
 simp[eE]
 omega
end Go.Proofs.YtohnaepcgnbaiaaGreatDoor
