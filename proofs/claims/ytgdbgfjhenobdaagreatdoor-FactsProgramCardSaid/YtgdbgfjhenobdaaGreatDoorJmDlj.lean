/- Walks of functions that the claim reaches, and plain facts of them. Conditions: those in the statements. -/
import Derived.Test.YtgdbgfjhenobdaaGreatDoorJmDk
import Derived.Test.YtgdbgfjhenobdaaGreatDoorJmDaj
import Derived.Lib.SlBytesConst
import Derived.Test.YtgdbgfjhenobdaaGreatDoorJmGpj
set_option linter.unusedSimpArgs false
set_option linter.unusedVariables false
set_option maxRecDepth 100000
namespace Go.Proofs.YtgdbgfjhenobdaaGreatDoor
open Go.RowKit
section
variable {P : Program} {w0 w : World} {G : Gh} {s : St}
theorem haO (w:World)(o:Obj)(g:Nat)(h:g<w.heap.size):(w.alloc o).heap[g]?=w.heap[g]?:=by
 show (w.heap.push o)[g]?=_
 rw[Array.getElem?_push,if_neg (Nat.ne_of_lt h)]
theorem Sim.alloc_knowM (h:Sim w0 G w s)(T:TypeId)(c:Array Value)(fz:Nat×Nat) :
  Sim w0 (G.know w.heap.size (fun i=>c[i]?)) (w.alloc (.cells c T fz)) s∧G.le (G.know w.heap.size (fun i=>c[i]?)):=by
 have hle:G.le (G.know w.heap.size (fun i=>c[i]?)):=G.le_know _ _ fun i v hv=>by rw[h.K_fresh]at hv;cases hv
 refine⟨⟨h.below.alloc h.size_le _,fun b i v hk=>?_,fun b c' hc=>by have:=h.cap b c' hc;simp;omega,fun b=>?_,h.gl,h.rows.keep' hle (by simp) (fun g hl hg=>⟨hg,haO w _ g hl,fun i=>Gh.know_other _ _ (by omega) i⟩) (fun b T xs rs hb=>⟨hb,haO w _ b (h.lt (by rw[hb];simp))⟩)⟩,hle⟩
 ·by_cases hb:b=w.heap.size
  ·subst hb
   rw[Gh.know_K]at hk
   rw[show (w.alloc (.cells c T fz)).cell? ⟨w.heap.size,i,none⟩=c[i]? by simp only[World.cell?,World.alloc,Array.getElem?_push,if_true];rfl];exact hk
  ·rw[Gh.know_other _ _ hb]at hk
   exact cell?_alloc (h.K b i v hk)
 ·by_cases hb:b<w.heap.size
  ·exact(h.ok b).keep (haO w _ b hb) hle (fun i=>Gh.know_other _ _ (by omega) i)
  ·have:s b=.free:=by
    cases hc:s b with
    |free=>rfl
    |_=>exact absurd (h.lt (b:=b) (by rw[hc];simp)) hb
   rw[this];trivial
theorem run_buildSliceX {T e:TypeId}{len:Nat}{parts:List (Nat×VV)}{vps:Array (Nat×Value)}{xs:List (List VV)}(hS:Sim w0 G w s)
  (hk:(qi P T).k=.slice e) (hz:(qi P e).zok=true) (hlen:parts.length=len) (h0:0<len) (hbig:len * (qi P e).sz≤16777216)
  (hl:vps.size=parts.length) (hp:∀(i:Nat) (p:Nat×VV) (q:Nat×Value),parts[i]?=some p→vps[i]?=some q→p.1=q.1∧R G q.2 p.2)
  (h:vrow (qi P e).sz 0 parts=some xs) :
  ∃C:Array Value,(Instr.buildSlice T len vps).run P w=.ok (.slice (some ⟨w.heap.size,0,none⟩) len len) (w.alloc (.cells C e)) ∧
   ∀(fz:Nat×Nat),∃G',G.le G'∧Sim w0 G' (w.alloc (.cells C e fz)) s∧R G' (.slice (some ⟨w.heap.size,0,none⟩) len len) (.lst xs .full):=by
 obtain⟨dT,iT,hdT,hiT,hkT,_⟩:=qi_spec (P:=P) T (.inr (.inl (by rw[hk];simp)))
 have hdT':dT=.slice e:=by
  rw[hk]at hkT
  cases dT<;>simp[qkOf]at hkT
  rw[hkT]
 subst hdT'
 obtain⟨z,i,d,hi,hd,hke,hs,hzz,hpos,hzs,hag,hrl⟩:=RLs.zero (P:=P) (G:=G) hz
 obtain⟨hxl,hx2,hx3,_⟩:=vrow_spec parts 0 xs h
 have hzne:len * i.size≠0:=by
  have:=Nat.mul_pos h0 hpos
  omega
 obtain⟨vs,hf,hvs,_,hall⟩:=run_fillRow (G:=G) parts vps.toList 0 xs ((Array.range (len * i.size)).map fun q=>z.cells[q % z.cells.size]!) h
  (by simpa using hl) (fun i p q hpi hqi=>hp i p q hpi (by simpa using hqi)) (by simp[hlen,hs])
 refine⟨vs,?_,fun fz=>?_⟩
 ·unfold Instr.buildSlice
  simp only[Sem.run_bind,run_underlying hdT,Result.andThen_ok,run_sizeOf hi,Sem.run_ite]
  rw[if_neg (by rw[hs]at hbig;omega)]
  simp only[hzne,if_false,Sem.run_bind,zeroValue,typeInfo,run_program,hi,Result.andThen_ok,hzz,Sem.run_pure]
  rw[hs]at hf
  rw[hf]
  simp only[newRow,Sem.run_bind,run_newObj,Result.andThen_ok,Sem.run_pure]
  rfl
 ·obtain⟨hS',hG'⟩:=hS.alloc_knowM e vs fz
  refine⟨_,hG',hS',?_⟩
  have hvsz:vs.size=len * i.size:=by rw[hvs];simp
  refine .lst w.heap.size 0 len len (qi P e).sz xs .full (fun a b=>(vs[a * (qi P e).sz+b]?).getD default) (by omega) (Nat.le_refl _) hx2 hx3 (fun a b ha hb=>?_) (fun a b x y hxa hyb=>?_) (.inr (.inl ⟨rfl,rfl,by omega⟩))
  ·rw[Gh.know_K,Nat.zero_add]
   have:a * (qi P e).sz+b<vs.size:=by
    rw[hvsz,← hs]
    have:=Nat.mul_le_mul_right (qi P e).sz (show a+1≤len by omega)
    rw[Nat.succ_mul]at this
    omega
   simp[this]
  ·obtain⟨v,hv,hr⟩:=hall a b x y hxa hyb
   rw[Nat.zero_add]at hv
   simp only[hv,Option.getD_some]
   exact hr.mono hG'
end
theorem wpl_valL {P:Program}{ops:Array Oper}{Q:Exit→Act→World→Prop}{rest:List Oper}{o:Oper}{a:Act}{w w':World}{v:Value}(hg:o.guard=none)(hrun:(execOp a.eval o).run P w=.ok (.value v) w')(h:wpList P ops Q rest (a.put o.dst v) w'):wpList P ops Q (o::rest) a w:=by
 unfold wpList
 rw[if_pos (by simp[Region.wanted,hg])]
 refine .inl ?_
 unfold Oper.wp
 rw[hrun]
 exact h
section
variable {P : Program} {N : Nat} {D : List Deferred}
theorem wpl_back {ops:Array Oper}{Q:Pst}{w0:World}{G G':Gh}(hG:G.le G'):∀(l:List Oper) (a:Act) (w:World),wpList P ops (Up N w0 G' D Q) l a w→wpList P ops (Up N w0 G D Q) l a w:=by
 intro l
 induction l with
 |nil=>exact fun a w h=>Up.back hG h
 |cons o l ihl=>
  intro a w h
  unfold wpList at h ⊢
  split at h
  ·rename_i hw
   rw[if_pos hw]
   rcases h with h|⟨h1,a',w',h2⟩
   ·exact .inl (Oper.wp_mono' ihl (fun e a w=>Up.back hG) h)
   ·exact .inr ⟨h1,a',w',Up.back hG h2⟩
  ·rename_i hw
   rw[if_neg hw]
   exact ihl _ _ h
end
def byL:List (List VV):=[[.int .u8 86],[.int .u8 72],[.int .u8 70],[.int .u8 73],[.int .u8 78],[.int .u8 77],[.int .u8 90]]
theorem Kp_by {D:List Deferred}{k:List Itm}{Q:Pst}{env:Env}{s:St}(h:∀v,Kp Tryz.prog 43 D k Q .norm (put 43 (put 43 (put 43 (put 43 env (some 21) (.raw v)) (some 22) (.lst byL .full)) (some 23) (.int .i64 7)) (some 24) (.int .i64 0)) s) :
  Kp Tryz.prog 43 D (.code (Go.Code.region 5 #[(Go.Oper.mk (Option.some 21) (Go.Op.buildSlice 55 7 #[(0,(Go.Operand.const (Go.Value.int Go.IntKind.u8 86))),(1,(Go.Operand.const (Go.Value.int Go.IntKind.u8 72))),(2,(Go.Operand.const (Go.Value.int Go.IntKind.u8 70))),(3,(Go.Operand.const (Go.Value.int Go.IntKind.u8 73))),(4,(Go.Operand.const (Go.Value.int Go.IntKind.u8 78))),(5,(Go.Operand.const (Go.Value.int Go.IntKind.u8 77))),(6,(Go.Operand.const (Go.Value.int Go.IntKind.u8 90)))]) 55 "facts.go:176" #[] Option.none),(Go.Oper.mk (Option.some 22) (Go.Op.convert 55 55 (Go.Operand.tmp 21)) 55 "facts.go:176" #[(Go.Edge.mk 0 Go.Ground.data)] Option.none),(Go.Oper.mk (Option.some 23) (Go.Op.call (Go.Call.mk (Go.Callee.builtin Go.Builtin.len) #[(Go.Operand.tmp 22)] #[55])) 3 "facts.go:176" #[(Go.Edge.mk 1 Go.Ground.data)] Option.none),(Go.Oper.mk (Option.some 24) (Go.Op.move (Go.Operand.const (Go.Value.int Go.IntKind.i64 0))) 3 "facts.go:176" #[] Option.none)] Bool.false)::k) Q .norm env s:=by
 intro w0 G w a hf hD hS
 refine wp_region_list ?_
 obtain⟨C,hrun,hall⟩:=run_buildSliceX (P:=Tryz.prog) (T:=55) (e:=5) (len:=7) (parts:=[(0,.int .u8 86),(1,.int .u8 72),(2,.int .u8 70),(3,.int .u8 73),(4,.int .u8 78),(5,.int .u8 77),(6,.int .u8 90)]) (vps:=#[(0,.int .u8 86),(1,.int .u8 72),(2,.int .u8 70),(3,.int .u8 73),(4,.int .u8 78),(5,.int .u8 77),(6,.int .u8 90)]) (xs:=byL) hS (by kernel_rfl) (by kernel_rfl) rfl (by omega) (by decide +kernel) rfl (fun i p q hp hq=>by
  match i with
  |0=>simp at hp hq;subst hp;subst hq;exact⟨rfl,.int _ _⟩
  |1=>simp at hp hq;subst hp;subst hq;exact⟨rfl,.int _ _⟩
  |2=>simp at hp hq;subst hp;subst hq;exact⟨rfl,.int _ _⟩
  |3=>simp at hp hq;subst hp;subst hq;exact⟨rfl,.int _ _⟩
  |4=>simp at hp hq;subst hp;subst hq;exact⟨rfl,.int _ _⟩
  |5=>simp at hp hq;subst hp;subst hq;exact⟨rfl,.int _ _⟩
  |6=>simp at hp hq;subst hp;subst hq;exact⟨rfl,.int _ _⟩
  |i+7=>simp at hp) rfl
 obtain⟨G',hG,hS',hR⟩:=hall (C.size,C.size+1)
 have hf1:=(hf.put (some 21) (R.raw (G:=G) (.slice (some ⟨w.heap.size,0,none⟩) 7 7)))
 have hR1:R G' (.slice (some ⟨w.heap.size,0,none⟩) 7 7) (.lst byL .full):=hR
 have hf2:=(hf1.mono hG).put (some 22) hR1
 refine wpl_valL rfl (v:=.slice (some ⟨w.heap.size,0,none⟩) 7 7) (w':=w.alloc (.cells C 5)) ?_ ?_
 ·unfold execOp
  simp only[Sem.run_bind]
  have aev:∀v:Value,a.eval (.const v)=v:=fun _=>rfl
  simp only[List.map_toArray,List.map_cons,List.map_nil,aev]
  rw[hrun]
  rfl
 refine wpl_valL rfl (v:=.slice (some ⟨w.heap.size,0,none⟩) 7 7) (w':=w.alloc (.cells C 5 (C.size,C.size+1))) ?_ ?_
 ·have e21:(a.put (some 21) (.slice (some ⟨w.heap.size,0,none⟩) 7 7)).eval (.tmp 21)=.slice (some ⟨w.heap.size,0,none⟩) 7 7:=by
   have:=hf1.rel 21
   simp only[put]at this
   rw[if_pos (by decide)]at this
   simp only[upd,if_true]at this
   show (a.put (some 21) (.slice (some ⟨w.heap.size,0,none⟩) 7 7)).tmps.getD 21 undef=_
   generalize (a.put (some 21) (.slice (some ⟨w.heap.size,0,none⟩) 7 7)).tmps.getD 21 undef=u at this
   cases this
   rfl
  unfold execOp
  simp only[Sem.run_bind,e21]
  refine(congrArg (fun r=>Result.andThen r _) (Lib.run_convert_bytes_const (P:=Tryz.prog) w 55 5 C 7 7 Tryz.underlying55 Tryz.underlying5)).trans ?_
  rfl
 refine(fun hh=>wpl_back hG _ _ _ hh) (vops_sound (N:=43) (D:=D) (Q:=Kp Tryz.prog 43 D k Q) (K:=fun env s=>Kp Tryz.prog 43 D k Q .norm env s) (E:=fun x env s=>Kp Tryz.prog 43 D k Q (.panic x) env s) (fun env s h=>h) (fun x env s h=>h) [_,_] _ s ?_ w0 G' _ _ hf2 ((put_defers _ _ _).trans ((put_defers _ _ _).trans hD)) hS')
 have hk:=h (.slice (some ⟨w.heap.size,0,none⟩) 7 7)
 simp(disch:=omega) only[go_sem,seval,byL,List.length_cons,List.length_nil]at hk ⊢
 exact hk
attribute [local go_sem] disown_fl owned_fl own_fl
def anT:List UInt8:=[114,101,108,32,97,108,108,111,99,40,86,44,32,72,41,46,32,114,101,108,32,97,115,115,105,103,110,40,86,44,32,86,41,46,32,114,101,108,32,115,116,111,114,101,40,86,44,32,70,44,32,86,41,46,32,114,101,108,32,108,111,97,100,40,86,44,32,86,44,32,70,41,46,32,114,101,108,32,118,105,114,116,117,97,108,40,73,44,32,86,44,32,78,41,46,32,114,101,108,32,115,116,97,116,105,99,40,73,44,32,77,41,46,32,114,101,108,32,116,97,114,103,101,116,40,72,44,32,78,44,32,77,41,46,32,114,101,108,32,97,99,116,117,97,108,40,73,44,32,90,44,32,86,41,46,32,114,101,108,32,102,111,114,109,97,108,40,77,44,32,90,44,32,86,41,46,32,114,101,108,32,116,104,105,115,40,77,44,32,86,41,46,32,114,101,108,32,114,101,116,40,77,44,32,86,41,46,32,114,101,108,32,114,101,115,117,108,116,40,73,44,32,86,41,46,32,114,101,108,32,104,111,109,101,40,73,44,32,77,41,46,32,114,101,108,32,111,119,110,40,86,44,32,77,41,46,32,114,101,108,32,109,97,105,110,40,77,41,46,10,114,101,108,32,99,111,112,121,40,86,44,32,86,41,46,32,114,101,108,32,118,112,40,86,44,32,72,41,46,32,114,101,108,32,104,112,40,72,44,32,70,44,32,72,41,46,32,114,101,108,32,105,101,40,73,44,32,77,41,46,32,114,101,108,32,114,101,97,99,104,40,77,41,46,10,114,101,97,99,104,40,109,41,32,58,45,32,109,97,105,110,40,109,41,46,10,114,101,97,99,104,40,109,41,32,58,45,32,105,101,40,105,44,32,109,41,46,10,118,112,40,118,44,32,104,41,32,58,45,32,97,108,108,111,99,40,118,44,32,104,41,44,32,111,119,110,40,118,44,32,109,41,44,32,114,101,97,99,104,40,109,41,46,10,118,112,40,118,44,32,104,41,32,58,45,32,99,111,112,121,40,118,44,32,119,41,44,32,118,112,40,119,44,32,104,41,46,10,99,111,112,121,40,118,44,32,119,41,32,58,45,32,97,115,115,105,103,110,40,118,44,32,119,41,46,10,99,111,112,121,40,118,44,32,119,41,32,58,45,32,105,101,40,105,44,32,109,41,44,32,102,111,114,109,97,108,40,109,44,32,122,44,32,118,41,44,32,97,99,116,117,97,108,40,105,44,32,122,44,32,119,41,46,10,99,111,112,121,40,118,44,32,119,41,32,58,45,32,105,101,40,105,44,32,109,41,44,32,114,101,115,117,108,116,40,105,44,32,118,41,44,32,114,101,116,40,109,44,32,119,41,46,10,104,112,40,104,44,32,102,44,32,103,41,32,58,45,32,115,116,111,114,101,40,118,44,32,102,44,32,119,41,44,32,118,112,40,118,44,32,104,41,44,32,118,112,40,119,44,32,103,41,46,10,118,112,40,118,44,32,103,41,32,58,45,32,108,111,97,100,40,118,44,32,119,44,32,102,41,44,32,118,112,40,119,44,32,104,41,44,32,104,112,40,104,44,32,102,44,32,103,41,46,10,118,112,40,118,44,32,104,41,32,58,45,32,118,105,114,116,117,97,108,40,105,44,32,119,44,32,110,41,44,32,118,112,40,119,44,32,104,41,44,32,116,97,114,103,101,116,40,104,44,32,110,44,32,109,41,44,32,116,104,105,115,40,109,44,32,118,41,46,10,105,101,40,105,44,32,109,41,32,58,45,32,115,116,97,116,105,99,40,105,44,32,109,41,44,32,104,111,109,101,40,105,44,32,107,41,44,32,114,101,97,99,104,40,107,41,46,10,105,101,40,105,44,32,109,41,32,58,45,32,118,105,114,116,117,97,108,40,105,44,32,119,44,32,110,41,44,32,118,112,40,119,44,32,104,41,44,32,116,97,114,103,101,116,40,104,44,32,110,44,32,109,41,46]
theorem anOk:(match parseR anT with|.ok x=>x.doms.isEmpty && decide (x.rules.length=12)|.error _=>false)=true:=by decide +kernel
theorem anP:∃x,parseR anT=.ok x∧x.doms=[]∧x.rules.length=12:=by
 have h:=anOk
 cases hp:parseR anT with
 |error q=>rw[hp]at h;cases h
 |ok x=>
  rw[hp]at h
  simp only[Bool.and_eq_true,List.isEmpty_iff,decide_eq_true_eq]at h
  exact⟨x,rfl,h.1,h.2⟩
def domsP (F:Fcs):List Dm:=(List.range 7).map fun k=>⟨[UInt8.ofNat (letZ k)],max 1 (domF F k)⟩
def progV (F:Fcs)(x:Pgm):VV:=if mayF F=true then .tup [.agg (pgC ⟨domsP F,x.decls,x.rules⟩),.int .i64 0] else .tup [.agg (pgC ⟨[],[],[]⟩),.int .i64 1]
theorem call_exT {P:Program}{N:Nat}{all rest:List Oper}{K:Env→St→Prop}{E:VV→Env→St→Prop}{env:Env}{s:St}{d:Option Tmp}{f:FuncId}{l l':List UInt8}{α:Sort _}{F:α→VV}{S:α→St}{R:α→Prop}(hc:Callable P f)(h:SCalls P f [.str l] s fun e t=>∃a,e=.ret (F a)∧t=S a∧R a)
  (hk:∀a,R a→vops P N all K E rest (put N env d (F a)) (S a)) (hl:l'=l:=by kernel_rfl):vcall2 P N all K E d rest env s f [.str l']:=by subst hl;exact call_ex hc h hk
theorem Wk_pg2 {o1 o2 o3:Own}{e:Int}:Wk (.tup [.agg [.lst [] o1,.lst [] o2,.lst [] o3],.int .i64 e]) (.tup [.agg (pgC ⟨[],[],[]⟩),.int .i64 e]):=
 Wk.tup rfl fun j x y hx hy=>by
  match j with
  |0=>simp at hx hy;subst hx;subst hy;exact Wk.agg (.lst _ _ (.lst _ _ (.lst _ _ .nil)))
  |1=>simp at hx hy;subst hx;subst hy;exact Wk.refl _
  |j+2=>simp at hx
theorem Wk_pg3 {l:List (List VV)}{o:Own}{v1 v2:VV}{e:Int}:Wk (.tup [.agg [.lst l o,v1,v2],.int .i64 e]) (.tup [.agg [.lst l .no,v1,v2],.int .i64 e]):=
 Wk.tup rfl fun j x y hx hy=>by
  match j with
  |0=>simp at hx hy;subst hx;subst hy;exact Wk.agg (.lst _ _ (WkL.refl _))
  |1=>simp at hx hy;subst hx;subst hy;exact Wk.refl _
  |j+2=>simp at hx
set_option maxHeartbeats 16000000 in
theorem PProg_S (F:Fcs)(hF:FSm F)(x:Pgm)(hx:parseR anT=.ok x)(hd:x.doms=[])(t:St):SRet Tryz.prog 6 [.agg (fcsC F)] t (progV F x) t:=by
 have wm:=fun s=>Pmay_S F hF s
 have wsz:=fun s=>Psizes_S F s
 have wp:=fun s=>UParseD_S anT (by decide) x hx s
 have hone:(fcsC F).all VV.one=true:=rfl
 have hcl:(fcsC F).length=21:=rfl
 have hca:(fcsC F).take 21=fcsC F:=rfl
 rw[hd]at wp
 simp only[List.map_nil,List.length_nil]at wp
 unfold progV
 generalize hM:mayF F=mv at *
 generalize fcsC F=C at *
 cases mv
 ·simp only[Bool.false_eq_true,if_false]
  refine G_enter Tryz.func6 rfl Tryz.ntmps6 rfl fun Q hQ hQe=>?_
  (repeat'(first|refine Ctl ?_|((with_reducible refine Kof.use hK ?_);clear hK hE K E)|((with_reducible refine W_cond (fun h=>?_) (fun h=>?_))<;>(try(exfalso;assumption)))|((first|(with_reducible first|refine G_region fun K E hK hE=>?_|refine call_ret can15 (wm _) ?_)|((with_reducible refine W_fresh (fun b hb=>?_));(repeat(obtain⟨_,hb⟩:=hb))))<;>(try simp(disch:=omega) only[go_sem,seval,hcl,hca, *]))))
  all_goals(refine W_ret res6 hQ ?_)
  all_goals exact⟨_,_,Wk_pg2,z_fg,rfl,rfl⟩
 simp only[if_true]
 refine G_enter Tryz.func6 rfl Tryz.ntmps6 rfl fun Q hQ hQe=>?_
 (repeat'(first|refine Ctl ?_|((with_reducible refine Kof.use hK ?_);clear hK hE K E)|((with_reducible refine W_cond (fun h=>?_) (fun h=>?_))<;>(try(exfalso;assumption)))|((first|(with_reducible first|refine G_region fun K E hK hE=>?_|refine call_ret can15 (wm _) ?_)|((with_reducible refine W_fresh (fun b hb=>?_));(repeat(obtain⟨_,hb⟩:=hb))))<;>(try simp(disch:=omega) only[go_sem,seval,hcl,hca, *]))))
 rename_i b1 hb1 n1 n2
 obtain⟨b2,hb2⟩:∃z,z=b:=⟨_,rfl⟩
 subst hb2
 refine call_exT can16 (wp _) (fun q h=>?_)
 obtain⟨o,u⟩:=q
 obtain⟨hO,hu⟩:=h
 dsimp only at hO hu ⊢
 subst hu
 simp(disch:=assumption) only[ownok_o,disown_fl]at hO
 obtain⟨no2,no1,hO⟩:=hO
 simp only[go_sem,seval]
 (repeat'(first|(with_reducible refine Kp_atQ 5 ?_)|refine Ctl ?_|((with_reducible refine Kof.use hK ?_);clear hK hE K E)|((first|(with_reducible refine G_region fun K E hK hE=>?_)|((with_reducible refine call_ex can17 (wsz _) (fun a h=>?_));(rw[set_free_o,set_free_o,set_free_o,own_fr]at h;obtain⟨_,_,_,_,_,_,hoa,h⟩:=h))|((with_reducible refine W_fresh (fun b hb=>?_));(repeat(obtain⟨_,hb⟩:=hb));(try(try(rw[own_fr]at hb;obtain⟨hob,hb⟩:=hb)))))<;>(try simp(disch:=first|assumption|omega) only[go_sem,seval,hcl,hca, *]))))
 unfold StopQ
 obtain⟨b4,hb4⟩:∃z,z=b:=⟨_,rfl⟩
 subst hb4
 rename_i n3 n4 n5 n6 n7 n8 n9 n10 n11 n12 n13 n14
 refine Kp_by (fun v=>?_)
 obtain⟨B,hB⟩:∃B,B=((t.set b1 (.obj 26 C)).set b2 (.obj 33 [.lst [] .full,.lst [] .full,.lst [] .full])).set a (.map (mpU (szM F))):=⟨_,rfl⟩
 have hBs:((((((t.own o 57 2 0).set b1 (.obj 26 C)).set b2 (.obj 33 [.lst [] .full,.lst [] .full,.lst [] .full])).set b4 (.obj 33 [.lst [] o,.lst (List.map dclC x.decls) .no,.lst (List.map rulC x.rules) .no])).set a (.map (mpU (szM F)))))=(B.own o 57 2 0).set b4 (.obj 33 [.lst [] o,.lst (List.map dclC x.decls) .no,.lst (List.map rulC x.rules) .no]):=by
  rw[hB]
  simp(disch:=assumption) only[own_push]
  funext z
  simp only[St.set]
  by_cases e1:z=a
  ·subst e1;simp[*]
  ·simp[e1]
 rw[hBs]
 have hBa:B a=.map (mpU (szM F)):=by rw[hB,St.set_same]
 have hB2:B b2=.obj 33 [.lst [] .full,.lst [] .full,.lst [] .full]:=by rw[hB,St.set_other _ _ (by assumption),St.set_same]
 have hB4:B b4=.free:=by
  rw[hB]
  simp(disch:=assumption) only[St.set_other]
  assumption
 have HBF:Hid (Fg B t):=Lib.hid (by rw[hB];(exact z_fg))
 have hOB:OwnOk B o 0:=by
  rw[hB]
  simp only[ownok_m,ownok_o]
  exact⟨by assumption,by assumption,by assumption,hO⟩
 clear hBs hB wsz wm wp
 have HPG:Hid (pgC ⟨domsP F,x.decls,x.rules⟩=[.lst ((domsP F).map dmC) .no,.lst (x.decls.map dclC) .no,.lst (x.rules.map rulC) .no]):=Lib.hid rfl
 generalize x.decls.map dclC=DC at *
 generalize x.rules.map rulC=RC at *
 have hfa:B a≠.free:=by rw[hBa];simp
 have hf2:B b2≠.free:=by rw[hB2];simp
 have hby:byL.length=7:=rfl
 (repeat'(refine Ctl ?_))
 refine G_loop (fun m env s'=>∃(i:Nat) (ow:Own),i≤7∧m+i=7∧OwnOk B ow i∧NotOwn ow b4∧s'=(B.own ow 57 2 i).set b4 (.obj 33 [.lst (((domsP F).take i).map dmC) ow,.lst DC .no,.lst RC .no])∧env 2=.ptr b2 0∧env 4=.ptr b4 0∧env 7=.mp a∧env 22=.lst byL .full∧env 23=.int .i64 7∧env 24=.int .i64 i) 7 ?_ ?_
 ·exact⟨_,Fg.refl _,0,o,by omega,by omega,hOB,by assumption,rfl,z_sl,z_sl,z_sl,z_sl,z_sl,z_sl⟩
 clear hO hOB no1 no2
 rintro m env s' ⟨i,ow,hi,hm,hO,ho4,rfl,e2,e4,e7,e22,e23,e24⟩
 have hoa2:=hO.not hfa
 have ho22:=hO.not hf2
 by_cases hlt:i<7
 ·obtain⟨c,y,hc,hlk,hnx⟩:∃(c:UInt8) (y:Int),byL[i]?=some [.int .u8 (c.toNat:Int)]∧lkU (c.toNat:Int) (szM F)=some y∧((domsP F).take (i+1)).map dmC=((domsP F).take i).map dmC++[[.str [c],.int .i64 (max 1 y)]]:=by
   match i,hlt with
   |0,_=>exact⟨86,_,rfl,rfl,rfl⟩
   |1,_=>exact⟨72,_,rfl,rfl,rfl⟩
   |2,_=>exact⟨70,_,rfl,rfl,rfl⟩
   |3,_=>exact⟨73,_,rfl,rfl,rfl⟩
   |4,_=>exact⟨78,_,rfl,rfl,rfl⟩
   |5,_=>exact⟨77,_,rfl,rfl,rfl⟩
   |6,_=>exact⟨90,_,rfl,rfl,rfl⟩
  have hcv:∀S:St,vconv Tryz.prog 55 9 (.lst [[.int .u8 (c.toNat:Int)]] .full) S=some (.str [c]):=fun S=>by
   have:=p_conv3 (P:=Tryz.prog) (T:=55) (T':=9) (sa:=[c]) (o:=.full) (s:=S)
   refine Eq.trans (show _=_ from this) ?_
   kernel_rfl
  have hmx:vminmax true (.int .i64 1) (.int .i64 y)=some (.int .i64 (max 1 y)):=by
   simp only[vminmax,if_true]
   by_cases h:1<y
   ·rw[if_pos h,show max 1 y=y by omega]
   ·rw[if_neg h,show max 1 y=1 by omega]
  have hdl:(((domsP F).take i).map dmC).length=i:=by
   rw[List.length_map,List.length_take]
   have:(domsP F).length=7:=by simp[domsP]
   omega
  have HNX:=Lib.hid hnx
  clear hnx
  generalize ((domsP F).take i).map dmC=DL at *
  generalize hmy:max 1 y=z at *
  clear hmy
  (repeat'(first|refine Ctl ?_|((with_reducible refine Kof.use hK ?_);clear hK hE K E)|((with_reducible refine W_cond (fun h=>?_) (fun h=>?_))<;>(try(exfalso;omega)))|((first|(with_reducible refine G_region fun K E hK hE=>?_)|((with_reducible refine W_app (fun o2 ho=>?_));(try simp(disch:=assumption) only[disown_set,disown_own,ownok_o,ownok_m,List.length_map,List.length_cons,List.length_nil,Nat.zero_add,hby,hc,hlk,hcv,hmx,hdl,Option.getD_some,disown_fl]at ho);(repeat(obtain⟨_,ho⟩:=ho))))<;>(try simp(disch:=first|assumption|omega) only[go_sem,seval,hby,hc,hlk,hcv,hmx,hdl,Option.getD_some,disown_fl, *]))))
  all_goals exact⟨_,Fg.refl _,m - 1,by omega,i+1,o2,by omega,by omega,ho,(by assumption),(by rw[HNX.out]),z_sl,z_sl,z_sl,z_sl,z_sl,z_sl⟩
 ·obtain rfl:i=7:=by omega
  have hDL:((domsP F).take 7)=domsP F:=by rw[List.take_of_length_le (by simp[domsP])]
  rw[hDL]
  (repeat'(first|refine Ctl ?_|((with_reducible refine Kof.use hK ?_);clear hK hE K E)|((with_reducible refine W_cond (fun h=>?_) (fun h=>?_))<;>(try(exfalso;assumption)))|(((with_reducible refine G_region fun K E hK hE=>?_))<;>(try simp(disch:=first|assumption|omega) only[go_sem,seval,hby,disown_fl, *]))))
  all_goals(refine W_ret res6 hQ ?_)
  have hpg:=HPG.out
  rw[hpg]
  exact⟨_,_,Wk_pg3,Fg.setA (Fg.setA (Fg.trans (Fg.own hO) HBF.out) (by assumption)) (by assumption),rfl,rfl⟩
end Go.Proofs.YtgdbgfjhenobdaaGreatDoor
