/- Walks of functions that the claim reaches, and plain facts of them. Conditions: those in the statements. -/
import Derived.Test.YtohnaepcgnbaiaaGreatDoorJkValj
import Derived.Laws.Slices
import Derived.Laws.Strings
import Derived.Test.YtohnaepcgnbaiaaGreatDoorProg
import Derived.Tactics
import Derived.Tactics2
import Derived.Defers
import Derived.KernelRfl
import Derived.Laws.Pointers
import Derived.Laws.LoneSync
import Derived.RegionTactic
import Derived.RegionCalls
import Derived.ChangeAlike
set_option linter.unusedSimpArgs false
set_option linter.unusedVariables false
namespace Go.Proofs.YtohnaepcgnbaiaaGreatDoor
open Go.RowKit
structure FR (N:Nat) (G:Gh) (tmps:Array Value) (env:Env):Prop where
 size:tmps.size=N
 rel:∀i,R G (tmps.getD i undef) (env i)
theorem FR.mono {N:Nat}{G G':Gh}{tmps:Array Value}{env:Env}(h:FR N G tmps env)(hG:G.le G'):FR N G' tmps env:=
 ⟨h.size,fun i=>(h.rel i).mono hG⟩
theorem FR.eval {N:Nat}{G:Gh}{a:Act}{env:Env}(h:FR N G a.tmps env)(x:Operand):R G (a.eval x) (rd env x):=by
 cases x with
 |tmp t=>exact h.rel t
 |const v=>exact R.cv G v
 |global g=>exact .raw _
 |func f=>exact .fn f #[] [] rfl (fun j v y hv=>by simp at hv)
theorem FR.put {N:Nat}{G:Gh}{a:Act}{env:Env}(h:FR N G a.tmps env)(d:Option Tmp){v:Value}{x:VV}(hv:R G v x) :
  FR N G (a.put d v).tmps (put N env d x):=by
 cases d with
 |none=>exact h
 |some t=>
  refine⟨by simp[Act.put,h.size],fun i=>?_⟩
  simp only[Act.put,Go.Proofs.YtohnaepcgnbaiaaGreatDoor.put]
  by_cases ht:t<N
  ·rw[if_pos ht]
   unfold upd
   by_cases hi:i=t
   ·subst hi
    rw[if_pos rfl]
    have:(a.tmps.setIfInBounds i v).getD i undef=v:=by
     have:=h.size
     simp[Array.getD,this,ht]
    rw[this];exact hv
   ·rw[if_neg hi]
    have:(a.tmps.setIfInBounds t v).getD i undef=a.tmps.getD i undef:=by
     simp[Array.getD_eq_getD_getElem?,Array.getElem?_setIfInBounds_ne (Ne.symm hi)]
    rw[this];exact h.rel i
  ·rw[if_neg ht]
   have:a.tmps.setIfInBounds t v=a.tmps:=by
    have:=h.size
    simp[Array.setIfInBounds,this,ht]
   rw[this];exact h.rel i
section
variable {P : Program} {N : Nat} {w0 w w' : World} {G G' : Gh} {s s' : St} {a : Act} {env : Env} {D : List Deferred} {k : Env -> St -> Prop} {E : VV -> Env -> St -> Prop} {o : Oper}
def Nx (N:Nat)(w0:World)(G:Gh)(D:List Deferred)(k:Env->St->Prop):Act->World->Prop:=fun a w=>
 ∃(G':Gh) (env:Env) (s:St),G.le G'/\FR N G' a.tmps env/\a.defers=D/\Sim w0 G' w s/\k env s
def Px (N:Nat)(w0:World)(G:Gh)(D:List Deferred)(E:VV->Env->St->Prop):Exit->Act->World->Prop:=fun e a w=>
 ∃(G':Gh) (env:Env) (s:St) (v:Value) (x:VV),e=.panic [{ v:=v,recovered:=false }]/\R G' v x/\G.le G'/\FR N G' a.tmps env/\a.defers=D/\Sim w0 G' w s/\E x env s
theorem dc (a:Act)(d:Option Tmp)(v:Value):(a.put d v).defers=a.defers:=by cases d<;>rfl
theorem cE {v:Value}{x:VV}(hf:FR N G a.tmps env)(hD:a.defers=D)(hrun:(execOp a.eval o).run P w=.ok (.value v) w')
  (hG:G.le G') (hR:R G' v x) (hS:Sim w0 G' w' s') (hk:k (put N env o.dst x) s'):o.wp P a w (Nx N w0 G D k) (Px N w0 G D E):=by
 unfold Oper.wp
 rw[hrun]
 exact⟨G',_,s',hG,(hf.mono hG).put o.dst hR,(dc _ _ _).trans hD,hS,hk⟩
theorem rU (hf:FR N G a.tmps env)(hD:a.defers=D)(hrun:(execOp a.eval o).run P w=.ok .skip w')
  (hG:G.le G') (hS:Sim w0 G' w' s') (hk:k (put N env o.dst (.tup [])) s'):o.wp P a w (Nx N w0 G D k) (Px N w0 G D E):=by
 unfold Oper.wp
 rw[hrun]
 exact⟨G',_,s',hG,(hf.mono hG).put o.dst (.tup _ _ rfl (fun j v y hv=>by simp at hv)),(dc _ _ _).trans hD,hS,hk⟩
theorem LN {S:Sem Value}{v:Value}(h:S.run P w=.ok v w'):(do pure (Next.value (<- S)):Sem Next).run P w=.ok (.value v) w':=by
 simp[h]
theorem aN (T:TypeId)(h:(qi P T).sz≠0\/(qi P T).k≠.other\/(qi P T).zok=true) :
  ∃d i,P.underlying T=some d/\P.info? T=some i/\(qi P T).k=cg d/\(qi P T).sz=i.size/\(qi P T).bt=i.bytes:=by
 unfold qi at h ⊢
 cases hd:P.underlying T with
 |none=>simp[hd]at h
 |some d=>
  cases hi:P.info? T with
  |none=>simp[hd,hi]at h
  |some i=>exact⟨d,i,rfl,rfl,by cases hz:i.zero<;>simp[hz],by cases hz:i.zero<;>simp[hz],by cases hz:i.zero<;>simp[hz]⟩
theorem mB (T:TypeId)(h:(qi P T).zok=true) :
  ∃d i z,P.underlying T=some d/\P.info? T=some i/\(qi P T).k=cg d/\(qi P T).sz=i.size/\(qi P T).bt=i.bytes/\i.zero=some z/\z.cells.size=i.size/\0<i.size /\
   (∀v,v∈z.cells->v.oneCell'=true)/\((cg d).agg=!z.oneCell'/\rn z=true)/\(qi P T).z=z.cells.toList.map cv:=by
 obtain⟨d,i,hd,hi,h1,h2,h3⟩:=aN (P:=P) T (.inr (.inr h))
 unfold qi at h h1 h2 h3 ⊢
 simp only[hd,hi]at h h1 h2 h3 ⊢
 cases hz:i.zero with
 |none=>simp[hz]at h
 |some z=>
  simp only[hz]at h ⊢
  simp only[Bool.and_eq_true,beq_iff_eq,Array.all_eq_true,decide_eq_true_eq]at h
  obtain⟨⟨⟨⟨h1,h2⟩,h3⟩,h4⟩,h5⟩:=h
  refine⟨d,i,z,rfl,rfl,rfl,rfl,rfl,hz,h1,h4,fun v hv=>?_,⟨h3,h5⟩,rfl⟩
  obtain⟨j,hj,rfl⟩:=Array.mem_iff_getElem.1 hv
  exact h2 j hj
theorem iF {T:TypeId}{d:TypeDesc}(h:P.underlying T=some d):(isAgg T).run P w=.ok (cg d).agg w:=by
 unfold isAgg
 simp only[Sem.run_bind,run_underlying h,Result.andThen_ok]
 cases d<;>rfl
theorem aO {T:TypeId}{i:TypeInfo}(h:P.info? T=some i):(sizeOf T).run P w=.ok i.size w:=by
 simp[sizeOf,typeInfo,h]
def Lies (G:Gh)(w:World)(b off:Nat)(cs:List VV):Prop:=
 ∀(j:Nat) (y:VV),cs[j]?=some y->y.one=true/\∃v,w.cell? ⟨b,off+j,none⟩=some v/\R G v y
theorem cI (b off j:Nat):(⟨b,off,none⟩:Addr).add j=⟨b,off+j,none⟩:=by
 unfold Addr.add
 by_cases h:j=0<;>simp[h]
theorem jF {T:TypeId}{b off:Nat}{cs:List VV}{x:VV}{o:Nat}(hL:Lies G w b off cs)(h:cF cs o (qi P T).sz (qi P T).k.agg=some x) :
  ∃v,(loadVar T ⟨b,off+o,none⟩).run P w=.ok v w/\R G v x:=by
 unfold cF at h
 split at h
 ·rename_i hle
  split at h
  ·rename_i hag
   obtain⟨d,i,hd,hi,hk,hs,_⟩:=aN (P:=P) T (.inr (.inl (by intro e;rw[e]at hag;cases hag)))
   injection h with h
   subst h
   rw[hs]at hle ⊢
   have hcells:∀j,j<i.size->∃v,w.cell? ⟨b,off+o+j,none⟩=some v/\∀y,cs[o+j]?=some y->R G v y:=by
    intro j hj
    have hlt:o+j<cs.length:=by omega
    obtain⟨_,v,hv,hr⟩:=hL (o+j) cs[o+j] (m_ hlt)
    refine⟨v,by rw[<- Nat.add_assoc]at hv;exact hv,fun y hy=>?_⟩
    rw[m_ hlt]at hy
    injection hy with hy
    exact hy ▸ hr
   let f:Nat->Value:=fun j=>(w.cell? ⟨b,off+o+j,none⟩).getD default
   have hf:∀j,j<i.size->w.cell? ((⟨b,off+o,none⟩:Addr).add j)=some (f j):=by
    intro j hj
    rw[cI]
    obtain⟨v,hv,_⟩:=hcells j hj
    simp[f,hv]
   have hload:=run_loadCells (P:=P) (w:=w) ⟨b,off+o,none⟩ i.size f hf
   refine⟨.agg (Array.ofFn (n:=i.size) fun j=>f j),?_,?_⟩
   ·unfold loadVar
    rw[hk]at hag
    simp only[Sem.run_bind,iF hd,Result.andThen_ok,hag,if_true,aO hi,Sem.run_pure]
    rw[hload]
    simp only[Result.andThen_ok,Result.ok.injEq,and_true,Value.agg.injEq]
    apply Array.ext_getElem?
    intro j
    simp[Array.getElem?_ofFn]
    by_cases hj:j<i.size<;>simp[hj]
   ·refine .agg _ _ (by simp;omega) (fun y hy=>?_) (fun j v y hv hy=>?_)
    ·obtain⟨j,hj⟩:=d_.1 hy
     rw[List.getElem?_take]at hj
     split at hj
     ·rw[List.getElem?_drop]at hj
      exact(hL _ _ hj).1
     ·cases hj
    ·rw[List.getElem?_take]at hy
     split at hy
     ·rename_i hj
      rw[List.getElem?_drop]at hy
      obtain⟨u,hu,hr⟩:=hcells j hj
      simp only[Array.getElem?_ofFn,hj,dite_true,Option.some.injEq]at hv
      subst hv
      have:f j=u:=by simp[f,hu]
      rw[this];exact hr y hy
     ·cases hy
  ·rename_i hag
   split at h
   ·rename_i h1
    obtain⟨d,i,hd,hi,hk,hs,_⟩:=aN (P:=P) T (.inl (by omega))
    obtain⟨_,v,hv,hr⟩:=hL o x h
    refine⟨v,?_,hr⟩
    unfold loadVar
    rw[hk]at hag
    simp only[Sem.run_bind,iF hd,Result.andThen_ok,hag,Bool.false_eq_true,if_false,run_load,hv]
   ·cases h
 ·cases h
theorem Lies.of_eptr (hS:Sim w0 G w s){v:Value}{cs:List VV}(h:R G v (.eptr cs)):∃b off,v=.pointer (some ⟨b,off,none⟩)/\Lies G w b off cs:=by
 cases h with
 |eptr b off cs f h1 hK hR=>
  refine⟨b,off,rfl,fun j y hy=>⟨h1 y (d_.2 ⟨j,hy⟩),f j,hS.K _ _ _ (hK j ?_),hR j y hy⟩⟩
  exact(x_.1 hy).1
theorem Lies.of_obj (hS:Sim w0 G w s){b:Nat}{T:TypeId}{xs:List VV}(h:s b=.obj T xs):Lies G w b 0 xs:=by
 have ho:=hS.ok b
 rw[h]at ho
 obtain⟨_,_,c,e,_,hx⟩:=ho
 intro j y hy
 obtain⟨h1,v,hv,hr⟩:=hx j y hy
 exact⟨h1,v,by rw[Nat.zero_add,cell_of_row w b j c T (0,0) e];exact hv,hr⟩
theorem Lies.of_pk (hS:Sim w0 G w s){b:Nat}{T:TypeId}{xs:List VV}{rs:List (Nat×TypeId×Nat)}(h:s b=.pk T xs rs):Lies G w b 0 xs:=by
 have ho:=hS.ok b
 rw[h]at ho
 obtain⟨_,_,c,e,_,hx⟩:=ho
 intro j y hy
 obtain⟨h1,v,hv,hr⟩:=hx j y hy
 exact⟨h1,v,by rw[Nat.zero_add,cell_of_row w b j c T (0,0) e];exact hv,hr⟩
theorem Lies.of_rowC (hS:Sim w0 G w s){b:Nat}{T:TypeId}{sz:Nat}{xs:List VV}(h:s b=.row T sz xs):Lies G w b 0 xs:=by
 have ho:=hS.ok b
 rw[h]at ho
 obtain⟨_,_,c,cap,e,_,_,_,_,hx⟩:=ho
 intro j y hy
 obtain⟨h1,v,hv,hr⟩:=hx j y hy
 exact⟨h1,v,by rw[Nat.zero_add,cell_of_row w b j c T (0,0) e];exact hv,hr⟩
theorem pU {T:TypeId}{p:Value}{a x:VV}(hS:Sim w0 G w s)(hp:R G p a)(h:fJ (qi P T) a s=some x) :
  ∃v,(Instr.loadAt T p).run P w=.ok v w/\R G v x:=by
 cases a with
 |eptr cs=>
  obtain⟨b,off,rfl,hL⟩:=Lies.of_eptr hS hp
  obtain⟨v,hv,hr⟩:=jF (P:=P) (T:=T) (o:=0) hL h
  exact⟨v,by simpa [Instr.loadAt,Instr.sureAddr]using hv,hr⟩
 |ptr b off=>
  cases hp
  simp only[fJ]at h
  split at h
  ·rename_i T' xs hb
   obtain⟨v,hv,hr⟩:=jF (P:=P) (T:=T) (o:=off) (Lies.of_obj hS hb) h
   exact⟨v,by simpa [Instr.loadAt,Instr.sureAddr]using hv,hr⟩
  ·rename_i T' xs rs hb
   obtain⟨v,hv,hr⟩:=jF (P:=P) (T:=T) (o:=off) (Lies.of_pk hS hb) h
   exact⟨v,by simpa [Instr.loadAt,Instr.sureAddr]using hv,hr⟩
  ·rename_i T' sz xs hb
   obtain⟨v,hv,hr⟩:=jF (P:=P) (T:=T) (o:=off) (Lies.of_rowC hS hb) h
   exact⟨v,by simpa [Instr.loadAt,Instr.sureAddr]using hv,hr⟩
  ·cases h
 |_=>simp[fJ]at h
theorem bp {α:Type}(cs xs:List α)(off i:Nat)(h:off+xs.length<=cs.length) :
  (splice cs off xs)[i]?=if off<=i/\i<off+xs.length then xs[i - off]? else cs[i]?:=by
 unfold splice
 have h1:(cs.take off).length=off:=by rw[r_];omega
 rcases Nat.lt_or_ge i off with hlt|hge
 ·rw[if_neg (by omega),g_ (by rw[p_,h1];omega),g_ (by omega),List.getElem?_take,if_pos hlt]
 ·rcases Nat.lt_or_ge i (off+xs.length)with hlt|hge'
  ·rw[if_pos ⟨hge,hlt⟩,g_ (by rw[p_,h1];omega),h_ (by omega),h1]
  ·rw[if_neg (by omega),h_ (by rw[p_,h1];omega),p_,h1,List.getElem?_drop]
   congr 1;omega
theorem bR {α:Type}(cs xs:List α)(off:Nat)(h:off+xs.length<=cs.length):(splice cs off xs).length=cs.length:=by
 unfold splice
 simp only[p_,r_,u_]
 omega
theorem dZ {v:Value}{x:VV}(h:R G v x)(h1:x.cells.all VV.one=true) :
  v.cells.size=x.cells.length/\(∀u,u∈v.cells->u.oneCell'=true)/\∀(j:Nat) (u:Value) (y:VV),v.cells[j]?=some u->x.cells[j]?=some y->R G u y:=by
 have key:∀(vs:Array Value) (xs:List VV),vs.size=xs.length->xs.all VV.one=true->(∀(j:Nat) (v:Value) (y:VV),vs[j]?=some v->xs[j]?=some y->R G v y) ->
   ∀u,u∈vs->u.oneCell'=true:=by
  intro vs xs hs ha hR u hu
  obtain⟨j,hj,rfl⟩:=Array.mem_iff_getElem.1 hu
  have hlt:j<xs.length:=by omega
  rw[(hR j vs[j] xs[j] (Array.getElem?_eq_getElem hj) (m_ hlt)).one]
  exact List.all_eq_true.1 ha _ (List.getElem_mem hlt)
 cases x with
 |agg cs=>
  cases h with
  |agg vs xs hs _ hR=>exact⟨hs,key vs cs hs h1 hR,hR⟩
 |tup xs=>simp[VV.cells,VV.one]at h1
 |_=>
  have ho:=h.one
  rw[show VV.one _=true by simpa [VV.cells]using h1]at ho
  have hc:v.cells=#[v]:=by cases v<;>first|rfl|(simp[Value.oneCell']at ho)
  refine⟨by simp[hc,VV.cells],by simp[hc,ho],fun j u y hu hy=>?_⟩
  rw[hc]at hu
  cases j with
  |zero=>simp[VV.cells]at hu hy;subst hu;subst hy;exact h
  |succ j=>simp at hu
theorem uq {T:TypeId}{p v:Value}{a x:VV}{s':St}(hS:Sim w0 G w s)(hp:R G p a)(hv:R G v x)(h:gR (qi P T) a x s=some s') :
  ∃w',(Instr.storeAt T p v).run P w=.ok () w'/\Sim w0 G w' s':=by
 cases a with
 |ptr b off=>
  cases hp
  simp only[gR]at h
  split at h
  ·rename_i T' xs hb
   split at h
   ·rename_i hc
    obtain⟨hlen,hpos,hle,hone⟩:=hc
    injection h with h
    subst h
    obtain⟨hsz,hcell,hrel⟩:=dZ hv hone
    have ho:=hS.ok b
    rw[hb]at ho
    obtain⟨hB,hn,c,e,hcs,hx⟩:=ho
    obtain⟨d,i,hd,hi,hk,hs,_⟩:=aN (P:=P) T (.inl (by omega))
    have hst:=run_storeCells_at P b off T' v.cells.toList 0 c w e (by simp;omega) (fun u hu=>hcell u (by simpa using hu))
    have hw:off+x.cells.length<=xs.length:=by omega
    have hwc:off+v.cells.toList.length<=c.toList.length:=by simp;omega
    refine⟨_,?_,hS.set_obj hb (w.setRow b (splice c.toList off v.cells.toList).toArray) (splice c.toList off v.cells.toList).toArray
     ⟨rfl,rfl,rfl,by simp,fun k hk=>setRow_other w b k _ (by omega)⟩ (by simp) (setRow_heap w b c _ T' _ e) (fun k hk=>setRow_other w b k _ hk)
     (by rw[List.size_toArray,bR _ _ _ hwc,bR _ _ _ hw];simpa using hcs) (fun j y hy=>?_)⟩
    ·unfold Instr.storeAt storeVar
     simp only[Instr.sureAddr,Sem.run_bind,Sem.run_pure,Result.andThen_ok,aO hi,Sem.run_ite]
     rw[if_neg (by rw[hsz,hlen,hs];simp)]
     simp only[Nat.add_zero]at hst
     simpa [splice]using hst
    ·rw[bp _ _ _ _ hw]at hy
     rw[List.getElem?_toArray,bp _ _ _ _ hwc]
     have hll:v.cells.toList.length=x.cells.length:=by simpa using hsz
     rw[hll]
     split at hy
     ·rename_i hin
      rw[if_pos hin]
      have hlt:j - off<v.cells.size:=by omega
      refine⟨List.all_eq_true.1 hone y (d_.2 ⟨_,hy⟩),v.cells[j - off],by simp[hlt],hrel _ _ y (Array.getElem?_eq_getElem hlt) hy⟩
     ·rename_i hin
      rw[if_neg hin]
      obtain⟨h1,u,hu,hr⟩:=hx j y hy
      exact⟨h1,u,by simpa using hu,hr⟩
   ·cases h
  ·rename_i T' xs rs hb
   split at h
   ·rename_i hc
    obtain⟨hlen,hpos,hle,hone⟩:=hc
    injection h with h
    subst h
    obtain⟨hsz,hcell,hrel⟩:=dZ hv hone
    have ho:=hS.ok b
    rw[hb]at ho
    obtain⟨hB,hn,c,e,hcs,hx⟩:=ho
    obtain⟨d,i,hd,hi,hk,hs,_⟩:=aN (P:=P) T (.inl (by omega))
    have hst:=run_storeCells_at P b off T' v.cells.toList 0 c w e (by simp;omega) (fun u hu=>hcell u (by simpa using hu))
    have hw:off+x.cells.length<=xs.length:=by omega
    have hwc:off+v.cells.toList.length<=c.toList.length:=by simp;omega
    refine⟨_,?_,hS.set_pk hb (w.setRow b (splice c.toList off v.cells.toList).toArray) c (splice c.toList off v.cells.toList).toArray e
     ⟨rfl,rfl,rfl,by simp,fun k hk=>setRow_other w b k _ (by omega)⟩ (by simp) (setRow_heap w b c _ T' _ e) (fun k hk=>setRow_other w b k _ hk)
     (by rw[List.size_toArray,bR _ _ _ hwc,bR _ _ _ hw];simpa using hcs) (fun j y hy=>?_) (fun r hr=>?_)⟩
    ·unfold Instr.storeAt storeVar
     simp only[Instr.sureAddr,Sem.run_bind,Sem.run_pure,Result.andThen_ok,aO hi,Sem.run_ite]
     rw[if_neg (by rw[hsz,hlen,hs];simp)]
     simp only[Nat.add_zero]at hst
     simpa [splice]using hst
    ·rw[bp _ _ _ _ hw]at hy
     rw[List.getElem?_toArray,bp _ _ _ _ hwc]
     have hll:v.cells.toList.length=x.cells.length:=by simpa using hsz
     rw[hll]
     split at hy
     ·rename_i hin
      rw[if_pos hin]
      have hlt:j - off<v.cells.size:=by omega
      refine⟨List.all_eq_true.1 hone y (d_.2 ⟨_,hy⟩),v.cells[j - off],by simp[hlt],hrel _ _ y (Array.getElem?_eq_getElem hlt) hy⟩
     ·rename_i hin
      rw[if_neg hin]
      obtain⟨h1,u,hu,hr⟩:=hx j y hy
      exact⟨h1,u,by simpa using hu,hr⟩
    ·simp only[tf,List.mem_filter,Bool.or_eq_true,decide_eq_true_eq]at hr
     refine⟨hr.1,?_,?_⟩
     ·rw[bp _ _ _ _ hw,if_neg (by omega)]
     ·rw[List.getElem?_toArray,bp _ _ _ _ hwc,if_neg (by simp only[Array.length_toList];omega)];simp
   ·cases h
  ·rename_i T' sz xs hb
   split at h
   ·rename_i hc
    obtain⟨hlen,hpos,hle,hone⟩:=hc
    injection h with h
    subst h
    obtain⟨hsz,hcell,hrel⟩:=dZ hv hone
    have ho:=hS.ok b
    rw[hb]at ho
    obtain⟨hB,hn,c,cap,e,hq,hcs,hcl,hm,hx⟩:=ho
    obtain⟨d,i,hd,hi,hk,hs,_⟩:=aN (P:=P) T (.inl (by omega))
    have hst:=run_storeCells_at P b off T' v.cells.toList 0 c w e (by simp;omega) (fun u hu=>hcell u (by simpa using hu))
    have hw:off+x.cells.length<=xs.length:=by omega
    have hwc:off+v.cells.toList.length<=c.toList.length:=by simp;omega
    refine⟨_,?_,hS.set_row hb (w.setRow b (splice c.toList off v.cells.toList).toArray) c (splice c.toList off v.cells.toList).toArray e
     ⟨rfl,rfl,rfl,by simp,fun k hk=>setRow_other w b k _ (by omega)⟩ (by simp) (setRow_heap w b c _ T' _ e) (fun k hk=>setRow_other w b k _ hk)
     (by rw[List.size_toArray,bR _ _ _ hwc];simp) (by rw[bR _ _ _ hw,hcs];exact hcl) (fun j y hy=>?_)⟩
    ·unfold Instr.storeAt storeVar
     simp only[Instr.sureAddr,Sem.run_bind,Sem.run_pure,Result.andThen_ok,aO hi,Sem.run_ite]
     rw[if_neg (by rw[hsz,hlen,hs];simp)]
     simp only[Nat.add_zero]at hst
     simpa [splice]using hst
    ·rw[bp _ _ _ _ hw]at hy
     rw[List.getElem?_toArray,bp _ _ _ _ hwc]
     have hll:v.cells.toList.length=x.cells.length:=by simpa using hsz
     rw[hll]
     split at hy
     ·rename_i hin
      rw[if_pos hin]
      have hlt:j - off<v.cells.size:=by omega
      refine⟨List.all_eq_true.1 hone y (d_.2 ⟨_,hy⟩),v.cells[j - off],by simp[hlt],hrel _ _ y (Array.getElem?_eq_getElem hlt) hy⟩
     ·rename_i hin
      rw[if_neg hin]
      obtain⟨h1,u,hu,hr⟩:=hx j y hy
      exact⟨h1,u,by simpa using hu,hr⟩
   ·cases h
  ·cases h
 |_=>simp[gR]at h
end
section
variable {P : Program} {N : Nat} {w0 w w' : World} {G G' : Gh} {s s' : St}
theorem ke (vs:List Value):∀(off:Nat) (cs:Array Value) (n:Nat),off+n+vs.length<=cs.size ->
  ((vs.zipIdx n).foldl (fun cs (c,j)=>cs.setIfInBounds (off+j) c) cs).toList=splice cs.toList (off+n) vs:=by
 induction vs with
 |nil=>intro off cs n h;simp[splice]
 |cons v vs ih=>
  intro off cs n h
  simp only[List.length_cons]at h
  rw[List.zipIdx_cons,List.foldl_cons,ih off _ (n+1) (by simp;omega)]
  apply List.ext_getElem?
  intro i
  rw[bp _ _ _ _ (by simp;omega),bp _ _ _ _ (by simp;omega)]
  simp only[Array.toList_setIfInBounds,List.length_cons]
  by_cases h1:i=off+n
  ·subst h1
   rw[if_neg (by omega),if_pos (by omega)]
   have:off+n<cs.size:=by omega
   simp[this]
  ·by_cases h2:off+(n+1)<=i/\i<off+(n+1)+vs.length
   ·rw[if_pos h2,if_pos (by omega)]
    have:i - (off+n)=(i - (off+(n+1)))+1:=by omega
    rw[this];simp
   ·rw[if_neg h2,if_neg (by omega),i_ (by omega)]
def RLs (G:Gh)(vs:Array Value)(xs:List VV):Prop:=
 vs.size=xs.length/\(∀y,y∈xs->y.one=true)/\∀(j:Nat) (v:Value) (y:VV),vs[j]?=some v->xs[j]?=some y->R G v y
theorem RLs.splice {vs us:Array Value}{xs ys:List VV}{off:Nat}(h:RLs G vs xs)(h':RLs G us ys)(hle:off+ys.length<=xs.length) :
  RLs G (splice vs.toList off us.toList).toArray (splice xs off ys):=by
 have hv:vs.toList.length=xs.length:=by simpa using h.1
 have hu:us.toList.length=ys.length:=by simpa using h'.1
 refine⟨by rw[List.size_toArray,bR _ _ _ (by omega),bR _ _ _ hle,hv],fun y hy=>?_,fun j v y hvj hyj=>?_⟩
 ·obtain⟨j,hj⟩:=d_.1 hy
  rw[bp _ _ _ _ hle]at hj
  split at hj
  ·exact h'.2.1 y (d_.2 ⟨_,hj⟩)
  ·exact h.2.1 y (d_.2 ⟨_,hj⟩)
 ·rw[List.getElem?_toArray,bp _ _ _ _ (by omega),hu]at hvj
  rw[bp _ _ _ _ hle]at hyj
  split at hyj
  ·rename_i hin
   rw[if_pos hin]at hvj
   exact h'.2.2 _ v y (by simpa using hvj) hyj
  ·rename_i hin
   rw[if_neg hin]at hvj
   exact h.2.2 _ v y (by simpa using hvj) hyj
theorem RLs.of_cells {v:Value}{x:VV}(h:R G v x)(h1:x.cells.all VV.one=true):RLs G v.cells x.cells:=
 ⟨(dZ h h1).1,fun y hy=>List.all_eq_true.1 h1 y hy,(dZ h h1).2.2⟩
theorem RLs.zero {T:TypeId}(h:(qi P T).zok=true):∃z i d,P.info? T=some i/\P.underlying T=some d/\(qi P T).k=cg d/\(qi P T).sz=i.size/\i.zero=some z/\0<i.size/\z.cells.size=i.size /\
  ((cg d).agg=!z.oneCell'/\rn z=true)/\RLs G z.cells (qi P T).z:=by
 obtain⟨d,i,z,hd,hi,hk,hs,_,hz,hzs,hpos,hone,hag,hzz⟩:=mB (P:=P) T h
 refine⟨z,i,d,hi,hd,hk,hs,hz,hpos,hzs,hag,by rw[hzz];simp,fun y hy=>?_,fun j v y hv hy=>?_⟩
 ·rw[hzz]at hy
  obtain⟨u,hu,rfl⟩:=A_.1 hy
  rw[<- (R.cv G u).one]
  exact hone u (by simpa using hu)
 ·rw[hzz]at hy
  have:z.cells.toList[j]?=some v:=by simpa using hv
  rw[n_,this]at hy
  simp at hy
  exact hy ▸ R.cv G v
theorem nC {T:TypeId}(xa:Nat->Option (Nat×Nat))(hpl:∀(j off sz:Nat),qp P T j=some (off,sz)->xa j=some (off,sz)) :
  ∀(parts:List (Nat×VV)) (vps:List (Nat×Value)) (cs:List VV) (vs:Array Value) (cs':List VV),RLs G vs cs ->
   vps.length=parts.length->(∀(i:Nat) (p:Nat×VV) (q:Nat×Value),parts[i]?=some p->vps[i]?=some q->p.1=q.1/\R G q.2 p.2) ->
   gL P T cs parts=some cs'->∃vs',Instr.fill xa vs vps=some vs'/\RLs G vs' cs'
 |[],[],cs,vs,cs',h,_,_,hf=>by
  simp only[gL,Option.some.injEq]at hf
  subst hf
  exact⟨vs,rfl,h⟩
 |(j,x)::parts,(j',v)::vps,cs,vs,cs',h,hl,hp,hf=>by
  obtain⟨e,hr⟩:=hp 0 _ _ rfl rfl
  simp only at e hr
  subst e
  simp only[gL]at hf
  cases hq:qp P T j with
  |none=>simp[hq]at hf
  |some q=>
   obtain⟨off,sz⟩:=q
   simp only[hq]at hf
   split at hf
   ·rename_i hc
    obtain⟨h1,h2,h3⟩:=hc
    have hpj:=hpl j off sz hq
    have hcell:=RLs.of_cells hr h3
    have hsz:v.cells.size=sz:=hcell.1.trans h1
    have hlen:vs.size=cs.length:=h.1
    have hle:off+x.cells.length<=cs.length:=by omega
    have hstep:=ke v.cells.toList off vs 0 (by simp;omega)
    have h':=h.splice hcell hle
    simp only[Nat.add_zero]at hstep
    rw[<- hstep,Array.toArray_toList]at h'
    obtain⟨vs',hv',hr'⟩:=nC xa hpl parts vps _ _ cs' h' (by simpa using hl) (fun i p q hpi hqi=>hp (i+1) p q (by simpa using hpi) (by simpa using hqi)) hf
    refine⟨vs',?_,hr'⟩
    simp only[Instr.fill,hpj]
    rw[if_neg (by simp;omega)]
    rw[<- hv',<- Array.foldl_toList,Array.toList_zipIdx]
   ·cases hf
theorem l7 {fs:Array Field}(h:∀f,f∈fs->∃i,P.info? f.type=some i) :
  ∃places:Array (Nat×Nat),(fs.mapM (m:=Sem) fun f=>do pure (f.offset,<- sizeOf f.type)).run P w=.ok places w /\
   ∀(j:Nat) (f:Field),fs[j]?=some f->∃i:TypeInfo,P.info? f.type=some i/\places[j]?=some (f.offset,i.size):=by
 have key:∀(l:List Field),(∀f,f∈l->∃i,P.info? f.type=some i) ->
   ∃ps:List (Nat×Nat),(l.mapM (m:=Sem) fun f=>do pure (f.offset,<- sizeOf f.type)).run P w=.ok ps w /\
    ∀(j:Nat) (f:Field),l[j]?=some f->∃i:TypeInfo,P.info? f.type=some i/\ps[j]?=some (f.offset,i.size):=by
  intro l
  induction l with
  |nil=>exact fun _=>⟨[],by simp,fun j f hj=>by simp at hj⟩
  |cons f l ih=>
   intro hl
   obtain⟨i,hi⟩:=hl f (List.mem_cons_self)
   obtain⟨ps,hps,hj⟩:=ih fun g hg=>hl g (List.mem_cons_of_mem _ hg)
   refine⟨(f.offset,i.size)::ps,?_,fun j g hg=>?_⟩
   ·simp only[List.mapM_cons,Sem.run_bind,aO hi,Result.andThen_ok,Sem.run_pure,hps]
   ·cases j with
    |zero=>simp at hg;subst hg;exact⟨i,hi,rfl⟩
    |succ j=>simpa using hj j g (by simpa using hg)
 obtain⟨ps,hps,hj⟩:=key fs.toList (fun f hf=>h f (by simpa using hf))
 refine⟨ps.toArray,?_,fun j f hf=>by simpa using hj j f (by simpa using hf)⟩
 rw[Array.mapM_eq_mapM_toList]
 simp only[Sem.run_map,hps,Result.andThen_ok]
theorem yg {T:TypeId}{parts:List (Nat×VV)}{vps:Array (Nat×Value)}{cs':List VV}(hz:(qi P T).zok=true)
  (hl:vps.size=parts.length) (hp:∀(i:Nat) (p:Nat×VV) (q:Nat×Value),parts[i]?=some p->vps[i]?=some q->p.1=q.1/\R G q.2 p.2)
  (h:gL P T (qi P T).z parts=some cs') (hst:fok P T=true) :
  ∃vs',(Instr.build T vps).run P w=.ok (.agg vs') w/\RLs G vs' cs':=by
 obtain⟨z,i,d,hi,hd,hk,hs,hzz,hpos,hzs,hag,hrl⟩:=RLs.zero (P:=P) (G:=G) hz
 have hst':(∃fs,P.underlying T=some (.struct fs)/\∀f,f∈fs->∃i,P.info? f.type=some i)\/∃n e ie,P.underlying T=some (.array n e)/\P.info? e=some ie:=by
  unfold fok at hst
  split at hst
  ·rename_i fs ht
   refine .inl ⟨fs,ht,fun f hf=>?_⟩
   obtain⟨j,hj,rfl⟩:=Array.mem_iff_getElem.1 hf
   exact Option.isSome_iff_exists.1 (Array.all_eq_true.1 hst j hj)
  ·rename_i n e ht
   obtain⟨ie,hie⟩:=Option.isSome_iff_exists.1 hst
   exact .inr ⟨n,e,ie,ht,hie⟩
  ·cases hst
 rcases hst' with ⟨fs,ht,hfi⟩|⟨n,e,ie,ht,hie⟩
 ·obtain⟨places,hpl,hpj⟩:=l7 (P:=P) (w:=w) hfi
  have hplace:∀(j off sz:Nat),qp P T j=some (off,sz)->places[j]?=some (off,sz):=fun j off sz hq=>by
   unfold qp at hq
   simp only[ht]at hq
   obtain⟨q,hq,he⟩:=Option.map_eq_some_iff.1 hq
   unfold qf at hq
   simp only[ht]at hq
   cases hfj:fs[j]? with
   |none=>simp[hfj]at hq
   |some f=>
    simp only[hfj]at hq
    obtain⟨i,hi,hpp⟩:=hpj j f hfj
    cases hu:P.underlying f.type with
    |none=>simp[hu]at hq
    |some d=>
     simp only[hu,hi]at hq
     split at hq
     ·cases hq
     ·injection hq with hq
      subst hq
      simp only[Prod.mk.injEq]at he
      rw[hpp,<- he.1,<- he.2]
  obtain⟨vs',hv',hr'⟩:=nC (P:=P) (G:=G) (places[·]?) hplace parts vps.toList (qi P T).z z.cells cs' hrl (by simpa using hl)
   (fun i p q hpi hqi=>hp i p q hpi (by simpa using hqi)) h
  refine⟨vs',?_,hr'⟩
  unfold Instr.build
  simp only[Sem.run_bind,zeroValue,typeInfo,run_program,Result.andThen_ok,hi,Sem.run_pure,hzz,run_underlying ht,hpl,hv']
 ·have hplace:∀(j off sz:Nat),qp P T j=some (off,sz)->(fun i=>some (i * ie.size,ie.size)) j=some (off,sz):=fun j off sz hq=>by
   unfold qp at hq
   simp only[ht,hie]at hq
   split at hq
   ·cases hq
   ·exact hq
  obtain⟨vs',hv',hr'⟩:=nC (P:=P) (G:=G) (fun i=>some (i * ie.size,ie.size)) hplace parts vps.toList (qi P T).z z.cells cs' hrl (by simpa using hl)
   (fun i p q hpi hqi=>hp i p q hpi (by simpa using hqi)) h
  refine⟨vs',?_,hr'⟩
  unfold Instr.build
  simp only[Sem.run_bind,zeroValue,typeInfo,run_program,Result.andThen_ok,hi,Sem.run_pure,hzz,run_underlying ht,aO hie,hv']
theorem kO {sz:Nat}:∀(parts:List (Nat×VV)) (i:Nat) (xs:List (List VV)),gj sz i parts=some xs ->
  xs.length=parts.length/\(∀x,x∈xs->x.length=sz)/\(∀x,x∈xs->∀y,y∈x->y.one=true) /\
   ∀(j:Nat) (p:Nat×VV),parts[j]?=some p->p.1=i+j/\xs[j]?=some p.2.cells/\p.2.cells.all VV.one=true
 |[],i,xs,h=>by
  simp only[gj,Option.some.injEq]at h
  subst h
  simp
 |(k,x)::parts,i,xs,h=>by
  simp only[gj]at h
  split at h
  ·rename_i hc
   obtain⟨hk,hl,ho⟩:=hc
   cases hr:gj sz (i+1) parts with
   |none=>simp[hr]at h
   |some ys=>
    simp only[hr,Option.map_some,Option.some.injEq]at h
    subst h
    obtain⟨h1,h2,h3,h4⟩:=kO parts (i+1) ys hr
    refine⟨by simp[h1],fun z hz=>?_,fun z hz=>?_,fun j p hj=>?_⟩
    ·rcases AT.1 hz with rfl|hz
     ·exact hl
     ·exact h2 z hz
    ·rcases AT.1 hz with rfl|hz
     ·exact fun y hy=>List.all_eq_true.1 ho y hy
     ·exact h3 z hz
    ·cases j with
     |zero=>simp at hj;subst hj;exact⟨hk,rfl,ho⟩
     |succ j=>
      obtain⟨a,b,c⟩:=h4 j p (by simpa using hj)
      exact⟨by omega,by simpa using b,c⟩
  ·cases h
theorem ic {sz:Nat}:∀(parts:List (Nat×VV)) (vps:List (Nat×Value)) (i:Nat) (xs:List (List VV)) (cs:Array Value),gj sz i parts=some xs ->
  vps.length=parts.length->(∀(i:Nat) (p:Nat×VV) (q:Nat×Value),parts[i]?=some p->vps[i]?=some q->p.1=q.1/\R G q.2 p.2) ->
  (i+parts.length) * sz<=cs.size ->
  ∃vs:Array Value,Instr.fill (fun i=>some (i * sz,sz)) cs vps=some vs/\vs.size=cs.size/\(∀k,k<i * sz->vs[k]?=cs[k]?) /\
   ∀(j m:Nat) (x:List VV) (y:VV),xs[j]?=some x->x[m]?=some y->∃v,vs[(i+j) * sz+m]?=some v/\R G v y
 |[],[],i,xs,cs,h,_,_,_=>by
  simp only[gj,Option.some.injEq]at h
  subst h
  exact⟨cs,rfl,rfl,fun _ _=>rfl,by simp⟩
 |(k,x)::parts,(k',v)::vps,i,xs,cs,h,hl,hp,hle=>by
  simp only[gj]at h
  split at h
  ·rename_i hc
   obtain⟨hk,hlx,ho⟩:=hc
   cases hr:gj sz (i+1) parts with
   |none=>simp[hr]at h
   |some ys=>
    simp only[hr,Option.map_some,Option.some.injEq]at h
    subst h
    obtain⟨e,hv⟩:=hp 0 _ _ rfl rfl
    simp only at e hv
    subst e
    subst hk
    obtain⟨hvs,_,hvr⟩:=dZ hv ho
    have hmul:(k+1) * sz<=(k+(parts.length+1)) * sz:=Nat.mul_le_mul_right _ (by omega)
    have hmul2:(k+1) * sz=k * sz+sz:=Nat.succ_mul k sz
    simp only[List.length_cons]at hle
    have hfit:k * sz+v.cells.toList.length<=cs.size:=by simp;omega
    have hstep:=ke v.cells.toList (k * sz) cs 0 (by simpa using hfit)
    simp only[Nat.add_zero]at hstep
    have hlen1:(splice cs.toList (k * sz) v.cells.toList).length=cs.size:=by
     rw[bR _ _ _ (by simpa using hfit)];simp
    obtain⟨vs,hf,hs,hlow,hall⟩:=ic parts vps (k+1) ys (splice cs.toList (k * sz) v.cells.toList).toArray hr (by simpa using hl)
     (fun i p q hpi hqi=>hp (i+1) p q (by simpa using hpi) (by simpa using hqi))
     (by rw[List.size_toArray,hlen1,show k+1+parts.length=k+(parts.length+1) by omega];exact hle)
    refine⟨vs,?_,by rw[hs,List.size_toArray,hlen1],fun q hq=>?_,fun j m z y hz hy=>?_⟩
    ·simp only[Instr.fill]
     rw[if_neg (by simp at hfit ⊢;omega),<- hf,<- Array.foldl_toList,Array.toList_zipIdx,<- hstep,Array.toArray_toList]
    ·rw[hlow q (by omega),List.getElem?_toArray,bp _ _ _ _ (by simpa using hfit),if_neg (by omega)]
     simp
    ·cases j with
     |zero=>
      simp only[List.getElem?_cons_zero,Option.some.injEq]at hz
      subst hz
      have hm:m<x.cells.length:=(x_.1 hy).1
      rw[Nat.add_zero,hlow _ (by omega),List.getElem?_toArray,bp _ _ _ _ (by simpa using hfit),if_pos (by simp;omega)]
      have hmv:m<v.cells.size:=by omega
      refine⟨v.cells[m],by simp[hmv],hvr m _ y (Array.getElem?_eq_getElem hmv) hy⟩
     |succ j=>
      obtain⟨u,hu,hru⟩:=hall j m z y (by simpa using hz) hy
      exact⟨u,by rw[<- hu];congr 3;omega,hru⟩
  ·cases h
theorem nD {T e:TypeId}{len:Nat}{parts:List (Nat×VV)}{vps:Array (Nat×Value)}{xs:List (List VV)}(hS:Sim w0 G w s)
  (hk:(qi P T).k=.slice e) (hz:(qi P e).zok=true) (hlen:parts.length=len) (hbig:len * (qi P e).sz<=16777216)
  (hl:vps.size=parts.length) (hp:∀(i:Nat) (p:Nat×VV) (q:Nat×Value),parts[i]?=some p->vps[i]?=some q->p.1=q.1/\R G q.2 p.2)
  (h:gj (qi P e).sz 0 parts=some xs) :
  ∃v w' G',(Instr.buildSlice T len vps).run P w=.ok v w'/\G.le G'/\Sim w0 G' w' s/\R G' v (.lst xs (jm len)):=by
 obtain⟨dT,iT,hdT,hiT,hkT,_⟩:=aN (P:=P) T (.inr (.inl (by rw[hk];simp)))
 have hdT':dT=.slice e:=by
  rw[hk]at hkT
  cases dT<;>simp[cg]at hkT
  rw[hkT]
 subst hdT'
 obtain⟨z,i,d,hi,hd,hke,hs,hzz,hpos,hzs,hag,hrl⟩:=RLs.zero (P:=P) (G:=G) hz
 obtain⟨hxl,hx2,hx3,_⟩:=kO parts 0 xs h
 by_cases h00:len=0
 ·subst h00
  have hp0:parts=[]:=l_ hlen
  subst hp0
  have hv0:vps=#[]:=by simpa using hl
  subst hv0
  have hx0:xs=[]:=by simpa [gj]using h.symm
  subst hx0
  refine⟨.slice (some ⟨w.heap.size,0,none⟩) 0 0,_,G,?_,Gh.le.refl G,hS.alloc (.cells #[] e),.emp _ _ _ (.inl rfl)⟩
  unfold Instr.buildSlice
  simp[run_underlying hdT,aO hi,Instr.fill,newRow]
  rw[show (Array.range 0:Array Nat)=#[] from Array.eq_empty_of_size_eq_zero (by simp),Array.map_empty]
 have h0:0<len:=by omega
 have hown:jm len=.full:=by cases len with|zero=>omega|succ n=>rfl
 rw[hown]
 have hzne:len * i.size≠0:=by
  have:=Nat.mul_pos h0 hpos
  omega
 obtain⟨vs,hf,hvs,_,hall⟩:=ic (G:=G) parts vps.toList 0 xs ((Array.range (len * i.size)).map fun q=>z.cells[q % z.cells.size]!) h
  (by simpa using hl) (fun i p q hpi hqi=>hp i p q hpi (by simpa using hqi)) (by simp[hlen,hs])
 obtain⟨hS',hG'⟩:=hS.alloc_know e vs
 refine⟨.slice (some ⟨w.heap.size,0,none⟩) len len,_,_,?_,hG',hS',?_⟩
 ·unfold Instr.buildSlice
  simp only[Sem.run_bind,run_underlying hdT,Result.andThen_ok,aO hi,Sem.run_ite]
  rw[if_neg (by rw[hs]at hbig;omega)]
  simp only[hzne,if_false,Sem.run_bind,zeroValue,typeInfo,run_program,hi,Result.andThen_ok,hzz,Sem.run_pure]
  rw[hs]at hf
  rw[hf]
  simp only[newRow,Sem.run_bind,run_newObj,Result.andThen_ok,Sem.run_pure]
  rfl
 ·have hvsz:vs.size=len * i.size:=by rw[hvs];simp
  refine .lst w.heap.size 0 len len (qi P e).sz xs .full (fun a b=>(vs[a * (qi P e).sz+b]?).getD default) (by omega) (Nat.le_refl _) hx2 hx3 (fun a b ha hb=>?_) (fun a b x y hxa hyb=>?_) (.inr (.inl ⟨rfl,rfl,by omega⟩))
  ·rw[Gh.know_K,Nat.zero_add]
   have:a * (qi P e).sz+b<vs.size:=by
    rw[hvsz,<- hs]
    have:=Nat.mul_le_mul_right (qi P e).sz (show a+1<=len by omega)
    rw[Nat.succ_mul]at this
    omega
   simp[this]
  ·obtain⟨v,hv,hr⟩:=hall a b x y hxa hyb
   rw[Nat.zero_add]at hv
   simp only[hv,Option.getD_some]
   exact hr.mono hG'
end
section
variable {P : Program} {N : Nat} {w0 w w' : World} {G G' : Gh} {s s' : St}
theorem wZ {T:TypeId}{j off sz:Nat}{ag:Bool}(h:qf P T j=some (off,sz,ag)) :
  ∃fs f d i,P.underlying T=some (.struct fs)/\fs[j]?=some f/\P.underlying f.type=some d/\P.info? f.type=some i/\i.size≠0/\f.offset=off/\i.size=sz/\(cg d).agg=ag:=by
 unfold qf at h
 split at h
 ·rename_i fs hu
  split at h
  ·rename_i f hf
   split at h
   ·rename_i d i hd hi
    split at h
    ·cases h
    ·rename_i hz
     simp only[Option.some.injEq,Prod.mk.injEq]at h
     exact⟨fs,f,d,i,hu,hf,hd,hi,hz,h.1,h.2.1,h.2.2⟩
   ·cases h
  ·cases h
 ·cases h
theorem lM {T:TypeId}{j off sz:Nat}{ag:Bool}(h:qf P T j=some (off,sz,ag))(b o:Nat) :
  (Instr.fieldAt T (.pointer (some ⟨b,o,none⟩)) j).run P w=.ok (.pointer (some ⟨b,o+off,none⟩)) w:=by
 obtain⟨fs,f,d,i,hu,hf,hd,hi,hz,ho,hs,_⟩:=wZ h
 unfold Instr.fieldAt
 simp only[Sem.run_bind,run_underlying hu,Result.andThen_ok,hf,Instr.sureAddr,Sem.run_pure,fieldPlace,aO hi,Sem.run_ite]
 rw[if_neg hz]
 simp[cI,ho]
theorem R.eptr_drop {b o:Nat}{cs:List VV}(h:R G (.pointer (some ⟨b,o,none⟩)) (.eptr cs))(off:Nat):R G (.pointer (some ⟨b,o+off,none⟩)) (.eptr (cs.drop off)):=by
 cases h with
 |eptr b off' cs f h1 hK hR=>
  refine .eptr b (o+off) _ (fun j=>f (off+j)) (fun y hy=>h1 y (List.mem_of_mem_drop hy)) (fun j hj=>?_) (fun j y hy=>?_)
  ·rw[u_]at hj
   rw[Nat.add_assoc]
   exact hK _ (by omega)
  ·rw[List.getElem?_drop]at hy
   exact hR _ y hy
theorem yf {T:TypeId}{j off sz:Nat}{ag:Bool}{cs:List VV}{v:Value}{x:VV}(h:qf P T j=some (off,sz,ag))(hv:R G v (.agg cs))(hx:cF cs off sz ag=some x) :
  ∃u,(Instr.field T v j).run P w=.ok u w/\R G u x:=by
 obtain⟨fs,f,d,i,hu,hf,hd,hi,hz,ho,hs,hag⟩:=wZ h
 cases hv with
 |agg vs xs hsz h1 hR=>
  unfold cF at hx
  split at hx
  ·rename_i hle
   unfold Instr.field
   simp only[Sem.run_bind,run_underlying hu,Result.andThen_ok,hf,asAgg,Sem.run_pure,part,iF hd,Sem.run_ite,aO hi,hag,ho]
   cases ag with
   |true=>
    simp only[if_true,Option.some.injEq]at hx
    subst hx
    refine⟨_,by simp;rfl,.agg _ _ (by simp;omega) (fun y hy=>h1 y (List.mem_of_mem_drop (List.mem_of_mem_take hy))) (fun k v y hv hy=>?_)⟩
    rw[Array.getElem?_extract]at hv
    rw[List.getElem?_take]at hy
    split at hy
    ·rw[List.getElem?_drop]at hy
     split at hv
     ·exact hR _ v y hv hy
     ·cases hv
    ·cases hy
   |false=>
    simp only[Bool.false_eq_true,if_false]at hx ⊢
    split at hx
    ·have hlt:off<vs.size:=by have:=(x_.1 hx).1;omega
     refine⟨vs[off],by simp[hlt],hR off _ x (Array.getElem?_eq_getElem hlt) hx⟩
    ·cases hx
  ·cases hx
theorem aZ {T e:TypeId}(hk:(qi P T).k=.slice e):P.underlying T=some (.slice e):=by
 obtain⟨d,i,hd,hi,hkT,_⟩:=aN (P:=P) T (.inr (.inl (by rw[hk];simp)))
 rw[hk]at hkT
 cases d<;>simp[cg]at hkT
 rw[hd,hkT]
theorem jS {T:TypeId}(hk:(qi P T).k=.str):P.underlying T=some .string:=by
 obtain⟨d,i,hd,hi,hkT,_⟩:=aN (P:=P) T (.inr (.inl (by rw[hk];simp)))
 rw[hk]at hkT
 cases d<;>simp[cg]at hkT
 exact hd
theorem og {T e:TypeId}{m:Nat}(hk:(qi P T).k=.array m e):P.underlying T=some (.array m e):=by
 obtain⟨d,i,hd,hi,hkT,_⟩:=aN (P:=P) T (.inr (.inl (by rw[hk];simp)))
 rw[hk]at hkT
 cases d<;>simp[cg]at hkT
 rw[hd,hkT.1,hkT.2]
theorem yz {T:TypeId}(hk:(qi P T).k=.bool):P.underlying T=some .bool:=by
 obtain⟨d,i,hd,hi,hkT,_⟩:=aN (P:=P) T (.inr (.inl (by rw[hk];simp)))
 rw[hk]at hkT
 cases d<;>simp[cg]at hkT
 exact hd
theorem jT {T:TypeId}{k:IntKind}(hk:(qi P T).k=.int k):P.underlying T=some (.int k):=by
 obtain⟨d,i,hd,hi,hkT,_⟩:=aN (P:=P) T (.inr (.inl (by rw[hk];simp)))
 rw[hk]at hkT
 cases d<;>simp[cg]at hkT
 rw[hd,hkT]
theorem oe {T k e:TypeId}(hk:(qi P T).k=.map k e):P.underlying T=some (.map k e):=by
 obtain⟨d,i,hd,hi,hkT,_⟩:=aN (P:=P) T (.inr (.inl (by rw[hk];simp)))
 rw[hk]at hkT
 cases d<;>simp[cg]at hkT
 rw[hd,hkT.1,hkT.2]
theorem R.elem {v:Value}{xs:List (List VV)}{o:Own}{n:Nat}{cs:List VV}(h:R G v (.lst xs o))(hx:xs[n]?=some cs) :
  ∃b off len cap sz,v=.slice (some ⟨b,off,none⟩) len cap/\n<len/\cs.length=sz/\R G (.pointer (some ⟨b,off+n * sz,none⟩)) (.eptr cs):=by
 cases h with
 |emp a cap o ho=>simp at hx
 |lst b off len cap sz xs o f hl hc hz h1 hK hR ho=>
  have hm:cs∈xs:=d_.2 ⟨n,hx⟩
  have hn:n<xs.length:=(x_.1 hx).1
  refine⟨b,off,len,cap,sz,rfl,by omega,hz cs hm,.eptr b _ cs (f n) (h1 cs hm) (fun j hj=>?_) (fun j y hy=>hR n j cs y hx hy)⟩
  rw[Nat.add_assoc]
  exact hK n j (by omega) (by have:=hz cs hm;omega)
theorem zN {T:TypeId}{v u:Value}{x i y:VV}(hv:R G v x)(hu:R G u i)(h:pu (qi P T) (qi P (aE (qi P T))).sz x i=some y) :
  ∃p,(Instr.indexAt T v u).run P w=.ok p w/\R G p y:=by
 unfold pu at h
 split at h
 ·rename_i e xs o k n hk
  split at h
  ·rename_i h0
   cases hx:xs[n.toNat]? with
   |none=>simp[hx]at h
   |some cs=>
    simp only[hx,Option.bind_some]at h
    split at h
    ·rename_i hsz
     simp only[Option.some.injEq]at h
     subst h
     cases hu
     obtain⟨b,off,len,cap,sz,rfl,hlt,hcs,hp⟩:=R.elem hv hx
     have hd:=aZ hk
     have he:aE (qi P T)=e:=by simp[aE,hk]
     rw[he]at hsz
     have hinfo:∃i,P.info? e=some i/\i.size=sz:=by
      obtain⟨d',i',_,hi',_,hs',_⟩:=aN (P:=P) e (.inl (by omega))
      exact⟨i',hi',by omega⟩
     obtain⟨ie,hie,hies⟩:=hinfo
     refine⟨_,?_,hp⟩
     unfold Instr.indexAt
     simp only[asIntOf,Sem.run_bind,Sem.run_pure,Result.andThen_ok,run_underlying hd]
     rw[if_pos ⟨h0,by omega⟩]
     simp only[Sem.run_bind,aO hie,Result.andThen_ok,Sem.run_pure,cI,hies]
    ·cases h
  ·cases h
 ·rename_i e b m k n hk
  split at h
  ·rename_i hc
   obtain⟨h0,hlt,hsz⟩:=hc
   injection h with h
   subst h
   cases hu
   cases hv
   have hd:=aZ hk
   have he:aE (qi P T)=e:=by simp[aE,hk]
   rw[he]at hsz
   obtain⟨d',i',_,hi',_,hs',_⟩:=aN (P:=P) e (.inl (by omega))
   refine⟨_,?_,.ptr b n.toNat⟩
   unfold Instr.indexAt
   simp only[asIntOf,Sem.run_bind,Sem.run_pure,Result.andThen_ok,run_underlying hd]
   rw[if_pos ⟨h0,by omega⟩]
   simp only[Sem.run_bind,aO hi',Result.andThen_ok,Sem.run_pure,cI]
   rw[<- hs',hsz,Nat.mul_one,Nat.zero_add]
  ·cases h
 ·rename_i e b m k n hk
  split at h
  ·rename_i hc
   obtain⟨h0,hlt,hsz⟩:=hc
   injection h with h
   subst h
   cases hu
   cases hv
   have hd:=aZ hk
   have he:aE (qi P T)=e:=by simp[aE,hk]
   rw[he]at hsz ⊢
   obtain⟨d',i',_,hi',_,hs',_⟩:=aN (P:=P) e (.inl (by omega))
   refine⟨_,?_,.ptr b _⟩
   unfold Instr.indexAt
   simp only[asIntOf,Sem.run_bind,Sem.run_pure,Result.andThen_ok,run_underlying hd]
   rw[if_pos ⟨h0,by omega⟩]
   simp only[Sem.run_bind,aO hi',Result.andThen_ok,Sem.run_pure,cI]
   rw[<- hs',Nat.zero_add]
  ·cases h
 ·rename_i m e b off k n hk
  split at h
  ·rename_i hc
   obtain⟨h0,hlt,hsz⟩:=hc
   injection h with h
   subst h
   cases hu
   cases hv
   have hd:=og hk
   have he:aE (qi P T)=e:=by simp[aE,hk]
   rw[he]at hsz ⊢
   obtain⟨d',i',_,hi',_,hs',_⟩:=aN (P:=P) e (.inl (by omega))
   refine⟨_,?_,.ptr b _⟩
   unfold Instr.indexAt
   simp only[asIntOf,Sem.run_bind,Sem.run_pure,Result.andThen_ok,run_underlying hd,Instr.sureAddr]
   rw[if_pos ⟨h0,by omega⟩]
   simp only[Sem.run_bind,aO hi',Result.andThen_ok,Sem.run_pure,cI]
   rw[<- hs']
  ·cases h
 ·rename_i m e cs k n hk
  split at h
  ·rename_i hc
   obtain⟨h0,hlt,hsz⟩:=hc
   injection h with h
   subst h
   cases hu
   have hd:=og hk
   have he:aE (qi P T)=e:=by simp[aE,hk]
   rw[he]at hsz ⊢
   obtain⟨d',i',_,hi',_,hs',_⟩:=aN (P:=P) e (.inl (by omega))
   have hp:∃b off,v=.pointer (some ⟨b,off,none⟩):=by cases hv with|eptr b off cs f h1 hK hR=>exact⟨b,off,rfl⟩
   obtain⟨b,off,rfl⟩:=hp
   refine⟨_,?_,hv.eptr_drop _⟩
   unfold Instr.indexAt
   simp only[asIntOf,Sem.run_bind,Sem.run_pure,Result.andThen_ok,run_underlying hd,Instr.sureAddr]
   rw[if_pos ⟨h0,by omega⟩]
   simp only[Sem.run_bind,aO hi',Result.andThen_ok,Sem.run_pure,cI]
   rw[<- hs']
  ·cases h
 ·cases h
theorem CQ {T:TypeId}{v u:Value}{x i y:VV}(hv:R G v x)(hu:R G u i)(h:vat (qi P T) (qi P (aE (qi P T))) x i=some y) :
  ∃p,(Instr.index T v u).run P w=.ok p w/\R G p y:=by
 unfold vat at h
 split at h
 ·rename_i l k n hk
  split at h
  ·rename_i h0
   cases hx:l[n.toNat]? with
   |none=>simp[hx]at h
   |some c=>
    simp only[hx,Option.map_some,Option.some.injEq]at h
    subst h
    cases hu
    cases hv with
    |str a=>
     refine⟨.int .u8 c.toNat,?_,.int _ _⟩
     have hg:(⟨a⟩:ByteArray)[n.toNat]?=some c:=by
      have:=hx
      rw[Array.getElem?_toList]at this
      exact this
     unfold Instr.index
     simp only[asIntOf,Sem.run_bind,Sem.run_pure,Result.andThen_ok,run_underlying (jS hk),h0,if_true,hg]
  ·cases h
 ·rename_i m e xs k n hk
  split at h
  ·rename_i hc
   obtain⟨h0,hlt,hsz,hag⟩:=hc
   have he:aE (qi P T)=e:=by simp[aE,hk]
   rw[he]at hsz hag
   obtain⟨d',i',hd',hi',hk',hs',_⟩:=aN (P:=P) e (.inl (by omega))
   cases hu
   cases hv with
   |agg vs _ hs h1 hR=>
    have hlt':n.toNat<vs.size:=by
     rw[hs]
     rcases Nat.lt_or_ge n.toNat xs.length with hx|hx
     ·exact hx
     ·rw[t_ hx]at h
      cases h
    have hg:vs[n.toNat]?=some vs[n.toNat]:=by simp[hlt']
    refine⟨vs[n.toNat],?_,hR _ _ _ hg h⟩
    unfold Instr.index
    simp only[asIntOf,Sem.run_bind,Sem.run_pure,Result.andThen_ok,run_underlying (og hk)]
    rw[if_pos ⟨h0,by omega⟩]
    have hna:(isAgg e).run P w=.ok false w:=by
     rw[hk']at hag
     unfold isAgg
     simp only[Sem.run_bind,run_underlying hd',Result.andThen_ok]
     cases d'<;>first|rfl|(simp[cg,QK.agg]at hag)
    have h1':i'.size=1:=by omega
    simp only[Sem.run_bind,aO hi',Result.andThen_ok,part,hna,h1',Nat.mul_one,hg]
    rfl
  ·cases h
 ·cases h
def RO (G:Gh):Option Value->Option VV->Prop
 |none,none=>True
 |some v,some x=>R G v x
 |_,_=>False
theorem iG {y:VV}{v:Value}{dflt b:Nat}{c:BoundsCode}{top:Nat}(h:ce (some y) dflt=some b)(hr:R G v y)(hb:b<=top) :
  (Instr.sliceBound v top c).run P w=.ok b w:=by
 cases y with
 |int k n=>
  cases hr
  simp only[ce]at h
  split at h
  ·rename_i h0
   simp only[Option.some.injEq]at h
   simp only[Instr.sliceBound,asIntOf,Sem.run_bind,Sem.run_pure,Result.andThen_ok]
   rw[if_pos ⟨h0,by omega⟩]
   simp[h]
  ·cases h
 |_=>simp[ce]at h
theorem eN {isS:Bool}{len cap a b:Nat}{lo hi:Option VV}{ulo uhi:Option Value}(hlo:RO G ulo lo)(hhi:RO G uhi hi)
  (ha:ce lo 0=some a) (hb:ce hi len=some b) (hab:a<=b) (hbc:b<=cap) :
  (Instr.sliceBounds isS len cap ulo uhi none).run P w=.ok (a,b,cap) w:=by
 unfold Instr.sliceBounds
 cases hi with
 |none=>
  cases uhi with
  |some u=>exact hhi.elim
  |none=>
   simp only[ce,Option.some.injEq]at hb
   subst hb
   cases lo with
   |none=>
    cases ulo with
    |some u=>exact hlo.elim
    |none=>
     simp only[ce,Option.some.injEq]at ha
     simp[ha]
   |some y=>
    cases ulo with
    |none=>exact hlo.elim
    |some u=>simp[iG (P:=P) (w:=w) ha hlo hab]
 |some yh=>
  cases uhi with
  |none=>exact hhi.elim
  |some uh=>
   cases lo with
   |none=>
    cases ulo with
    |some u=>exact hlo.elim
    |none=>
     simp only[ce,Option.some.injEq]at ha
     simp[iG (P:=P) (w:=w) hb hhi hbc,ha]
   |some y=>
    cases ulo with
    |none=>exact hlo.elim
    |some u=>simp[iG (P:=P) (w:=w) hb hhi hbc,iG (P:=P) (w:=w) ha hlo hab]
theorem R.sub {b off len cap lo hi sz:Nat}{xs:List (List VV)}{o:Own}(h:R G (.slice (some ⟨b,off,none⟩) len cap) (.lst xs o))(hle:lo<=hi)(hlen:hi<=xs.length)
  (hsz:∀x,x∈xs->x.length=sz):R G (.slice (if cap=lo then some ⟨b,off,none⟩else some ⟨b,off+lo * sz,none⟩) (hi - lo) (cap - lo)) (.lst ((xs.take hi).drop lo) .no):=by
 by_cases heq:hi=lo
 ·subst heq
  have:(xs.take hi).drop hi=[]:=List.drop_eq_nil_of_le (by rw[r_];omega)
  rw[this,Nat.sub_self]
  exact .emp _ _ _ (.inl rfl)
 ·cases h with
  |emp a cap o ho=>simp at hlen;omega
  |lst b off len cap sz' xs o f hl hc hz h1 hK hR ho=>
   have hne:xs≠[]:=by intro e;subst e;simp at hlen;omega
   have hs':sz'=sz:=by
    obtain⟨x,hx⟩:=List.exists_mem_of_ne_nil xs hne
    rw[<- hz x hx,hsz x hx]
   subst hs'
   rw[if_neg (by omega)]
   have hmem:∀x,x∈(xs.take hi).drop lo->x∈xs:=fun x hx=>List.mem_of_mem_take (List.mem_of_mem_drop hx)
   refine .lst b _ _ _ sz' _ .no (fun i j=>f (lo+i) j) (by rw[u_,r_];omega) (by omega) (fun x hx=>hz x (hmem x hx)) (fun x hx=>h1 x (hmem x hx)) (fun i j hi' hj=>?_) (fun i j x y hx hy=>?_) (.inl rfl)
   ·have:=hK (lo+i) j (by omega) hj
    rw[Nat.add_mul]at this
    rw[<- this]
    congr 1
    omega
   ·rw[List.getElem?_drop,List.getElem?_take]at hx
    split at hx
    ·exact hR _ j x y hx hy
    ·cases hx
theorem tu (a:Array UInt8)(lo hi:Nat):((⟨a⟩:ByteArray).extract lo hi)=⟨((a.toList.take hi).drop lo).toArray⟩:=by
 have:((⟨a⟩:ByteArray).extract lo hi).data=((a.toList.take hi).drop lo).toArray:=by
  rw[ByteArray.data_extract]
  apply Array.toList_inj.1
  simp[List.drop_take]
 exact congrArg ByteArray.mk this
theorem ur {T:TypeId}{v:Value}{x y:VV}{lo hi:Option VV}{ulo uhi:Option Value}(hv:R G v x)(hlo:RO G ulo lo)(hhi:RO G uhi hi)
  (h:gS (qi P T) (qi P (aE (qi P T))) x lo hi=some y):∃p,(Instr.sliceAt T v ulo uhi none).run P w=.ok p w/\R G p y:=by
 unfold gS at h
 split at h
 ·rename_i l hk
  split at h
  ·rename_i a b ha hb
   split at h
   ·rename_i hab
    simp only[Option.some.injEq]at h
    subst h
    cases hv with
    |str arr=>
     have hd:=jS hk
     have hbs:=eN (P:=P) (w:=w) (isS:=false) (cap:=arr.size) hlo hhi ha hb hab.1 (by simpa using hab.2)
     refine⟨.string ⟨((arr.toList.take b).drop a).toArray⟩,?_,by simpa using R.str (G:=G) ((arr.toList.take b).drop a).toArray⟩
     have hbs':(Instr.sliceBounds false (ByteArray.mk arr).size (ByteArray.mk arr).size ulo uhi none).run P w=.ok (a,b,arr.size) w:=by
      have e:(ByteArray.mk arr).size=arr.toList.length:=by simp[ByteArray.size]
      rw[show (ByteArray.mk arr).size=arr.size from rfl]
      rw[show arr.toList.length=arr.size by simp]at hbs
      exact hbs
     unfold Instr.sliceAt
     simp only[Sem.run_bind,run_underlying hd,Result.andThen_ok]
     unfold Instr.slice
     simp only[Sem.run_bind,run_underlying hd,Result.andThen_ok,Option.isSome_none,Bool.false_eq_true,if_false,hbs',Sem.run_pure,tu]
   ·cases h
  ·cases h
 ·rename_i e xs o hk
  split at h
  ·rename_i a b ha hb
   split at h
   ·rename_i hab
    obtain⟨hab,hble,hpos,hall⟩:=hab
    simp only[Option.some.injEq]at h
    subst h
    have hd:=aZ hk
    have he:aE (qi P T)=e:=by simp[aE,hk]
    rw[he]at hpos hall
    obtain⟨d',i',_,hi',_,hs',_⟩:=aN (P:=P) e (.inl (by omega))
    cases hv with
    |emp ad cap o ho=>
     have hbs:=eN (P:=P) (w:=w) (isS:=true) (cap:=cap) hlo hhi ha hb hab (by simp at hble;omega)
     simp only[List.length_nil]at hbs hble
     refine⟨.slice (if cap=a then ad else ad.map (·.add (a * i'.size))) (b - a) (cap - a),?_,?_⟩
     ·unfold Instr.sliceAt
      simp only[Sem.run_bind,run_underlying hd,Result.andThen_ok]
      unfold Instr.slice
      simp only[Sem.run_bind,run_underlying hd,Result.andThen_ok,hbs,aO hi',Sem.run_pure]
     ·have:b - a=0:=by omega
      rw[this]
      have:(([]:List (List VV)).take b).drop a=[]:=by simp
      rw[this]
      exact .emp _ _ _ (.inl rfl)
    |lst bb off len cap sz xs o f hl hc hz h1 hK hR ho=>
     have hbs:=eN (P:=P) (w:=w) (isS:=true) (cap:=cap) hlo hhi ha hb hab (by omega)
     rw[hl]at hbs
     refine⟨_,?_,R.sub (sz:=i'.size) (R.lst bb off len cap sz xs o f hl hc hz h1 hK hR ho) hab hble (fun x hx=>by rw[<- hs'];exact hall x hx)⟩
     unfold Instr.sliceAt
     simp only[Sem.run_bind,run_underlying hd,Result.andThen_ok]
     unfold Instr.slice
     simp only[Sem.run_bind,run_underlying hd,Result.andThen_ok,hbs,aO hi',Sem.run_pure]
     congr 2
     split
     ·rfl
     ·simp[cI]
   ·cases h
  ·cases h
 ·rename_i e g n hk
  split at h
  ·rename_i a b ha hb
   split at h
   ·rename_i hab
    obtain⟨ha0,hble,hpos⟩:=hab
    simp only[Option.some.injEq]at h
    subst h
    subst ha0
    have hd:=aZ hk
    have he:aE (qi P T)=e:=by simp[aE,hk]
    rw[he]at hpos
    obtain⟨d',i',_,hi',_,hs',_⟩:=aN (P:=P) e (.inl (by omega))
    cases hv with
    |mrw b' n' cap sz hq hn=>
     have hbs:=eN (P:=P) (w:=w) (isS:=true) (cap:=cap) hlo hhi ha hb (Nat.zero_le _) (by omega)
     refine⟨_,?_,R.mrw g b cap sz hq (by omega)⟩
     unfold Instr.sliceAt
     simp only[Sem.run_bind,run_underlying hd,Result.andThen_ok]
     unfold Instr.slice
     simp only[Sem.run_bind,run_underlying hd,Result.andThen_ok,hbs,aO hi',Sem.run_pure]
     congr 2
     split
     ·rfl
     ·simp[cI]
   ·cases h
  ·cases h
 ·cases h
theorem zL {T:TypeId}{v:Value}{x y:VV}{ty:TypeId}(hS:Sim w0 G w s)(hv:R G v x)(h:vlen (qi P T) x s=some y) :
  ∃p,(Builtin.len_ #[T] ty #[v]).run P w=.ok p w/\R G p y:=by
 unfold vlen at h
 split at h
 ·rename_i l hk
  simp only[Option.some.injEq]at h
  subst h
  cases hv with
  |str a=>
   refine⟨.int .i64 a.size,?_,by simpa using R.int (G:=G) .i64 (a.size:Int)⟩
   simp only[Builtin.len_,run_underlying (jS hk),goInt,Sem.run_bind,Result.andThen_ok,List.getElem?_toArray,List.getElem?_cons_zero]
   rfl
 ·rename_i e xs o hk
  simp only[Option.some.injEq]at h
  subst h
  cases hv with
  |emp a cap o ho=>exact⟨.int .i64 0,by simp[Builtin.len_,run_underlying (aZ hk),goInt],.int _ _⟩
  |lst b off len cap sz xs o f hl hc hz h1 hK hR ho=>
   exact⟨.int .i64 len,by simp[Builtin.len_,run_underlying (aZ hk),goInt],by rw[hl];exact .int _ _⟩
 ·rename_i e b n hk
  simp only[Option.some.injEq]at h
  subst h
  cases hv
  exact⟨.int .i64 n,by simp[Builtin.len_,run_underlying (aZ hk),goInt],.int _ _⟩
 ·rename_i e b n hk
  simp only[Option.some.injEq]at h
  subst h
  cases hv
  exact⟨.int .i64 n,by simp[Builtin.len_,run_underlying (aZ hk),goInt],.int _ _⟩
 ·rename_i e hk
  simp only[Option.some.injEq]at h
  subst h
  cases hv
  exact⟨.int .i64 0,by simp[Builtin.len_,run_underlying (aZ hk),goInt],.int _ _⟩
 ·rename_i k e b hk
  split at h
  ·rename_i es hb
   simp only[Option.some.injEq]at h
   subst h
   cases hv
   have ho:=hS.ok b
   rw[hb]at ho
   obtain⟨_,c,clock,hh,hsz,_⟩:=ho
   refine⟨.int .i64 c.size,?_,by rw[hsz.1];exact .int _ _⟩
   have:(getObj b).run P w=.ok (.map c clock) w:=by simp[getObj,Sem.run,hh]
   simp[Builtin.len_,run_underlying (oe hk),goInt,this]
  ·cases h
 ·cases h
end
end Go.Proofs.YtohnaepcgnbaiaaGreatDoor
set_option maxRecDepth 100000
namespace Go.Proofs.YtohnaepcgnbaiaaGreatDoor
theorem qm (w:World):(callFunc 209 #[]).run Tryz.prog w=.ok (.value (.tuple #[])) w:=run_call_mark0 Tryz.func209 (by kernel_rfl) (by kernel_rfl) (by kernel_rfl) .disable (by kernel_rfl) w
theorem sW (w:World):(callFunc 211 #[]).run Tryz.prog w=.ok (.value (.tuple #[])) w:=run_call_mark0 Tryz.func211 (by kernel_rfl) (by kernel_rfl) (by kernel_rfl) .enable (by kernel_rfl) w
theorem yw (a:Addr)(w:World):(callFunc 212 #[.pointer (some a)]).run Tryz.prog w=.ok (.value (.tuple #[])) w:=run_call_marked Tryz.func212 (by kernel_rfl) (by kernel_rfl) (by kernel_rfl) .acquire (by kernel_rfl) a w
theorem uW (a:Addr)(w:World):(callFunc 214 #[.pointer (some a)]).run Tryz.prog w=.ok (.value (.tuple #[])) w:=run_call_marked Tryz.func214 (by kernel_rfl) (by kernel_rfl) (by kernel_rfl) .releaseMerge (by kernel_rfl) a w
set_option maxHeartbeats 1600000 in
theorem Ez (a:Addr)(x:Value)(u:FrameMode)(w:World)(hc:w.cell? a=some x)(hz:w.frozen? a=false) :
  CallsD Tryz.prog 202 #[.pointer (some a),.bool true] u w fun e u' w'=>u'=u/\(e=.returned (.tuple #[])/\w'=w.drew.setCell a (.int .u32 1)):=by
 have hc':w.drew.cell? a=some x:=by go_simp
 have hz':w.drew.frozen? a=false:=by go_simp
 have hst:=run_call_store (P:=Tryz.prog) Tryz.func207 (by kernel_rfl) (by kernel_rfl) (by kernel_rfl) (by kernel_rfl) (k:=.u32) (y:=1) hc' hz'
 go_enter_d Tryz.func202,Tryz.ntmps202
 go_wp2
 go_region_calls
 all_goals(go_end0;exact⟨rfl,rfl⟩)
theorem yu (a:Addr)(w:World)(hc:w.cell? a=some (.int .i32 1))(hz:w.frozen? a=false) :
  Calls Tryz.prog 206 #[.pointer (some a)] w fun e w'=>e=.returned (.tuple #[])/\w'=w.setCell a (.int .i32 0):=by
 have hd:=qm
 have he:=sW
 have hr:=uW
 have hadd:=run_call_add (P:=Tryz.prog) Tryz.func215 (by kernel_rfl) (by kernel_rfl) (by kernel_rfl) .i32 (by kernel_rfl) (y:=-1) (s:=0) hc hz (by simp[go_sem];rfl)
 have hcv:=run_convert_to_unsafe (P:=Tryz.prog) (src:=269) (dst:=273) Tryz.underlying269 Tryz.underlying273 (by kernel_rfl) hc
 go_enter Tryz.func206,Tryz.ntmps206
 go_wp2
 go_end0
 go_wp2
 all_goals(go_end0;exact⟨rfl,rfl⟩)
theorem AJ (a:Addr)(u:FrameMode)(w:World)(hc:w.cell? a=some (.int .i32 1))(hz:w.frozen? a=false) :
  CallsD Tryz.prog 201 #[.pointer (some a)] u w fun e u' w'=>u'=u/\(e=.returned (.tuple #[])/\w'=w.setCell a (.int .i32 0)):=by
 go_enter_d Tryz.func201,Tryz.ntmps201
 go_wp2_with (go_at_call 206;refine(yu a _ hc hz).mono ?_;rintro e w' ⟨rfl,rfl⟩)
 go_end0
 exact⟨rfl,rfl⟩
theorem EA (a:Addr)(w:World)(hc:w.cell? a=some (.int .i32 0))(hz:w.frozen? a=false) :
  Calls Tryz.prog 205 #[.pointer (some a)] w fun e w'=>e=.returned (.tuple #[])/\w'=w.setCell a (.int .i32 1):=by
 have hd:=qm
 have he:=sW
 have ha:=yw
 have hcas:=run_call_cas_hit (P:=Tryz.prog) Tryz.func210 (by kernel_rfl) (by kernel_rfl) (by kernel_rfl) .i32 (by kernel_rfl) (y:=1) hc hz
 have hc':(w.setCell a (.int .i32 1)).cell? a=some (.int .i32 1):=World.cell?_setCell_same w a _ hc
 have hcv:=run_convert_to_unsafe (P:=Tryz.prog) (src:=269) (dst:=273) Tryz.underlying269 Tryz.underlying273 (by kernel_rfl) hc'
 go_enter Tryz.func205,Tryz.ntmps205
 go_wp2
 refine bodyPost_ret (results_none rfl _ _ _) rfl ?_
 go_wp2
 all_goals(go_end0;exact⟨rfl,rfl⟩)
theorem Lu (a:Addr)(w:World)(hc:w.cell? a=some (.int .i32 0))(hz:w.frozen? a=false) :
  Calls Tryz.prog 200 #[.pointer (some a)] w fun e w'=>e=.returned (.tuple #[])/\w'=w.setCell a (.int .i32 1):=by
 go_enter Tryz.func200,Tryz.ntmps200
 go_wp2_with (go_at_call 205;refine(EA a _ hc hz).mono ?_;rintro e w' ⟨rfl,rfl⟩)
 go_end0
 exact⟨rfl,rfl⟩
theorem Lv (a:Addr)(n:Int)(w:World)(hc:w.cell? a=some (.int .u32 n)) :
  Calls Tryz.prog 189 #[.pointer (some a)] w fun e w'=>e=.returned (.bool (n != 0))/\w'=w:=by
 have hl:=run_call_load (P:=Tryz.prog) Tryz.func199 (by kernel_rfl) (by kernel_rfl) (by kernel_rfl) .u32 (by kernel_rfl) hc
 go_enter Tryz.func189,Tryz.ntmps189
 go_wp2
 go_ret
 exact⟨rfl,rfl⟩
set_option maxHeartbeats 1600000 in
theorem Lt (b off:Nat)(us:Array Value)(w:World)
  (h0:w.cell? ⟨b,off,none⟩=some (.int .u32 0)) (h1:w.cell? ⟨b,off+1,none⟩=some (.int .i32 0)) (f1:w.frozen? ⟨b,off+1,none⟩=false) (Post:World->Prop)
  (hf:Calls Tryz.prog 174 us (w.setCell ⟨b,off+1,none⟩ (.int .i32 1)) fun e w'=>e=.returned (.tuple #[])/\Post w'/\w'.cell? ⟨b,off,none⟩=some (.int .u32 0)/\w'.frozen? ⟨b,off,none⟩=false/\w'.cell? ⟨b,off+1,none⟩=some (.int .i32 1)/\w'.frozen? ⟨b,off+1,none⟩=false) :
  Calls Tryz.prog 190 #[.pointer (some ⟨b,off,none⟩),.func (.func 174) #[] us] w fun e w'=>e=.returned (.tuple #[]) /\
   ∃w1,Post w1/\w'=(w1.drew.setCell ⟨b,off,none⟩ (.int .u32 1)).setCell ⟨b,off+1,none⟩ (.int .i32 0):=by
 have h01:(w.setCell ⟨b,off+1,none⟩ (.int .i32 1)).cell? ⟨b,off,none⟩=some (.int .u32 0):=(World.cell?_setCell_other _ ⟨b,off+1,none⟩ ⟨b,off,none⟩ _ (by simp)).trans h0
 have hnot:∀(x:Bool) (w:World),(Op.unary .not (.bool x)).run Tryz.prog w=.ok (.bool (!x)) w:=fun _ _=>rfl
 go_enter_defers Tryz.func190,Tryz.ntmps190
 go_wp2_with (first|(go_at_call 200;refine(Lu ⟨b,off+1,none⟩ _ h1 f1).mono ?_;rintro e w' ⟨rfl,rfl⟩)|(go_at_call 189;refine(Lv ⟨b,off,none⟩ 0 _ h01).mono ?_;rintro e w' ⟨rfl,rfl⟩)|(go_at_call 174;refine hf.mono ?_;rintro e w1 ⟨rfl,hP,c0,z0,c1,z1⟩))
 show Leaves _ _ _ _ _ _ _
 refine leaves_cons (f:=202) (args:=#[.pointer (some ⟨b,off,none⟩),.bool true]) (by simp) (by simp[go_sem]) ?_
 refine(Ez ⟨b,off,none⟩ (.int .u32 0) .returning _ c0 z0).mono ?_
 rintro e u' w'' ⟨rfl,rfl,rfl⟩
 refine leaves_cons (f:=201) (args:=#[.pointer (some ⟨b,off+1,none⟩)]) (by simp[settle]) (by simp[go_sem]) ?_
 refine(AJ ⟨b,off+1,none⟩ _ _ ?_ (by simp[z1])).mono ?_
 ·refine(World.cell?_setCell_other _ ⟨b,off,none⟩ ⟨b,off+1,none⟩ _ (by simp)).trans ?_
  rw[World.cell?_drew]
  exact c1
 rintro e u' w'' ⟨rfl,rfl,rfl⟩
 simp[Leaves,settle,results,Tryz.results190]
 exact⟨w1,hP,rfl⟩
end Go.Proofs.YtohnaepcgnbaiaaGreatDoor
