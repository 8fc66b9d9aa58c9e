/- Walks of functions, and plain facts. Conditions: those in the statements. -/
import Derived.Test.YteldpmgepfaiiaaGreatDoorQsSoundDj
import Derived.Lib.Builder
import Derived.Laws.IdiomStrings
import Derived.Laws.StructEq
import Derived.Laws.MakeOwn
import Derived.Deep.LoopGhost
set_option linter.unusedSimpArgs false
set_option linter.unusedVariables false
namespace Go.Proofs.YteldpmgepfaiiaaGreatDoor
open Go.RowKit
section
variable {P : Program} {N : Nat} {w0 w w' : World} {G G' : Gh} {s s' : St} {a : Act} {env : Env} {D : List Deferred} {k : Env -> St -> Prop} {E : VV -> Env -> St -> Prop} {o : Oper}
theorem aY {S:Sem Value}{v:Value}{x:VV}(hf:FR N G a.tmps env)(hD:a.defers=D)(hex:execOp a.eval o=(do pure (Next.value (<- S))))(hrun:S.run P w=.ok v w')
  (hG:G.le G') (hR:R G' v x) (hS:Sim w0 G' w' s') (hk:k (put N env o.dst x) s'):o.wp P a w (Nx N w0 G D k) (Px N w0 G D E):=
 dr hf hD (by rw[hex];exact Jf hrun) hG hR hS hk
theorem bR {α:Type}{k:α->Prop}{x:Option α}(h:fk k x):∃y,x=some y/\k y:=by
 cases x with
 |none=>exact h.elim
 |some y=>exact⟨y,rfl,h⟩
theorem Ea (op:BinOp)(T:TypeId)(x y:Operand)(k k':IntKind)(a b:Int):(eqGuard op T x y (.int k a) (.int k' b)).run P w=.ok () w:=by cases op<;>rfl
theorem ry (op:BinOp)(T:TypeId)(x y:Operand)(a b:ByteArray):(eqGuard op T x y (.string a) (.string b)).run P w=.ok () w:=by cases op<;>rfl
theorem tH (op:BinOp)(T:TypeId)(x y:Operand)(a b:Bool):(eqGuard op T x y (.bool a) (.bool b)).run P w=.ok () w:=by cases op<;>rfl
theorem Sim.new {w0 w:World}{G:Gh}{s:St}(h:Sim w0 G w s):New s w.heap.size:=⟨h.fresh,fun _ hx=>h.lt hx⟩
theorem pm {op:BinOp}{T:TypeId}{kd kd':IntKind}{x y:Int}{z:VV}(hk:kd=kd'\/D1 op=true)(h:fM op kd x y=some z):∃v,(binOp op T (.int kd x) (.int kd' y)).run P w=.ok v w/\R G v z:=by
 have hb:∀b:Bool,R G (.bool b) (.bool b):=fun b=>.bool b
 cases op<;>simp only[fM,Option.some.injEq]at h
 case shl=>
  split at h<;>cases h
  rename_i hy
  exact⟨.int kd (kd.wrap (x*2 ^ (min y.toNat kd.bits))),by simp[binOp,Op.shift,Int.not_lt.2 hy],.int _ _⟩
 case shr=>
  split at h<;>cases h
  rename_i hy
  exact⟨.int kd (x.fdiv (2 ^ (min y.toNat kd.bits))),by simp[binOp,Op.shift,Int.not_lt.2 hy],.int _ _⟩
 all_goals(simp only[D1,Bool.false_eq_true,or_false]at hk;subst hk)
 case quo=>
  split at h<;>cases h
  rename_i hy
  exact⟨.int kd (kd.wrap (x.tdiv y)),by simp[binOp,Op.intDiv,hy],.int _ _⟩
 case rem=>
  split at h<;>cases h
  rename_i hy
  exact⟨.int kd (x.tmod y),by simp[binOp,Op.intDiv,hy],.int _ _⟩
 case and=>subst h;exact⟨.int kd (uc kd x y),by simp[binOp,Op.intBits,uc],.int _ _⟩
 case or=>subst h;exact⟨.int kd (bOr kd x y),by simp[binOp,Op.intBits,bOr],.int _ _⟩
 case xor=>subst h;exact⟨.int kd (Ep kd x y),by simp[binOp,Op.intBits,Ep],.int _ _⟩
 case andNot=>subst h;exact⟨.int kd (mT kd x y),by simp[binOp,Op.intBits,mT],.int _ _⟩
 case add=>subst h;exact⟨.int kd (kd.wrap (x+y)),by simp[binOp,Op.intArith],.int _ _⟩
 case sub=>subst h;exact⟨.int kd (kd.wrap (x - y)),by simp[binOp,Op.intArith],.int _ _⟩
 case mul=>subst h;exact⟨.int kd (kd.wrap (x*y)),by simp[binOp,Op.intArith],.int _ _⟩
 case eql=>subst h;exact⟨.bool (x == y),by simp[binOp,Op.intCmp],by rw[show (x == y)=decide (x=y) by rw[Bool.eq_iff_iff];simp];exact hb _⟩
 case neq=>subst h;exact⟨.bool (x != y),by simp[binOp,Op.intCmp],by rw[show (x != y)=!decide (x=y) by rw[Bool.eq_iff_iff];simp];exact hb _⟩
 case lss=>subst h;exact⟨.bool (decide (x<y)),by simp[binOp,Op.intCmp],hb _⟩
 case leq=>subst h;exact⟨.bool (decide (x<=y)),by simp[binOp,Op.intCmp],hb _⟩
 case gtr=>subst h;exact⟨.bool (decide (y<x)),by simp[binOp,Op.intCmp],hb _⟩
 case geq=>subst h;exact⟨.bool (decide (y<=x)),by simp[binOp,Op.intCmp],hb _⟩
theorem mi {T:TypeId}(hd:P.underlying T=some .bool)(d:Nat)(a b:Bool):(Op.equalIn (d+1) T (.bool a) (.bool b)).run P w=.ok (a == b) w:=by
 simp[Op.equalIn,run_underlying hd]
theorem uT {T:TypeId}(hp:pok P T=true)(a:Addr)(w:World):(Op.equal T (.pointer (some a)) (.pointer (some a))).run P w=.ok true w:=by
 unfold pok at hp
 split at hp<;>first|(cases hp;done)|skip
 rename_i te hd
 split at hp<;>first|(cases hp;done)|skip
 rename_i j hj
 have h:∀d:Nat,(Op.equalIn (d+1) T (.pointer (some a)) (.pointer (some a))).run P w=.ok true w:=fun d=>by
  simp[Op.equalIn,run_underlying hd,sizeOf,typeInfo,hj,run_sameAddr_same]
 exact h 9999
theorem ky:∀{xs:List (List VV)} {l:List UInt8},fC xs=some l->xs=bi l
 |[],l,h=>by simp only[fC]at h;injection h with h;subst h;rfl
 |x::r,l,h=>by
  unfold fC at h
  split at h
  ·rename_i he;cases he
  ·rename_i n r' he
   injection he with e1 e2
   subst e1;subst e2
   split at h
   ·rename_i hn
    cases hu:fC r with
    |none=>rw[hu]at h;cases h
    |some l'=>
     rw[hu]at h
     injection h with h
     subst h
     have:=ky hu
     have e:((UInt8.ofNat n.toNat).toNat:Int)=n:=by simp[UInt8.toNat_ofNat'];omega
     simp only[bi,List.map_cons,e]
     rw[this];rfl
   ·cases h
  ·cases h
theorem lp {T e:TypeId}(h:(qi P T).k=.slice e):P.underlying T=some (.slice e):=by
 unfold qi at h
 split at h
 ·rename_i d i hd hi
  have:dt d=.slice e:=by split at h<;>exact h
  cases d<;>simp[dt]at this
  subst this;exact hd
 ·cases h
theorem qH {T:TypeId}(h:(qi P T).k=.str):P.underlying T=some .string:=by
 unfold qi at h
 split at h
 ·rename_i d i hd hi
  have:dt d=.str:=by split at h<;>exact h
  cases d<;>simp[dt]at this
  exact hd
 ·cases h
theorem yI {src dst:TypeId}{u:Value}{x z:VV}(hS:Sim w0 G w s)(hx:R G u x)(h:iz P src dst x s=some z):∃v,(convert src dst u).run P w=.ok v w/\R G v z:=by
 cases hx<;>first|(cases h;done)|skip
 case int k n=>
  simp only[iz]at h
  split at h<;>first|(cases h;done)|skip
  rename_i k1 k' h1 h2
  injection h with h
  subst h
  have e1:=kL h1
  have e2:=kL h2
  exact⟨.int k' (k'.wrap n),by simp[convert,run_underlying e1,run_underlying e2,Conv.intToInt],.int _ _⟩
 case emp a cap o ho=>
  simp only[iz]at h
  split at h<;>first|(cases h;done)|skip
  rename_i e he hd
  split at h<;>first|(cases h;done)|skip
  rename_i hu
  have hu8:P.underlying e=some (.int .u8):=kL (by
   cases hk:(qi P e).k with
   |int k=>rw[hk]at hu;cases k<;>first|rfl|cases hu
   |_=>rw[hk]at hu;cases hu)
  injection h with h
  subst h
  cases a with
  |none=>exact⟨.string ⟨#[]⟩,by rw[run_convert_bytes_string w src dst e none 0 cap (lp he) hu8 (qH hd)];rfl,.str #[]⟩
  |some a=>exact⟨.string ⟨#[]⟩,run_convert_bytes_back w src dst e a cap [] (lp he) hu8 (qH hd) (fun j hj=>by simp at hj),.str #[]⟩
 case lst b off len cap sz xs o f hl hc hz h1 hK hR ho=>
  simp only[iz]at h
  split at h<;>first|(cases h;done)|skip
  rename_i e he hd
  split at h<;>first|(cases h;done)|skip
  rename_i hu
  have hu8:P.underlying e=some (.int .u8):=kL (by
   cases hk:(qi P e).k with
   |int k=>rw[hk]at hu;cases k<;>first|rfl|cases hu
   |_=>rw[hk]at hu;cases hu)
  cases hub:fC xs with
  |none=>rw[hub]at h;cases h
  |some l=>
   rw[hub]at h
   injection h with h
   subst h
   have hxs:=ky hub
   subst hxs
   have hlen:l.length=len:=by rw[<- hl];simp[bi]
   subst hlen
   refine⟨.string ⟨l.toArray⟩,run_convert_bytes_back w src dst e ⟨b,off,none⟩ cap l (lp he) hu8 (qH hd) (fun j hj=>?_),by
    have:=R.str (G:=G) l.toArray
    simpa using this⟩
   have hx1:(bi l)[j]?=some [.int .u8 (l[j].toNat:Int)]:=by simp[bi,b_ hj]
   have hsz:sz=1:=by
    have:=hz _ (p_ hx1)
    simpa using this.symm
   subst hsz
   have h2:=hS.K _ _ _ (hK j 0 hj (by omega))
   have h3:=hR j 0 _ _ hx1 rfl
   generalize f j 0=v at h2 h3
   cases h3
   have h4:w.cell? ⟨b,off+j,none⟩=some (.int .u8 (l[j].toNat:Int)):=by simpa using h2
   by_cases hj0:j=0
   ·subst hj0;simpa [Addr.add]using h4
   ·simpa [Addr.add,hj0]using h4
 case ptr b off=>
  simp only[iz]at h
  split at h<;>first|(cases h;done)|skip
  rename_i T xs hb
  split at h<;>first|(cases h;done)|skip
  rename_i hc
  injection h with h
  subst h
  have ho:=hS.ok b
  rw[hb]at ho
  obtain⟨_,_,c,hh,hsz,_⟩:=ho
  have hsh:w.shape? b=some (T,xs.length):=by simp[World.shape?,hh,hsz]
  refine⟨.pointer (some ⟨b,off,none⟩),?_,.ptr _ _⟩
  unfold BM at hc
  split at hc<;>first|(cases hc;done)|skip
  ·rename_i t hs hd
   split at hc<;>first|(cases hc;done)|skip
   rename_i j hj
   simp only[Bool.and_eq_true,bne_iff_ne,ne_eq,decide_eq_true_eq]at hc
   exact Lib.run_to_unsafe w ⟨b,off,none⟩ hs hd hj hc.1 hsh hc.2
  ·rename_i u hs hd
   simp only[Bool.and_eq_true,Option.isSome_iff_exists]at hc
   obtain⟨⟨j,hj⟩,hl⟩:=hc
   exact Lib.run_from_unsafe w ⟨b,off,none⟩ hs hd hj hsh hl
theorem xR {T:TypeId}{A B:Value}{b:Bool}(hE:(Op.equal T A B).run P w=.ok b w)(h1:binOp .eql T A B=(do pure (.bool (<- Op.equal T A B))))(h2:binOp .neq T A B=(do pure (.bool (!(<- Op.equal T A B))))) :
  (binOp .eql T A B).run P w=.ok (.bool b) w/\(binOp .neq T A B).run P w=.ok (.bool !b) w:=by
 rw[h1,h2]
 constructor<;>simp only[Sem.run_bind,hE,Result.andThen_ok,Sem.run_pure]
theorem wD {G:Gh}{T:TypeId}{u u':Value}{x y:VV}{b:Bool}{op:BinOp}{ox oy:Operand}(hx:R G u x)(hy:R G u' y)(h:gy (qi P T).k x y=some b)(hc:oy.isConst=true) :
  (eqGuard op T ox oy u u').run P w=.ok () w/\(binOp .eql T u u').run P w=.ok (.bool b) w/\(binOp .neq T u u').run P w=.ok (.bool !b) w:=by
 have ki:∀k,(qi P T).k=k->k≠.other->∃d,P.underlying T=some d/\dt d=k:=fun k hk hne=>by
  obtain⟨d,i,hd,hi,hkT,_⟩:=ci (P:=P) T (.inr (.inl (by rw[hk];exact hne)))
  exact⟨d,hd,by rw[<- hk,hkT]⟩
 have main:∀(u u':Value),(∀d,(Op.equalIn (d+1) T u u').run P w=.ok b w)->(Op.equal T u u').run P w=.ok b w:=fun u u' h=>h 9999
 cases oy with
 |const c=>
  generalize hk:(qi P T).k=k at h
  unfold gy at h
  split at h<;>first|(cases h;done)|skip
  all_goals
   injection h with h
   subst h
   cases hx
   cases hy
   obtain⟨d,hd,hq⟩:=ki _ hk (by simp)
   refine⟨by cases op<;>first|rfl|simp[eqGuard],?_⟩
   refine xR (main _ _ fun d'=>?_) rfl rfl
   cases d<;>simp[dt]at hq<;>simp[Op.equalIn,run_underlying hd]
 |_=>cases hc
theorem pH {T:TypeId}{xs:Array Value}{off:Nat}{v:Value}(hk:Ms (qi P T).k=true)(hx:xs[off]?=some v):(part T xs off).run P w=.ok v w:=by
 obtain⟨d,i,hd,hi,hkT,_⟩:=ci (P:=P) T (.inr (.inl (by intro e;rw[e]at hk;cases hk)))
 rw[hkT]at hk
 have hag:(dt d).agg=false:=by cases hq:dt d<;>rw[hq]at hk<;>first|rfl|cases hk
 unfold part
 simp[Sem.run_bind,jr hd,Result.andThen_ok,hag,hx]
theorem C7 {G:Gh}{T:TypeId}{x y:VV}{v u:Value}{b:Bool}(e:Nat)(hx:R G v x)(hy:R G u y)(h:eq1 (qi P T).k x y=some b):(Op.equalIn (e+1) T v u).run P w=.ok b w:=by
 have ki:∀k,(qi P T).k=k->k≠.other->∃d,P.underlying T=some d/\dt d=k:=fun k hk hne=>by
  obtain⟨d,i,hd,hi,hkT,_⟩:=ci (P:=P) T (.inr (.inl (by rw[hk];exact hne)))
  exact⟨d,hd,by rw[<- hk,hkT]⟩
 generalize hk:(qi P T).k=k at h
 unfold eq1 at h
 split at h
 ·rename_i k0 p a q b'
  split at h
  ·rename_i hpq
   injection h with h
   subst h;subst hpq
   cases hx;cases hy
   obtain⟨d,hd,hq⟩:=ki _ hk (by simp)
   cases d<;>simp[dt]at hq
   rw[run_equalIn_int w e T _ _ _ _ hd]
   congr 1
  ·cases h
 ·injection h with h
  subst h
  obtain⟨d,hd,hq⟩:=ki _ hk (by simp)
  cases d<;>simp[dt]at hq
  cases hx with
  |str a=>
   cases hy with
   |str b=>
    rw[run_equalIn_string w e T _ _ hd,ByteArray.toList_eq,ByteArray.toList_eq]
    congr 1
    rw[Bool.eq_iff_iff];simp
 ·injection h with h
  subst h
  cases hx;cases hy
  obtain⟨d,hd,hq⟩:=ki _ hk (by simp)
  cases d<;>simp[dt]at hq
  rw[run_equalIn_bool' w e T _ _ hd]
 ·cases h
theorem wE {G:Gh}{vs us:Array Value}(e:Nat):∀(fs:List Field) (i:Nat) (xs ys:List VV) (b:Bool),xy P i fs=true ->
  (∀(j:Nat) (y:VV),xs[j]?=some y->∃v,vs[i+j]?=some v/\R G v y)->(∀(j:Nat) (y:VV),ys[j]?=some y->∃v,us[i+j]?=some v/\R G v y) ->
  eqF (fs.map fun f=>(qi P f.type).k) xs ys=some b->(Op.eqFields (e+1) vs us fs).run P w=.ok b w
 |[],i,xs,ys,b,_,hx,hy,h=>by
  cases xs<;>cases ys<;>simp[eqF]at h
  subst h
  simp[Op.eqFields]
 |f::fs,i,xs,ys,b,hf,hx,hy,h=>by
  cases xs with
  |nil=>simp[eqF]at h
  |cons x xs=>
   cases ys with
   |nil=>simp[eqF]at h
   |cons y ys=>
    simp only[xy,Bool.and_eq_true,bne_iff_ne,ne_eq,beq_iff_eq]at hf
    obtain⟨⟨⟨h1,h2⟩,h3⟩,h4⟩:=hf
    simp only[List.map_cons,eqF]at h
    cases hr:eq1 (qi P f.type).k x y with
    |none=>rw[hr]at h;simp at h
    |some r=>
     rw[hr]at h
     simp only[Option.bind_some]at h
     cases hz:eqF (fs.map fun f=>(qi P f.type).k) xs ys with
     |none=>rw[hz]at h;simp at h
     |some z=>
      rw[hz]at h
      simp only[Option.map_some]at h
      injection h with h
      obtain⟨v,hv,rv⟩:=hx 0 x rfl
      obtain⟨u,hu,ru⟩:=hy 0 y rfl
      rw[Nat.add_zero]at hv hu
      have ih:=wE e fs (i+1) xs ys z h4 (fun j q hq=>by have:=hx (j+1) q (by simpa using hq);rwa [show i+1+j=i+(j+1) by omega]) (fun j q hq=>by have:=hy (j+1) q (by simpa using hq);rwa [show i+1+j=i+(j+1) by omega]) hz
      simp only[Op.eqFields]
      rw[if_pos h1,h2]
      simp only[Sem.run_bind,pH (w:=w) h3 hv,pH (w:=w) h3 hu,Result.andThen_ok,C7 (P:=P) (w:=w) e rv ru hr]
      cases r with
      |false=>simp at h;subst h;simp
      |true=>simp at h;subst h;simpa using ih
theorem wF {G:Gh}{T:TypeId}{vs us:Array Value}{xs ys:List VV}{b:Bool}{op:BinOp}{ox oy:Operand}(hx:R G (.agg vs) (.agg xs))(hy:R G (.agg us) (.agg ys))(h:kx P T xs ys=some b) :
  (eqGuard op T ox oy (.agg vs) (.agg us)).run P w=.ok () w/\(binOp .eql T (.agg vs) (.agg us)).run P w=.ok (.bool b) w/\(binOp .neq T (.agg vs) (.agg us)).run P w=.ok (.bool !b) w:=by
 unfold kx at h
 cases hk:ek P T with
 |none=>rw[hk]at h;simp at h
 |some ks=>
  rw[hk]at h
  simp only[Option.bind_some]at h
  unfold ek at hk
  split at hk
  ·rename_i fs hT
   split at hk
   ·rename_i hc
    injection hk with hk
    subst hk
    simp only[Bool.and_eq_true,Bool.not_eq_true']at hc
    obtain⟨⟨c1,c2⟩,c3⟩:=hc
    have hfo:P.fieldsOf T=fs:=by unfold Program.fieldsOf;rw[hT]
    have hT':P.underlying T=some (.struct (P.fieldsOf T)):=by rw[hfo];exact hT
    have ha:∀(vs:Array Value) (xs:List VV),R G (.agg vs) (.agg xs)->∀(j:Nat) (y:VV),xs[j]?=some y->∃v,vs[0+j]?=some v/\R G v y:=by
     intro vs xs hx j y hj
     cases hx with
     |agg _ _ hs h1 hR=>
      have hlt:j<vs.size:=by rw[hs];exact(n_.1 hj).1
      rw[Nat.zero_add]
      exact⟨vs[j],Array.getElem?_eq_getElem hlt,hR j _ _ (Array.getElem?_eq_getElem hlt) hj⟩
    have hE:=wE (P:=P) (w:=w) (G:=G) (vs:=vs) (us:=us) 9998 fs.toList 0 xs ys b c3 (ha _ _ hx) (ha _ _ hy) h
    have hE2:(Op.equalIn 10000 T (.agg vs) (.agg us)).run P w=.ok b w:=by
     rw[run_equalIn_agg w 9999 T vs us hT' c1,hfo];exact hE
    refine⟨run_eqGuard_agg w op T ox oy vs us c2,?_,?_⟩
    ·rw[run_eql_struct,hE2];rfl
    ·rw[run_neq_struct,hE2];rfl
   ·cases hk
  ·cases hk
theorem wB (a b:Array UInt8):((⟨a⟩:ByteArray).toList == (⟨b⟩:ByteArray).toList)=decide (a.toList=b.toList):=by
 rw[ByteArray.toList_eq,ByteArray.toList_eq]
 rw[Bool.eq_iff_iff]
 simp
theorem RL.map {N:Nat}{a:Act}(hf:FR N G a.tmps env)(l:List Operand):RL G (l.map a.eval).toArray (l.map (rd env)):=
 ⟨by simp,fun j v y hv hy=>by
  rw[List.getElem?_toArray,c_]at hv
  rw[c_]at hy
  cases hj:l[j]? with
  |none=>simp[hj]at hv
  |some x=>
   simp[hj]at hv hy
   subst hv;subst hy
   exact hf.eval x⟩
theorem RL.append {vs us:Array Value}{xs ys:List VV}(h:RL G vs xs)(h':RL G us ys):RL G (vs++us) (xs++ys):=
 ⟨by simp[h.1,h'.1],fun j v y hv hy=>by
  rcases Nat.lt_or_ge j vs.size with hj|hj
  ·rw[Array.getElem?_append_left hj]at hv
   rw[o_ (by rw[<- h.1];exact hj)]at hy
   exact h.2 j v y hv hy
  ·rw[Array.getElem?_append_right hj]at hv
   rw[r_ (by rw[<- h.1];exact hj)]at hy
   rw[h.1]at hv
   exact h'.2 _ v y hv hy⟩
theorem uL {c:Call}{f:Operand}(hf:FR N G a.tmps env)(hD:a.defers=D)(hS:Sim w0 G w s)(ho:o.op=.call c)(hc:c.callee=.value f)
  (h:wu P N E o.dst k env s (rd env f) (c.args.toList.map (rd env))):o.wp P a w (Nx N w0 G D k) (Px N w0 G D E):=by
 obtain⟨g,caps,Q,hfn,hcx,hr,hp⟩:=h
 have hv:=hf.eval f
 rw[hfn]at hv
 generalize hev:a.eval f=fv at hv
 cases hv with
 |fn g vs xs hs hR=>
  have hargs:RL G ((c.args.map a.eval)++vs) (c.args.toList.map (rd env)++caps):=by
   have h1:=RL.map hf c.args.toList
   have e:(c.args.toList.map a.eval).toArray=c.args.map a.eval:=by
    apply Array.toList_inj.1;simp
   rw[e]at h1
   exact h1.append ⟨hs,hR⟩
  have hex:(execOp a.eval o).run P w=(callFunc g ((c.args.map a.eval)++vs)).run P w:=by
   unfold execOp
   simp only[ho,resolve,hc,hev,Deferred.ofValue,Sem.run_bind,Sem.run_pure,Result.andThen_ok,invoke]
   rw[Array.empty_append]
  rcases hcx with ⟨hcall,hcs⟩|hx
  ·have hrun:=hex.trans (hcall _ _)
   unfold Oper.wp
   rw[hrun,Oper.upon_enter]
   refine(hcs w0 G w _ hS hargs).mono ?_
   rintro e w' ⟨G',s',x,hG,hS',hE,hQ⟩
   cases e with
   |returned v=>
    cases x with
    |ret x=>exact⟨G',_,s',hG,(hf.mono hG).put o.dst hE,(fT _ _ _).trans hD,hS',hr x s' hQ⟩
    |panic x=>exact hE.elim
   |panicked ch=>
    cases x with
    |ret x=>exact hE.elim
    |panic x=>
     obtain⟨v,rfl,hv⟩:=hE
     exact⟨G',env,s',v,x,rfl,hv,hG,hf.mono hG,hD,hS',hp x s' hQ⟩
   |outgrown=>cases x<;>exact hE.elim
  ·obtain⟨v,w',G',s',y,hrun,hG,hS',hR,hQ⟩:=hx w0 G w _ hS hargs
   exact dr hf hD (hex.trans hrun) hG hR hS' (hr y s' hQ)
theorem RO.map {N:Nat}{a:Act}(hf:FR N G a.tmps env)(x:Option Operand):RO G (x.map a.eval) (x.map (rd env)):=by
 cases x with
 |none=>trivial
 |some x=>exact hf.eval x
theorem pY {N:Nat}{a:Act}(hf:FR N G a.tmps env)(parts:Array (Nat×Operand)) :
  (parts.map fun(i,x)=>(i,a.eval x)).size=(parts.toList.map fun p=>(p.1,rd env p.2)).length /\
  ∀(i:Nat) (p:Nat×VV) (q:Nat×Value),(parts.toList.map fun p=>(p.1,rd env p.2))[i]?=some p->(parts.map fun(i,x)=>(i,a.eval x))[i]?=some q->p.1=q.1/\R G q.2 p.2:=by
 refine⟨by simp,fun i p q hp hq=>?_⟩
 rw[c_]at hp
 rw[Array.getElem?_map]at hq
 rw[Array.getElem?_toList]at hp
 cases hj:parts[i]? with
 |none=>simp[hj]at hp
 |some r=>
  simp[hj]at hp hq
  subst hp;subst hq
  exact⟨rfl,hf.eval r.2⟩
set_option maxHeartbeats 2000000 in
theorem nu (hf:FR N G a.tmps env)(hD:a.defers=D)(hS:Sim w0 G w s)(h:bK P N E o k env s):o.wp P a w (Nx N w0 G D k) (Px N w0 G D E):=by
 have hle:=Gh.le.refl G
 unfold bK at h
 split at h
 ·rename_i x ho
  exact dr hf hD (by unfold execOp;rw[ho];rfl) hle (hf.eval x) hS h
 ·rename_i x ho
  exact dr hf hD (by unfold execOp;rw[ho];rfl) hle (hf.eval x) hS h
 ·
  rename_i c x y ho
  split at h
  ·rename_i t hc
   have hv:=hf.eval c
   rw[hc]at hv
   generalize hev:a.eval c=cv at hv
   cases hv
   refine dr hf hD (v:=if t then a.eval x else a.eval y) (by unfold execOp;rw[ho];simp[hev,asBool]) hle ?_ hS h
   cases t
   ·exact hf.eval y
   ·exact hf.eval x
  ·exact h.elim
 ·
  rename_i T ho
  obtain⟨hz,h⟩:=h
  obtain⟨z,i,d,hi,hd,hk,hs,hzz,hpos,hzs,hag,hrl⟩:=RLs.zero (P:=P) (G:=G) hz
  refine aY hf hD (S:=Instr.alloc T true (.tuple #[])) (by unfold execOp;rw[ho]) (v:=.pointer (some ⟨w.heap.size,0,none⟩)) (w':=w.alloc (.cells z.cells T)) ?_ hle (.ptr _ _)
   (hS.alloc_obj T z.cells (qi P T).z hrl.1 (fun j x hx=>?_)) (h _ hS.new)
  ·unfold Instr.alloc
   simp only[Sem.run_bind,zeroValue,typeInfo,run_program,Result.andThen_ok,hi,Sem.run_pure,hzz,newVar,newRow,run_newObj]
   rfl
  ·have hlt:j<z.cells.size:=by rw[hrl.1];exact(n_.1 hx).1
   exact⟨hrl.2.1 x (h_.2 ⟨j,hx⟩),z.cells[j],Array.getElem?_eq_getElem hlt,hrl.2.2 j _ x (Array.getElem?_eq_getElem hlt) hx⟩
 ·
  rename_i T x ho
  obtain⟨h1,h⟩:=h
  have hrl:=RLs.of_cells (hf.eval x) h1
  refine aY hf hD (S:=Instr.box T (a.eval x)) (by unfold execOp;rw[ho]) (v:=.pointer (some ⟨w.heap.size,0,none⟩)) (w':=w.alloc (.cells (a.eval x).cells T)) ?_ hle (.ptr _ _)
   (hS.alloc_obj T _ _ hrl.1 (fun j y hy=>?_)) (h _ hS.new)
  ·simp only[Instr.box,newVar,newRow,Sem.run_bind,run_newObj,Result.andThen_ok,Sem.run_pure]
   rfl
  ·have hlt:j<(a.eval x).cells.size:=by rw[hrl.1];exact(n_.1 hy).1
   exact⟨hrl.2.1 y (h_.2 ⟨j,hy⟩),(a.eval x).cells[j],Array.getElem?_eq_getElem hlt,hrl.2.2 j _ y (Array.getElem?_eq_getElem hlt) hy⟩
 ·
  rename_i T parts ho
  obtain⟨hfk,hz,h⟩:=h
  obtain⟨cs,hcs,h⟩:=bR h
  obtain⟨hl,hp⟩:=pY hf parts
  obtain⟨vs,hrun,hrl⟩:=yK (P:=P) (w:=w) hz hl hp hcs hfk
  exact aY hf hD (by unfold execOp;rw[ho]) hrun hle (.agg _ _ hrl.1 hrl.2.1 hrl.2.2) hS h
 ·
  rename_i T len parts ho
  obtain⟨hlen,hz,hbig,hk,h⟩:=h
  obtain⟨xs,hxs,h⟩:=bR h
  obtain⟨hl,hp⟩:=pY hf parts
  cases hkk:(qi P T).k<;>rw[hkk]at hk<;>first|exact hk.elim|skip
  rename_i e
  have he:bj (qi P T)=e:=by simp[bj,hkk]
  rw[he]at hz hbig hxs
  obtain⟨v,w',G',hrun,hG,hS',hR⟩:=nC (P:=P) (T:=T) (len:=len) hS hkk hz (by simpa using hlen) hbig hl hp hxs
  exact aY hf hD (by unfold execOp;rw[ho]) hrun hG hR hS' h
 ·
  rename_i T x ho
  obtain⟨y,hy,h⟩:=bR h
  obtain⟨v,hrun,hR⟩:=pG (P:=P) hS (hf.eval x) hy
  exact aY hf hD (by unfold execOp;rw[ho]) hrun hle hR hS h
 ·
  rename_i T x y ho
  obtain⟨s',hs,h⟩:=bR h
  obtain⟨w',hrun,hS'⟩:=uR (P:=P) hS (hf.eval x) (hf.eval y) hs
  exact r9 hf hD (by unfold execOp;rw[ho];simp[hrun]) hle hS' h
 ·
  rename_i x ho
  obtain⟨h1,h⟩:=h
  refine dr hf hD (v:=a.eval x) ?_ hle (hf.eval x) hS h
  have hv:=hf.eval x
  cases hx:rd env x<;>rw[hx]at h1 hv<;>first|exact h1.elim|skip
  all_goals
   generalize hu:a.eval x=u at hv
   cases hv
   simp[execOp,ho,hu]
 ·
  rename_i op T x y T' ho
  have hx:=hf.eval x
  have hy:=hf.eval y
  have hex:execOp a.eval o=(do pure (Next.value (<- (do eqGuard op T x y (a.eval x) (a.eval y);binOp op T (a.eval x) (a.eval y))))):=by unfold execOp;rw[ho]
  split at h
  ·rename_i kd p kd' q e1 e2
   obtain⟨hkk,h⟩:=h
   obtain⟨z,hz,h⟩:=bR h
   rw[e1]at hx
   rw[e2]at hy
   generalize a.eval x=u at hx hex
   generalize a.eval y=u' at hy hex
   cases hx
   cases hy
   obtain⟨v,hrun,hR⟩:=pm (P:=P) (w:=w) (T:=T) (G:=G) hkk hz
   exact aY hf hD hex (by simp only[Sem.run_bind,Ea,Result.andThen_ok];exact hrun) hle hR hS h
  ·rename_i p q e1 e2
   rw[e1]at hx
   rw[e2]at hy
   generalize a.eval x=u at hx hex
   generalize a.eval y=u' at hy hex
   cases hx with
   |str p=>
    cases hy with
    |str q=>
     split at h
     ·obtain⟨hb,h⟩:=h
      refine aY hf hD hex (v:=.string ⟨p++q⟩) ?_ hle (by simpa using R.str (G:=G) (p++q)) hS h
      simp only[Sem.run_bind,ry,Result.andThen_ok]
      simp only[binOp,Op.stringOp]
      have e:((((⟨p⟩:ByteArray).size+(⟨q⟩:ByteArray).size:Nat)):Int)=((p.toList.length+q.toList.length:Nat):Int):=by simp[ByteArray.size]
      rw[e]
      rw[if_neg (by rw[show IntKind.i64.max=9223372036854775807 by decide];omega)]
      simp only[Sem.run_pure,Result.ok.injEq,and_true,Value.string.injEq]
      exact ByteArray.ext (by simp)
     ·refine aY hf hD hex (v:=.bool (decide (p.toList=q.toList))) ?_ hle (.bool _) hS h
      simp only[Sem.run_bind,ry,Result.andThen_ok,binOp,Op.stringOp,Sem.run_pure,wB]
     ·refine aY hf hD hex (v:=.bool !(decide (p.toList=q.toList))) ?_ hle (.bool _) hS h
      simp only[Sem.run_bind,ry,Result.andThen_ok,binOp,Op.stringOp,Sem.run_pure,wB]
     ·exact h.elim
  ·rename_i p q e1 e2
   obtain⟨hk,h⟩:=h
   rw[e1]at hx
   rw[e2]at hy
   generalize a.eval x=u at hx hex
   generalize a.eval y=u' at hy hex
   cases hx
   cases hy
   have hkb:(qi P T).k=.bool:=by cases hk':(qi P T).k<;>rw[hk']at hk<;>first|rfl|exact hk.elim
   have hd:=zj hkb
   split at h
   ·refine aY hf hD hex (v:=.bool (p == q)) ?_ hle (.bool _) hS h
    simp only[Sem.run_bind,tH,Result.andThen_ok,binOp]
    simp[Op.equal,Op.maxDepth,mi hd 9999]
   ·refine aY hf hD hex (v:=.bool !(p == q)) ?_ hle (.bool _) hS h
    simp only[Sem.run_bind,tH,Result.andThen_ok,binOp]
    simp[Op.equal,Op.maxDepth,mi hd 9999]
   ·exact h.elim
  ·rename_i b i b' j e1 e2
   obtain⟨hp,rfl,rfl,h⟩:=h
   rw[e1]at hx
   rw[e2]at hy
   generalize a.eval x=u at hx hex
   generalize a.eval y=u' at hy hex
   cases hx
   cases hy
   have hE:(Op.equal T (.pointer (some ⟨b,i,none⟩)) (.pointer (some ⟨b,i,none⟩))).run P w=.ok true w:=uT hp _ w
   have hg:(eqGuard op T x y (.pointer (some ⟨b,i,none⟩)) (.pointer (some ⟨b,i,none⟩))).run P w=.ok () w:=by cases op<;>first|rfl|simp[eqGuard]
   obtain⟨hE1,hE2⟩:=xR hE rfl rfl
   split at h
   ·refine aY hf hD hex (v:=.bool true) ?_ hle (.bool _) hS h
    simp only[Sem.run_bind,hg,Result.andThen_ok];exact hE1
   ·refine aY hf hD hex (v:=.bool false) ?_ hle (.bool _) hS h
    simp only[Sem.run_bind,hg,Result.andThen_ok];exact hE2
   ·exact h.elim
  ·rename_i xs ys e1 e2
   rw[e1]at hx
   rw[e2]at hy
   generalize a.eval x=u at hx hex
   generalize a.eval y=u' at hy hex
   cases u<;>first|(cases hx;done)|skip
   cases u'<;>first|(cases hy;done)|skip
   split at h
   ·obtain⟨b,hb,h⟩:=bR h
    obtain⟨h1,h2,_⟩:=wF (P:=P) (w:=w) (op:=.eql) (ox:=x) (oy:=y) hx hy hb
    exact aY hf hD hex (v:=.bool b) (by simp only[Sem.run_bind,h1,Result.andThen_ok];exact h2) hle (.bool _) hS h
   ·obtain⟨b,hb,h⟩:=bR h
    obtain⟨h1,_,h2⟩:=wF (P:=P) (w:=w) (op:=.neq) (ox:=x) (oy:=y) hx hy hb
    exact aY hf hD hex (v:=.bool !b) (by simp only[Sem.run_bind,h1,Result.andThen_ok];exact h2) hle (.bool _) hS h
   ·exact h.elim
  ·obtain⟨hcy,h⟩:=h
   split at h
   ·obtain⟨b,hb,h⟩:=bR h
    obtain⟨h1,h2,_⟩:=wD (P:=P) (w:=w) (op:=.eql) (ox:=x) (oy:=y) hx hy hb hcy
    exact aY hf hD hex (v:=.bool b) (by simp only[Sem.run_bind,h1,Result.andThen_ok];exact h2) hle (.bool _) hS h
   ·obtain⟨b,hb,h⟩:=bR h
    obtain⟨h1,_,h2⟩:=wD (P:=P) (w:=w) (op:=.neq) (ox:=x) (oy:=y) hx hy hb hcy
    exact aY hf hD hex (v:=.bool !b) (by simp only[Sem.run_bind,h1,Result.andThen_ok];exact h2) hle (.bool _) hS h
   ·exact h.elim
 ·
  rename_i src dst x ho
  have hx:=hf.eval x
  have hex:execOp a.eval o=(do pure (Next.value (<- convert src dst (a.eval x)))):=by unfold execOp;rw[ho]
  obtain⟨z,hz,h⟩:=bR h
  obtain⟨v,hrun,hR⟩:=yI (P:=P) hS hx hz
  exact aY hf hD hex hrun hle hR hS h
 ·
  rename_i op T x ho
  have hx:=hf.eval x
  have hex:execOp a.eval o=(do pure (Next.value (<- Op.unary op (a.eval x)))):=by unfold execOp;rw[ho]
  split at h
  ·rename_i b e
   rw[e]at hx
   generalize a.eval x=u at hx hex
   cases hx
   exact aY hf hD hex (v:=.bool !b) rfl hle (.bool _) hS h
  ·rename_i kd n e
   rw[e]at hx
   generalize a.eval x=u at hx hex
   cases hx
   exact aY hf hD hex (v:=.int kd (kd.wrap (0 - n))) rfl hle (.int _ _) hS h
  ·exact h.elim
 ·
  rename_i T x j ho
  have hx:=hf.eval x
  have hex:execOp a.eval o=(do pure (Next.value (<- Instr.fieldAt T (a.eval x) j))):=by unfold execOp;rw[ho]
  split at h
  ·rename_i cs off sz ag e1 e2
   obtain⟨_,h⟩:=h
   rw[e1]at hx
   obtain⟨b,of,hu,_⟩:=Lies.of_eptr hS hx
   rw[hu]at hx hex
   exact aY hf hD hex (mh (P:=P) e2 b of) hle (hx.eptr_drop off) hS h
  ·rename_i b of off sz ag e1 e2
   rw[e1]at hx
   generalize a.eval x=u at hx hex
   cases hx
   exact aY hf hD hex (mh (P:=P) e2 b of) hle (.ptr _ _) hS h
  ·exact h.elim
 ·
  rename_i T x j ho
  have hx:=hf.eval x
  split at h
  ·rename_i cs off sz ag e1 e2
   obtain⟨z,hz,h⟩:=bR h
   rw[e1]at hx
   obtain⟨u,hrun,hR⟩:=yJ (P:=P) (w:=w) e2 hx hz
   exact aY hf hD (by unfold execOp;rw[ho]) hrun hle hR hS h
  ·exact h.elim
 ·
  rename_i T x i ho
  obtain⟨z,hz,h⟩:=bR h
  obtain⟨u,hrun,hR⟩:=Am (P:=P) (w:=w) (hf.eval x) (hf.eval i) hz
  exact aY hf hD (by unfold execOp;rw[ho]) hrun hle hR hS h
 ·
  rename_i T x i ho
  obtain⟨z,hz,h⟩:=bR h
  obtain⟨u,hrun,hR⟩:=C6 (P:=P) (w:=w) (hf.eval x) (hf.eval i) hz
  exact aY hf hD (by unfold execOp;rw[ho]) hrun hle hR hS h
 ·
  rename_i T x lo hi mx ho
  obtain⟨rfl,h⟩:=h
  obtain⟨z,hz,h⟩:=bR h
  obtain⟨u,hrun,hR⟩:=uS (P:=P) (w:=w) (hf.eval x) (RO.map hf lo) (RO.map hf hi) hz
  exact aY hf hD (by unfold execOp;rw[ho];rfl) hrun hle hR hS h
 ·
  rename_i T x ho
  obtain⟨hk,h⟩:=h
  refine aY hf hD (by unfold execOp;rw[ho]) (v:=.iface T (a.eval x)) ?_ hle (.iface _ _ _ (hf.eval x)) hS h
  have hne:(qi P T).k≠.other:=by intro e;rw[e]at hk;exact hk
  obtain⟨d,i,hd,hi,hkk,_⟩:=ci (P:=P) T (.inr (.inl hne))
  rw[hkk]at hk
  unfold Instr.makeInterface
  simp only[Sem.run_bind,run_underlying hd,Result.andThen_ok]
  cases d<;>first|rfl|exact hk.elim
 ·
  rename_i f fs caps ho
  obtain⟨rfl,h⟩:=h
  have hm:=RL.map hf caps.toList
  have e:(caps.toList.map a.eval).toArray=caps.map a.eval:=by
   apply Array.toList_inj.1;simp
  rw[e]at hm
  exact aY hf hD (by unfold execOp;rw[ho]) (v:=.func (.func f) #[] (caps.map a.eval)) (by simp[Instr.makeFunc]) hle (.fn f _ _ hm.1 hm.2) hS h
 ·
  rename_i T l c ho
  split at h
  ·rename_i k1 n k2 m z e1 e2 e3
   obtain⟨rfl,h0,hb,hn,hk,hz,h⟩:=h
   have hl:=hf.eval l
   have hc:=hf.eval c
   rw[e1]at hl
   rw[e2]at hc
   have hex:execOp a.eval o=(do pure (Next.value (<- Instr.makeSlice T (a.eval l) (a.eval c)))):=by unfold execOp;rw[ho]
   generalize a.eval l=u at hl hex
   generalize a.eval c=u' at hc hex
   cases hl
   cases hc
   obtain⟨e,hke⟩:∃e,(qi P T).k=.slice e:=by
    cases hq:(qi P T).k<;>rw[hq]at hk<;>first|exact⟨_,rfl⟩|exact hk.elim
   have hel:bj (qi P T)=e:=by unfold bj;rw[hke]
   rw[hel]at hb hz h e3
   obtain⟨d,i,hd,hi,hkT,_⟩:=ci (P:=P) T (.inr (.inl (by rw[hke];intro x;cases x)))
   have hds:d=.slice e:=by
    rw[hke]at hkT
    cases d<;>simp[dt]at hkT
    rw[hkT]
   subst hds
   obtain⟨zv,j,de,hj,hde,hkk,hs,hzz,hpos,hzs,hag,hrl⟩:=RLs.zero (P:=P) (G:=G) hz
   obtain⟨de',j',hde',hj',_,_,hbt⟩:=ci (P:=P) e (.inr (.inr hz))
   rw[hj]at hj'
   injection hj' with hj'
   subst hj'
   rw[e3]at hrl
   have hsz1:zv.cells.size=1:=hrl.1
   have hj1:j.size=1:=by omega
   refine aY hf hD hex (v:=.slice (some ⟨w.heap.size,0,none⟩) n.toNat n.toNat) (w':=w.alloc (.cells (madeCells zv.cells (n.toNat*j.size)) e)) ?_ hle (.msl _ _)
    (hS.alloc_obj e _ (List.replicate n.toNat z) (by rw[size_madeCells,hj1,List.length_replicate,Nat.mul_one]) (fun x y hy=>?_)) (by rw[<- hel];exact hel ▸ h _ hS.new)
   ·exact run_make (P:=P) w T e j zv hd hj hzz k1 k2 n n h0 (Int.le_refl _) (by rw[hbt]at hb;rw[Int.mul_comm];omega) (by omega)
   ·obtain⟨hx,rfl⟩:x<n.toNat/\y=z:=by
     rw[List.getElem?_replicate]at hy
     split at hy
     ·injection hy with hy;exact⟨‹_›,hy.symm⟩
     ·cases hy
    refine⟨hrl.2.1 y (by simp),zv.cells[0]'(by omega),?_,hrl.2.2 0 _ y (Array.getElem?_eq_getElem (by omega)) rfl⟩
    have hlt:x<(madeCells zv.cells (n.toNat*j.size)).size:=by rw[size_madeCells,hj1];omega
    rw[Array.getElem?_eq_getElem hlt]
    simp only[madeCells,Array.getElem_map,hsz1,Nat.mod_one]
    congr 1
    simp[hsz1]
  ·exact h.elim
 ·
  rename_i T ho
  refine aY hf hD (by unfold execOp;rw[ho]) (v:=.map (some w.heap.size)) (w':=w.alloc (.map #[] 0)) ?_ hle (.mp _) hS.alloc_map (h _ hS.new)
  simp[Instr.makeMap]
 ·
  rename_i T m key ok ho
  obtain⟨z,hz,h⟩:=bR h
  obtain⟨u,hrun,hR⟩:=sC (P:=P) hS (hf.eval m) (hf.eval key) hz
  exact aY hf hD (by unfold execOp;rw[ho]) hrun hle hR hS h
 ·
  rename_i T m key x ho
  obtain⟨s',hs,h⟩:=bR h
  obtain⟨w',hrun,hS'⟩:=sA (P:=P) hS (hf.eval m) (hf.eval key) (hf.eval x) hs
  exact r9 hf hD (by unfold execOp;rw[ho];simp[hrun]) hle hS' h
 ·
  rename_i t i ho
  have ht:=hf.eval t
  split at h
  ·rename_i xs e
   obtain⟨z,hz,h⟩:=bR h
   rw[e]at ht
   have hex:execOp a.eval o=(do pure (Next.value (<- Instr.extract (a.eval t) i))):=by unfold execOp;rw[ho]
   generalize a.eval t=u at ht hex
   cases ht with
   |tup vs xs hs hR=>
    have hlt:i<vs.size:=by rw[hs];exact(n_.1 hz).1
    exact aY hf hD hex (v:=vs[i]) (by simp[Instr.extract,hlt]) hle (hR i _ z (Array.getElem?_eq_getElem hlt) hz) hS h
  ·exact h.elim
 ·
  rename_i x T0 T ok ho
  obtain⟨rfl,hk,h⟩:=h
  have hx:=hf.eval x
  split at h
  ·rename_i T' y e
   obtain⟨rfl,h⟩:=h
   rw[e]at hx
   have hex:execOp a.eval o=(do pure (Next.value (<- Instr.typeAssert (a.eval x) T0 T' true))):=by unfold execOp;rw[ho]
   generalize a.eval x=u at hx hex
   cases hx with
   |iface t v y hR=>
    have hne:(qi P T').k≠.other:=by intro e;rw[e]at hk;exact hk
    obtain⟨d,i,hd,hi,hkk,_⟩:=ci (P:=P) T' (.inr (.inl hne))
    rw[hkk]at hk
    refine aY hf hD hex (v:=.tuple #[v,.bool true]) ?_ hle (.tup _ _ rfl fun j v' y' h1 h2=>?_) hS h
    ·unfold Instr.typeAssert
     simp only[Sem.run_bind,run_underlying hd,Result.andThen_ok]
     cases d<;>first|exact hk.elim|simp
    ·match j with
     |0=>simp at h1 h2;subst h1;subst h2;exact hR
     |1=>simp at h1 h2;subst h1;subst h2;exact .bool _
     |j+2=>simp at h2
  ·exact h.elim
 ·
  rename_i x ho
  have hx:=hf.eval x
  split at h
  ·rename_i T y e
   rw[e]at hx
   have hex:execOp a.eval o=(do pure (Next.value (<- Instr.panic (a.eval x)))):=by unfold execOp;rw[ho]
   generalize a.eval x=u at hx hex
   cases hx with
   |iface t v x hv=>
    unfold Oper.wp
    rw[hex]
    simp only[Instr.panic,Sem.run_bind,run_goPanic,Result.andThen_halt]
    exact⟨G,env,s,.iface T v,.iface T y,rfl,.iface _ _ _ hv,hle,hf,hD,hS,h⟩
  ·exact h.elim
 ·
  rename_i c ho
  split at h
  ·rename_i f hc
   exact uL hf hD hS ho hc h
  ·
   rename_i hc
   split at h
   ·rename_i x T e1 e2
    obtain⟨z,hz,h⟩:=bR h
    obtain⟨u,hrun,hR⟩:=Al (P:=P) (T:=T) (ty:=o.type) hS (hf.eval x) hz
    have e1':c.args=#[x]:=Array.toList_inj.1 (by simpa using e1)
    have e2':c.argTypes=#[T]:=Array.toList_inj.1 (by simpa using e2)
    refine dr hf hD (v:=u) ?_ hle hR hS h
    unfold execOp
    simp[ho,resolve,hc,invoke,builtin,e1',e2',hrun]
   ·exact h.elim
  ·
   rename_i hc
   split at h
   ·rename_i x y e1
    obtain⟨z,hz,h⟩:=bR h
    have e1':c.args=#[x,y]:=Array.toList_inj.1 (by simpa using e1)
    have hx:=hf.eval x
    have hy:=hf.eval y
    unfold eC at hz
    split at hz
    ·rename_i kd p kd' q e3 e4
     split at hz
     ·rename_i e5
      subst e5
      simp only[Bool.false_eq_true,if_false,Option.some.injEq]at hz
      subst hz
      rw[e3]at hx
      rw[e4]at hy
      generalize hu:a.eval x=u at hx
      generalize hu':a.eval y=u' at hy
      cases hx
      cases hy
      refine dr hf hD (v:=.int kd (if q<p then q else p)) ?_ hle (.int _ _) hS h
      unfold execOp
      simp[ho,resolve,hc,invoke,builtin,e1',hu,hu',Builtin.min_,Builtin.min2]
     ·cases hz
    ·cases hz
   ·exact h.elim
  ·
   rename_i hc
   split at h
   ·rename_i x y e1
    obtain⟨z,hz,h⟩:=bR h
    have e1':c.args=#[x,y]:=Array.toList_inj.1 (by simpa using e1)
    have hx:=hf.eval x
    have hy:=hf.eval y
    unfold eC at hz
    split at hz
    ·rename_i kd p kd' q e3 e4
     split at hz
     ·rename_i e5
      subst e5
      simp only[if_true,Option.some.injEq]at hz
      subst hz
      rw[e3]at hx
      rw[e4]at hy
      generalize hu:a.eval x=u at hx
      generalize hu':a.eval y=u' at hy
      cases hx
      cases hy
      refine dr hf hD (v:=.int kd (if p<q then q else p)) ?_ hle (.int _ _) hS h
      unfold execOp
      simp[ho,resolve,hc,invoke,builtin,e1',hu,hu',Builtin.max_,Builtin.max2]
     ·cases hz
    ·cases hz
   ·exact h.elim
  ·
   rename_i hc
   split at h
   ·rename_i x y T T' e1 e2
    obtain⟨hk,h⟩:=h
    have e1':c.args=#[x,y]:=Array.toList_inj.1 (by simpa using e1)
    have e2':c.argTypes=#[T,T']:=Array.toList_inj.1 (by simpa using e2)
    have hx:=hf.eval x
    have hy:=hf.eval y
    cases hkk:(qi P T).k<;>rw[hkk]at hk<;>first|exact hk.elim|skip
    rename_i e
    have he:bj (qi P T)=e:=by simp[bj,hkk]
    rw[he]at h
    split at h
    ·rename_i xs ox ys oy e3 e4
     rw[e3]at hx
     rw[e4]at hy
     obtain⟨rfl,h⟩:=h
     obtain⟨v,w',G',s',z,hrun,hG,hS',hR,h⟩:=me (P:=P) (T':=T) (ty:=o.type) hS hx (fun hp hl=>.of_lst (bX hkk) hS hy hp hl) hkk h
     refine dr hf hD (v:=v) ?_ hG hR hS' h
     unfold execOp
     simp[ho,resolve,hc,invoke,builtin,e1',e2',hrun]
    ·rename_i b n ys oy e3 e4
     rw[e3]at hx
     rw[e4]at hy
     obtain⟨rfl,h⟩:=h
     obtain⟨v,w',G',s',z,hrun,hG,hS',hR,h⟩:=qJ (P:=P) (T':=T) (ty:=o.type) hS hx (fun hp hl=>.of_lst (bX hkk) hS hy hp hl) hkk h
     refine dr hf hD (v:=v) ?_ hG hR hS' h
     unfold execOp
     simp[ho,resolve,hc,invoke,builtin,e1',e2',hrun]
    ·rename_i ys oy e3 e4
     rw[e3]at hx
     rw[e4]at hy
     obtain⟨rfl,h⟩:=h
     obtain⟨v,w',G',s',z,hrun,hG,hS',hR,h⟩:=qK (P:=P) (T':=T) (ty:=o.type) hS hx (fun hp hl=>.of_lst (bX hkk) hS hy hp hl) hkk h
     refine dr hf hD (v:=v) ?_ hG hR hS' h
     unfold execOp
     simp[ho,resolve,hc,invoke,builtin,e1',e2',hrun]
    ·rename_i xs ox l e3 e4
     rw[e3]at hx
     rw[e4]at hy
     obtain⟨hstr,h⟩:=h
     have hu:P.underlying T'=some .string:=by
      cases hq:(qi P T').k<;>rw[hq]at hstr<;>first|(cases hstr;done)|exact kK hq
     obtain⟨v,w',G',s',z,hrun,hG,hS',hR,h⟩:=me (P:=P) (T':=T') (ty:=o.type) hS hx (fun hp hl=>by
      cases l with
      |nil=>exact .of_str0 hu hy
      |cons c l=>
       have h1:(qi P e).sz=1:=(hl [.int .u8 (c.toNat:Int)] (by simp[bi])).symm
       rw[h1]
       exact .of_str hu hy) hkk h
     refine dr hf hD (v:=v) ?_ hG hR hS' h
     unfold execOp
     simp[ho,resolve,hc,invoke,builtin,e1',e2',hrun]
    ·exact h.elim
   ·exact h.elim
  ·exact h.elim
 ·exact h.elim
end
inductive Fin' where
 |norm
 |ret
 |exit (id:Nat)
 |panic (x:VV)
def RX (G:Gh):Exit->Fin'->Prop
 |.normal,.norm=>True
 |.ret,.ret=>True
 |.exit i,.exit j=>i=j
 |.panic ch,.panic x=>∃v,ch=[{ v:=v,recovered:=false }]/\R G v x
 |_,_=>False
theorem RX.mono {G G':Gh}(h:G.le G'){e:Exit}{f:Fin'}(r:RX G e f):RX G' e f:=by
 cases e<;>cases f<;>first|exact r|(obtain⟨v,e,hv⟩:=r;exact⟨v,e,hv.mono h⟩)
abbrev Pst:=Fin'->Env->St->Prop
def Up (N:Nat)(w0:World)(G:Gh)(D:List Deferred)(Q:Pst):Exit->Act->World->Prop:=fun e a w=>
 ∃(G':Gh) (f:Fin') (env:Env) (s:St),G.le G'/\RX G' e f/\FR N G' a.tmps env/\a.defers=D/\Sim w0 G' w s/\Q f env s
theorem Up.back {N:Nat}{w0:World}{G G':Gh}{D:List Deferred}{Q:Pst}(h:G.le G'){e:Exit}{a:Act}{w:World}(u:Up N w0 G' D Q e a w):Up N w0 G D Q e a w:=by
 obtain⟨G'',f,env,s,h1,h2⟩:=u
 exact⟨G'',f,env,s,h.trans h1,h2⟩
theorem Oper.wp_mono' {P:Program}{o:Oper}{a:Act}{w:World}{n n':Act->World->Prop}{Q Q':Exit->Act->World->Prop}(hn:∀a w,n a w->n' a w)(hQ:∀e a w,Q e a w->Q' e a w)
  (h:o.wp P a w n Q):o.wp P a w n' Q':=by
 unfold Oper.wp at h ⊢
 generalize (execOp a.eval o).run P w=r at h ⊢
 unfold Oper.upon at h ⊢
 split at h
 ·exact hn _ _ h
 ·exact hn _ _ h
 ·exact hn _ _ h
 ·refine h.mono fun e w' he=>?_
  cases e with
  |returned v=>exact hn _ _ he
  |panicked ch=>exact hQ _ _ _ he
  |outgrown=>obtain⟨a,w,q⟩:=he;exact⟨a,w,hQ _ _ _ q⟩
 ·exact h.mono fun v w' he=>hn _ _ he
 ·exact hQ _ _ _ h
 ·exact h.elim
section
variable {P : Program} {N : Nat} {D : List Deferred}
theorem m9 {all:List Oper}{K:Env->St->Prop}{E:VV->Env->St->Prop}{Q:Pst}(hK:∀env s,K env s->Q .norm env s)(hE:∀x env s,E x env s->Q (.panic x) env s) :
  ∀(rest:List Oper) (env:Env) (s:St),aJ P N all K E rest env s->∀(w0:World) (G:Gh) (w:World) (a:Act),FR N G a.tmps env->a.defers=D->Sim w0 G w s ->
   wpList P all.toArray (Up N w0 G D Q) rest a w
 |[],env,s,h,w0,G,w,a,hf,hD,hS=>⟨G,.norm,env,s,Gh.le.refl G,trivial,hf,hD,hS,hK env s h⟩
 |o::rest,env,s,h,w0,G,w,a,hf,hD,hS=>by
  have ih:=m9 (all:=all) hK hE rest
  have mono:∀(G':Gh),G.le G'->∀(l:List Oper) (a:Act) (w:World),wpList P all.toArray (Up N w0 G' D Q) l a w->wpList P all.toArray (Up N w0 G D Q) l a w:=by
   intro G' hG l
   induction l with
   |nil=>exact fun a w h=>Up.back hG h
   |cons o l ihl=>
    intro a w h
    unfold wpList at h ⊢
    split at h
    ·rename_i hw
     rw[if_pos hw]
     rcases h with h|⟨h1,a',w',h2⟩
     ·exact .inl (Oper.wp_mono' ihl (fun e a w=>Up.back hG) h)
     ·exact .inr ⟨h1,a',w',Up.back hG h2⟩
    ·rename_i hw
     rw[if_neg hw]
     exact ihl _ _ h
  have run:bK P N E o (fun env s=>aJ P N all K E rest env s) env s->o.wp P a w (wpList P all.toArray (Up N w0 G D Q) rest) (Up N w0 G D Q):=by
   intro hst
   refine Oper.wp_mono' ?_ ?_ (nu hf hD hS hst)
   ·rintro a' w' ⟨G',env',s',hG,hf',hD',hS',hk⟩
    exact mono G' hG _ _ _ (ih env' s' hk w0 G' w' a' hf' hD' hS')
   ·rintro e a' w' ⟨G',env',s',v,x,rfl,hv,hG,hf',hD',hS',hk⟩
    exact⟨G',.panic x,env',s',hG,⟨v,rfl,hv⟩,hf',hD',hS',hE _ _ _ hk⟩
  have skip:wo N o (fun env s=>aJ P N all K E rest env s) env s->wpList P all.toArray (Up N w0 G D Q) rest (a.put o.dst undef) w:=by
   intro hsk
   exact ih _ _ hsk w0 G w _ (hf.put o.dst (.tup _ _ rfl (fun j v y hv=>by simp at hv))) ((fT _ _ _).trans hD) hS
  unfold wpList
  simp only[aJ]at h
  cases hg:o.guard with
  |none=>
   rw[if_pos (by simp[Region.wanted,hg])]
   rw[hg]at h
   exact .inl (run h)
  |some g=>
   obtain⟨j,want⟩:=g
   rw[hg]at h
   simp only at h
   unfold yv at h
   cases hd:(all[j]?).bind (·.dst)with
   |none=>
    rw[hd]at h
    rw[if_neg (by simp[Region.wanted,hg,yielded,hd])]
    exact skip h
   |some t=>
    rw[hd]at h
    simp only at h
    have hr:=hf.rel t
    cases he:env t with
    |bool b=>
     rw[he]at hr h
     generalize hv:a.tmps.getD t undef=v at hr
     cases hr
     have hy:yielded all.toArray a.tmps j=some b:=by
      have hlt:t<a.tmps.size:=by
       rcases Nat.lt_or_ge t a.tmps.size with h'|h'
       ·exact h'
       ·simp[Array.getD,Nat.not_lt.2 h',undef]at hv
      have:a.tmps[t]?=some (.bool b):=by
       simp[Array.getD,hlt]at hv
       simp[hlt,hv]
      simp[yielded,hd,this]
     simp only[iI]at h
     by_cases hbw:b=want
     ·rw[if_pos hbw]at h
      rw[if_pos (by simp[Region.wanted,hg,hy,hbw])]
      exact .inl (run h)
     ·rw[if_neg hbw]at h
      rw[if_neg (by simp[Region.wanted,hg,hy,hbw])]
      exact skip h
    |tup xs=>
     rw[he]at hr h
     generalize hv:a.tmps.getD t undef=v at hr
     cases hr with
     |tup vs xs hs hR=>
      have hy:yielded all.toArray a.tmps j=none:=by
       by_cases hlt:t<a.tmps.size
       ·have:a.tmps[t]?=some (.tuple vs):=by
         simp[Array.getD,hlt]at hv
         simp[hlt,hv]
        simp[yielded,hd,this]
       ·simp[yielded,hd,hlt]
      rw[if_neg (by simp[Region.wanted,hg,hy])]
      exact skip h
    |_=>rw[he]at h;exact h.elim
def SW (P:Program)(N:Nat)(D:List Deferred)(c:Code)(Q:Pst)(env:Env)(s:St):Prop:=
 ∀(w0:World) (G:Gh) (w:World) (a:Act),FR N G a.tmps env->a.defers=D->Sim w0 G w s->c.wp P (Up N w0 G D Q) a w
inductive Itm where
 |code (c:Code)
 |blk (id:Nat)
 |back (I:Env->St->Prop)
def Kp (P:Program)(N:Nat)(D:List Deferred):List Itm->Pst->Pst
 |[],Q=>Q
 |.code c::k,Q=>fun f env s=>match f with|.norm=>SW P N D c (Kp P N D k Q) env s|f=>Kp P N D k Q f env s
 |.blk id::k,Q=>fun f env s=>match f with|.exit j=>if j=id then Kp P N D k Q .norm env s else Kp P N D k Q (.exit j) env s|f=>Kp P N D k Q f env s
 |.back I::k,Q=>fun f env s=>match f with|.norm=>I env s|f=>Kp P N D k Q f env s
section
variable {k : List Itm} {Q : Pst} {env : Env} {s : St}
theorem bP {x y:Code}(h:Kp P N D (.code x::.code y::k) Q .norm env s):Kp P N D (.code (.seq x y)::k) Q .norm env s:=by
 intro w0 G w a hf hD hS
 refine wp_seq (wp_mono (h w0 G w a hf hD hS) ?_)
 rintro e a' w' ⟨G',f,env',s',hG,hx,hf',hD',hS',hq⟩
 cases f with
 |norm=>
  cases e<;>first|exact hx.elim|skip
  exact wp_mono (hq w0 G' w' a' hf' hD' hS') fun e a w=>Up.back hG
 |ret=>cases e<;>first|exact hx.elim|exact⟨G',.ret,env',s',hG,hx,hf',hD',hS',hq⟩
 |exit i=>cases e<;>first|exact hx.elim|exact⟨G',.exit i,env',s',hG,hx,hf',hD',hS',hq⟩
 |panic x=>cases e<;>first|exact hx.elim|exact⟨G',.panic x,env',s',hG,hx,hf',hD',hS',hq⟩
theorem eE (h:Kp P N D k Q .norm env s):Kp P N D (.code .skip::k) Q .norm env s:=
 fun _ G _ _ hf hD hS=>wp_skip ⟨G,.norm,env,s,Gh.le.refl G,trivial,hf,hD,hS,h⟩
theorem pb {id:Nat}(h:Kp P N D k Q (.exit id) env s):Kp P N D (.code (.exit id)::k) Q .norm env s:=
 fun _ G _ _ hf hD hS=>wp_exit ⟨G,.exit id,env,s,Gh.le.refl G,rfl,hf,hD,hS,h⟩
theorem rX:∀k:List Itm,Kp P N D k Q .ret env s=Q .ret env s
 |[]=>rfl
 |.code c::k=>rX k
 |.blk id::k=>rX k
 |.back I::k=>rX k
theorem jl {x:VV}:∀k:List Itm,Kp P N D k Q (.panic x) env s=Q (.panic x) env s
 |[]=>rfl
 |.code c::k=>jl k
 |.blk id::k=>jl k
 |.back I::k=>jl k
theorem cT (h:Q .ret env s):Kp P N D (.code .ret::k) Q .norm env s:=
 fun _ G _ _ hf hD hS=>wp_ret ⟨G,.ret,env,s,Gh.le.refl G,trivial,hf,hD,hS,by rw[rX];exact h⟩
theorem gW {id:Nat}{c:Code}(h:Kp P N D (.code c::.blk id::k) Q .norm env s):Kp P N D (.code (.block id c)::k) Q .norm env s:=by
 intro w0 G w a hf hD hS
 refine wp_block (wp_mono (h w0 G w a hf hD hS) ?_)
 rintro e a' w' ⟨G',f,env',s',hG,hx,hf',hD',hS',hq⟩
 cases f with
 |norm=>cases e<;>first|exact hx.elim|exact⟨G',.norm,env',s',hG,hx,hf',hD',hS',hq⟩
 |ret=>cases e<;>first|exact hx.elim|exact⟨G',.ret,env',s',hG,hx,hf',hD',hS',hq⟩
 |panic x=>cases e<;>first|exact hx.elim|exact⟨G',.panic x,env',s',hG,hx,hf',hD',hS',hq⟩
 |exit i=>
  cases e<;>first|exact hx.elim|skip
  rename_i i'
  have:i'=i:=hx
  subst this
  simp only[Kp]at hq
  simp only[Exit.inBlock]
  by_cases hi:i'=id
  ·rw[if_pos hi]at hq ⊢
   exact⟨G',.norm,env',s',hG,trivial,hf',hD',hS',hq⟩
  ·rw[if_neg hi]at hq ⊢
   exact⟨G',.exit i',env',s',hG,rfl,hf',hD',hS',hq⟩
theorem gV {id:Nat}(h:Kp P N D k Q .norm env s):Kp P N D (.blk id::k) Q .norm env s:=h
theorem CV {I:Env->St->Prop}(h:I env s):Kp P N D (.back I::k) Q .norm env s:=h
theorem oW {c:Code}{id:Nat}(h:Kp P N D k Q (.exit id) env s):Kp P N D (.code c::k) Q (.exit id) env s:=h
theorem rI {I:Env->St->Prop}{id:Nat}(h:Kp P N D k Q (.exit id) env s):Kp P N D (.back I::k) Q (.exit id) env s:=h
theorem uj {id:Nat}(h:Kp P N D k Q .norm env s):Kp P N D (.blk id::k) Q (.exit id) env s:=by
 show (if id=id then _ else _)
 rw[if_pos rfl];exact h
theorem JC {id j:Nat}(hne:j≠id)(h:Kp P N D k Q (.exit j) env s):Kp P N D (.blk id::k) Q (.exit j) env s:=by
 simp only[Kp];rw[if_neg hne];exact h
def nc (P:Program)(N:Nat)(D:List Deferred)(c:VV)(x y:Code)(k:List Itm)(Q:Pst)(env:Env)(s:St):Prop:=
 match c with
 |.bool t=>(t=true->Kp P N D (.code x::k) Q .norm env s)/\(t=false->Kp P N D (.code y::k) Q .norm env s)
 |_=>False
theorem nb {x y:Code}:nc P N D (.bool true) x y k Q env s=Kp P N D (.code x::k) Q .norm env s:=by simp[nc]
theorem lX {x y:Code}:nc P N D (.bool false) x y k Q env s=Kp P N D (.code y::k) Q .norm env s:=by simp[nc]
theorem co {c:Operand}{x y:Code}(h:nc P N D (rd env c) x y k Q env s):Kp P N D (.code (.cond c x y)::k) Q .norm env s:=by
 intro w0 G w a hf hD hS
 have hr:=hf.eval c
 cases he:rd env c with
 |bool t=>
  rw[he]at hr h
  generalize hv:a.eval c=v at hr
  cases hr
  cases t with
  |true=>exact wp_cond_true hv (h.1 rfl w0 G w a hf hD hS)
  |false=>exact wp_cond_false hv (h.2 rfl w0 G w a hf hD hS)
 |_=>rw[he]at h;exact h.elim
theorem aK {id:Nat}{ops:List Oper}(h:∀(K:Env->St->Prop) (E:VV->Env->St->Prop),(∀env s,Kp P N D k Q .norm env s->K env s)->(∀x env s,Q (.panic x) env s->E x env s)->aJ P N ops K E ops env s) :
  Kp P N D (.code (.region id ops.toArray false)::k) Q .norm env s:=by
 intro w0 G w a hf hD hS
 refine wp_region_list ?_
 have:=h (fun env s=>Kp P N D k Q .norm env s) (fun x env s=>Q (.panic x) env s) (fun _ _ h=>h) (fun _ _ _ h=>h)
 exact m9 (Q:=Kp P N D k Q) (fun _ _ h=>h) (fun x env s h=>by rw[jl];exact h) ops env s this w0 G w a hf hD hS
theorem bB {c:Code}(I:Nat->Env->St->Prop)(n:Nat)(h0:I n env s)(hr:∀n env s,I n env s->Kp P N D (.code c::.back (fun env' s'=>∃m,m<n/\I m env' s')::k) Q .norm env s) :
  Kp P N D (.code (.loop c)::k) Q .norm env s:=by
 intro w0 G w a hf hD hS
 refine wp_loop_ghost (fun n a w=>∃(G':Gh) (env:Env) (s:St),G.le G'/\FR N G' a.tmps env/\a.defers=D/\Sim w0 G' w s/\I n env s) n ⟨G,env,s,Gh.le.refl G,hf,hD,hS,h0⟩ ?_
 rintro n a w ⟨G',env,s,hG,hf,hD,hS,hI⟩
 refine wp_mono (hr n env s hI w0 G' w a hf hD hS) ?_
 rintro e a' w' ⟨G'',f,env',s',hG',hx,hf',hD',hS',hq⟩
 cases f with
 |norm=>
  cases e<;>first|exact hx.elim|skip
  obtain⟨m,hm,hI'⟩:=hq
  exact⟨m,hm,G'',env',s',hG.trans hG',hf',hD',hS',hI'⟩
 |ret=>cases e<;>first|exact hx.elim|exact⟨G'',.ret,env',s',hG.trans hG',hx,hf',hD',hS',hq⟩
 |exit i=>cases e<;>first|exact hx.elim|exact⟨G'',.exit i,env',s',hG.trans hG',hx,hf',hD',hS',hq⟩
 |panic x=>cases e<;>first|exact hx.elim|exact⟨G'',.panic x,env',s',hG.trans hG',hx,hf',hD',hS',hq⟩
theorem iw {c:Code}{I I':Env->St->Prop}(hI:∀env s,I env s->I' env s)(h:Kp P N D (.code c::.back I::k) Q .norm env s):Kp P N D (.code c::.back I'::k) Q .norm env s:=by
 intro w0 G w a hf hD hS
 refine wp_mono (h w0 G w a hf hD hS) ?_
 rintro e a' w' ⟨G',f,env',s',hG,hx,hf',hD',hS',hq⟩
 exact⟨G',f,env',s',hG,hx,hf',hD',hS',by cases f<;>first|exact hI _ _ hq|exact hq⟩
def KR (P:Program)(N:Nat)(D:List Deferred)(c:Code)(k:List Itm)(Q:Pst):Nat->Env->St->Prop
 |0=>fun _ _=>False
 |n+1=>fun env s=>Kp P N D (.code c::.back (KR P N D c k Q n)::k) Q .norm env s
theorem CU {c:Code}(n:Nat)(h:KR P N D c k Q n env s):Kp P N D (.code (.loop c)::k) Q .norm env s:=by
 refine bB (fun m env s=>KR P N D c k Q m env s) n h ?_
 intro m env s hm
 cases m with
 |zero=>exact hm.elim
 |succ m=>exact iw (fun env s h=>⟨m,Nat.lt_succ_self m,h⟩) hm
theorem EO {c:Code}(n:Nat)(h:Kp P N D (.code c::.back (KR P N D c k Q n)::k) Q .norm env s):KR P N D c k Q (n+1) env s:=h
theorem ee {c:Code}{s':St}(hf:Fg s s')(h:Kp P N D (.code c::k) Q .norm env s'):Kp P N D (.code c::k) Q .norm env s:=
 fun w0 G w a hfr hD hS=>h w0 G w a hfr hD (hS.forget hf)
end
def sc (P:Program)(env:Env)(s:St):ResultVar->Option VV
 |.tmp t=>some (env t)
 |.cell t T=>gD (qi P T) (env t) s
def iH (P:Program)(env:Env)(s:St):List ResultVar->Option (List VV)
 |[]=>some []
 |r::rs=>match sc P env s r,iH P env s rs with|some x,some xs=>some (x::xs)|_,_=>none
def jS (P:Program)(env:Env)(s:St)(rs:List ResultVar):Option VV:=
 match rs with
 |[r]=>sc P env s r
 |rs=>(iH P env s rs).map .tup
def qX (tmps:Array Value):ResultVar->Sem Value
 |.tmp t=>pure (tmps.getD t undef)
 |.cell a t=>do loadVar t (<- asAddr (tmps.getD a undef))
theorem uY (fn:Func)(tmps:Array Value):results fn tmps=(do
  let vs <- fn.results.mapM (qX tmps)
  pure (if h:vs.size=1 then vs[0] else .tuple vs)):=by
 unfold results
 congr 2
theorem sB {w0 w:World}{G:Gh}{s:St}{env:Env}{tmps:Array Value}(hf:FR N G tmps env)(hS:Sim w0 G w s){r:ResultVar}{x:VV}(h:sc P env s r=some x) :
  ∃v,(qX tmps r).run P w=.ok v w/\R G v x:=by
 cases r with
 |tmp t=>
  simp only[sc,Option.some.injEq]at h
  subst h
  exact⟨_,rfl,hf.rel t⟩
 |cell t T=>
  have hr:=hf.rel t
  obtain⟨v,hrun,hR⟩:=pG (P:=P) hS hr h
  refine⟨v,?_,hR⟩
  generalize hu:tmps.getD t undef=u at hrun
  cases u with
  |pointer a=>
   cases a with
   |some a=>
    simp only[qX,hu,asAddr,Sem.run_bind,Sem.run_pure,Result.andThen_ok]
    simpa [Instr.loadAt,Instr.sureAddr]using hrun
   |none=>simp[Instr.loadAt,Instr.sureAddr]at hrun
  |_=>simp[Instr.loadAt,Instr.sureAddr]at hrun
theorem pF {w0 w:World}{G:Gh}{s:St}{env:Env}{tmps:Array Value}(hf:FR N G tmps env)(hS:Sim w0 G w s):∀(rs:List ResultVar) (xs:List VV),iH P env s rs=some xs ->
  ∃vs:List Value,(rs.mapM (qX tmps)).run P w=.ok vs w/\RL G vs.toArray xs/\vs.length=rs.length
 |[],xs,h=>by
  simp only[iH,Option.some.injEq]at h
  subst h
  exact⟨[],by simp,⟨rfl,by simp⟩,rfl⟩
 |r::rs,xs,h=>by
  simp only[iH]at h
  split at h
  ·rename_i x xs' h1 h2
   simp only[Option.some.injEq]at h
   subst h
   obtain⟨v,hv,hR⟩:=sB (P:=P) hf hS h1
   obtain⟨vs,hvs,hRs,hl⟩:=pF hf hS rs xs' h2
   refine⟨v::vs,?_,⟨by simpa using hRs.1,fun j u y hu hy=>?_⟩,by simp[hl]⟩
   ·rw[List.mapM_cons]
    simp only[Sem.run_bind]
    rw[hv]
    simp only[Result.andThen_ok]
    rw[hvs]
    rfl
   ·cases j with
    |zero=>simp at hu hy;subst hu;subst hy;exact hR
    |succ j=>exact hRs.2 j u y (by simpa using hu) (by simpa using hy)
  ·cases h
theorem Ak {w0 w:World}{G:Gh}{s:St}{env:Env}{tmps:Array Value}{fn:Func}(hf:FR N G tmps env)(hS:Sim w0 G w s){x:VV}(h:jS P env s fn.results.toList=some x) :
  ∃v,(results fn tmps).run P w=.ok v w/\R G v x:=by
 rw[uY,Array.mapM_eq_mapM_toList]
 generalize fn.results.toList=rs at h
 match rs,h with
 |[],h=>
  simp only[jS,iH,Option.map_some,Option.some.injEq]at h
  subst h
  exact⟨.tuple #[],by simp,.tup _ _ rfl (by simp)⟩
 |[r],h=>
  obtain⟨v,hv,hR⟩:=sB (P:=P) hf hS (r:=r) h
  refine⟨v,?_,hR⟩
  simp only[Sem.run_bind,Sem.run_map,List.mapM_cons,List.mapM_nil]
  rw[hv]
  rfl
 |r::r'::rs,h=>
  simp only[jS]at h
  cases hx:iH P env s (r::r'::rs)with
  |none=>simp[hx]at h
  |some xs=>
   simp only[hx,Option.map_some,Option.some.injEq]at h
   subst h
   obtain⟨vs,hvs,hRs,hl⟩:=pF (P:=P) hf hS _ _ hx
   refine⟨.tuple vs.toArray,?_,.tup _ _ hRs.1 hRs.2⟩
   simp only[Sem.run_bind,Sem.run_map]
   rw[hvs]
   simp only[Result.andThen_ok]
   rw[dif_neg (by simp[hl])]
   rfl
def Wk (x y:VV):Prop:=∀(G:Gh) (v:Value),R G v x->R G v y
theorem Wk.refl (x:VV):Wk x x:=fun _ _ h=>h
theorem Wk.lst (xs:List (List VV))(o:Own):Wk (.lst xs o) (.lst xs .no):=fun _ _ h=>h.unown
def Qf (P:Program)(rs:List ResultVar)(Q:SEnd->St->Prop):Pst:=fun f env s=>
 match f with
 |.norm=>∃x,jS P env s rs=some x/\∃y s',Wk x y/\Fg s s'/\Q (.ret y) s'
 |.ret=>∃x,jS P env s rs=some x/\∃y s',Wk x y/\Fg s s'/\Q (.ret y) s'
 |.panic x=>∃s',Fg s s'/\Q (.panic x) s'
 |.exit _=>False
def rz (xs:List VV):Env:=fun i=>(xs[i]?).getD (.tup [])
theorem FR.start {G:Gh}{vs:Array Value}{xs:List VV}{n:Nat}(h:RL G vs xs)(hN:n=vs.size+(n - vs.size)):FR n G (vs++Array.replicate (n - vs.size) undef) (rz xs):=by
 refine⟨by simp;omega,fun i=>?_⟩
 unfold rz
 have hu:R G undef (.tup []):=.tup _ _ rfl (by simp)
 rcases Nat.lt_or_ge i vs.size with hi|hi
 ·have h2:i<xs.length:=by rw[<- h.1];exact hi
  have:(vs++Array.replicate (n - vs.size) undef).getD i undef=vs[i]:=by
   rw[Array.getD_eq_getD_getElem?,Array.getElem?_append_left hi];simp[hi]
  rw[this,b_ h2]
  exact h.2 i _ _ (Array.getElem?_eq_getElem hi) (b_ h2)
 ·have h2:xs[i]?=none:=C_ (by rw[<- h.1];exact hi)
  rw[h2]
  have:(vs++Array.replicate (n - vs.size) undef).getD i undef=undef:=by
   rw[Array.getD_eq_getD_getElem?,Array.getElem?_append_right hi,Array.getElem?_replicate]
   split<;>rfl
  rw[this]
  exact hu
theorem ec {f:FuncId}{fn:Func}{c:Code}{xs:List VV}{s:St}{Q:SEnd->St->Prop}(hf:P.funcs[f]?=some fn)(hb:fn.body=some c)(hN:fn.ntmps=N)(hl:Nat.ble xs.length N=true)
  (h:Kp P N [] [.code c] (Qf P fn.results.toList Q) .norm (rz xs) s):SCalls P f xs s Q:=by
 intro w0 G w vs hS hvs
 subst hN
 have hle:vs.size<=fn.ntmps:=by rw[hvs.1];exact Nat.le_of_ble_eq_true hl
 refine calls_of_wp hf hb (wp_mono (h w0 G w { tmps:=vs++Array.replicate (fn.ntmps - vs.size) undef,defers:=[] } (FR.start hvs (by omega)) rfl hS) ?_)
 rintro e a w' ⟨G',f,env,s',hG,hx,hf',hD,hS',hq⟩
 have fin:(∃x,jS P env s' fn.results.toList=some x/\∃y s'',Wk x y/\Fg s' s''/\Q (.ret y) s'')->a.defers=[]/\∃v,(results fn a.tmps).run P w'=.ok v w' /\
   ∃(G':Gh) (s':St) (x:SEnd),G.le G'/\Sim w0 G' w' s'/\RE G' (.returned v) x/\Q x s':=by
  rintro⟨x,hx,y,s'',hw,hfg,hq⟩
  obtain⟨v,hrun,hR⟩:=Ak (P:=P) (fn:=fn) hf' hS' hx
  exact⟨hD,v,hrun,G',s'',.ret y,hG,hS'.forget hfg,hw _ _ hR,hq⟩
 cases f with
 |norm=>cases e<;>first|exact hx.elim|exact fin hq
 |ret=>cases e<;>first|exact hx.elim|exact fin hq
 |exit i=>cases e<;>first|exact hx.elim|exact hq.elim
 |panic x=>
  cases e<;>first|exact hx.elim|skip
  obtain⟨v,rfl,hv⟩:=hx
  obtain⟨s'',hfg,hq⟩:=hq
  exact⟨hD,G',s'',.panic x,hG,hS'.forget hfg,⟨v,rfl,hv⟩,hq⟩
theorem SCalls.mono {f:FuncId}{xs:List VV}{s:St}{Q Q':SEnd->St->Prop}(h:SCalls P f xs s Q)(hq:∀x s',Q x s'->Q' x s'):SCalls P f xs s Q':=
 fun w0 G w vs hS hvs=>(h w0 G w vs hS hvs).mono fun e w' ⟨G',s',x,h1,h2,h3,h4⟩=>⟨G',s',x,h1,h2,h3,hq x s' h4⟩
theorem am {f:FuncId}{fn:Func}(hf:P.funcs[f]?=some fn)(hn:(fn.name == "runtime.NumGoroutine")=false)(hb:fn.body.isNone=false):au P f:=by
 intro args w
 unfold callFunc
 simp only[Sem.run_bind,run_program,Result.andThen_ok,hf,hn,hb,Bool.false_eq_true,if_false,Sem.run_pure]
end
end Go.Proofs.YteldpmgepfaiiaaGreatDoor
