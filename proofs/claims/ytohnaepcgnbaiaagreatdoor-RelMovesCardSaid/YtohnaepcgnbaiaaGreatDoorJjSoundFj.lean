/- Walks of functions that the claim reaches, and plain facts of them. Conditions: those in the statements. -/
import Derived.Test.YtohnaepcgnbaiaaGreatDoorJjSoundEj
import Derived.Lib.Builder
import Derived.Laws.IdiomStrings
import Derived.Laws.StructEq
import Derived.Laws.MakeOwn
import Derived.ChangeKeysEq
set_option linter.unusedSimpArgs false
set_option linter.unusedVariables false
namespace Go.Proofs.YtohnaepcgnbaiaaGreatDoor
open Go.RowKit
section
variable {P : Program} {N : Nat} {w0 w w' : World} {G G' : Gh} {s s' : St} {a : Act} {env : Env} {D : List Deferred} {k : Env → St → Prop} {E : VV → Env → St → Prop} {o : Oper}
theorem exec_val {S:Sem Value}{v:Value}{x:VV}(hf:FR N G a.tmps env)(hD:a.defers=D)(hex:execOp a.eval o=(do pure (Next.value (← S))))(hrun:S.run P w=.ok v w')
  (hG:G.le G') (hR:R G' v x) (hS:Sim w0 G' w' s') (hk:k (put N env o.dst x) s'):o.wp P a w (Nx N w0 G D k) (Px N w0 G D E):=
 wp_value hf hD (by rw[hex];exact exec_v hrun) hG hR hS hk
theorem optB_some {α:Type}{k:α→Prop}{x:Option α}(h:optB k x):∃y,x=some y∧k y:=by
 cases x with
 |none=>exact h.elim
 |some y=>exact⟨y,rfl,h⟩
theorem eqg_int (op:BinOp)(T:TypeId)(x y:Operand)(k k':IntKind)(a b:Int):(eqGuard op T x y (.int k a) (.int k' b)).run P w=.ok () w:=by cases op<;>rfl
theorem eqg_str (op:BinOp)(T:TypeId)(x y:Operand)(a b:ByteArray):(eqGuard op T x y (.string a) (.string b)).run P w=.ok () w:=by cases op<;>rfl
theorem eqg_bool (op:BinOp)(T:TypeId)(x y:Operand)(a b:Bool):(eqGuard op T x y (.bool a) (.bool b)).run P w=.ok () w:=by cases op<;>rfl
theorem Sim.new {w0 w:World}{G:Gh}{s:St}(h:Sim w0 G w s):New s w.heap.size:=⟨h.fresh,fun _ hx=>h.lt hx⟩
theorem run_binOp_int {op:BinOp}{T:TypeId}{kd kd':IntKind}{x y:Int}{z:VV}(hk:kd=kd'∨isSh op=true)(h:vint op kd x y=some z):∃v,(binOp op T (.int kd x) (.int kd' y)).run P w=.ok v w∧R G v z:=by
 have hb:∀b:Bool,R G (.bool b) (.bool b):=fun b=>.bool b
 cases op<;>simp only[vint,Option.some.injEq,reduceCtorEq]at h
 case shl=>
  split at h<;>cases h
  rename_i hy
  exact⟨.int kd (kd.wrap (x * 2 ^ (min y.toNat kd.bits))),by simp[binOp,Op.shift,Int.not_lt.2 hy],.int _ _⟩
 case shr=>
  split at h<;>cases h
  rename_i hy
  exact⟨.int kd (x.fdiv (2 ^ (min y.toNat kd.bits))),by simp[binOp,Op.shift,Int.not_lt.2 hy],.int _ _⟩
 all_goals(simp only[isSh,Bool.false_eq_true,or_false]at hk;subst hk)
 case quo=>
  split at h<;>cases h
  rename_i hy
  exact⟨.int kd (kd.wrap (x.tdiv y)),by simp[binOp,Op.intDiv,hy],.int _ _⟩
 case rem=>
  split at h<;>cases h
  rename_i hy
  exact⟨.int kd (x.tmod y),by simp[binOp,Op.intDiv,hy],.int _ _⟩
 case and=>subst h;exact⟨.int kd (bAnd kd x y),by simp[binOp,Op.intBits,bAnd],.int _ _⟩
 case or=>subst h;exact⟨.int kd (bOr kd x y),by simp[binOp,Op.intBits,bOr],.int _ _⟩
 case xor=>subst h;exact⟨.int kd (bXor kd x y),by simp[binOp,Op.intBits,bXor],.int _ _⟩
 case andNot=>subst h;exact⟨.int kd (bAndNot kd x y),by simp[binOp,Op.intBits,bAndNot],.int _ _⟩
 case add=>subst h;exact⟨.int kd (kd.wrap (x+y)),by simp[binOp,Op.intArith],.int _ _⟩
 case sub=>subst h;exact⟨.int kd (kd.wrap (x - y)),by simp[binOp,Op.intArith],.int _ _⟩
 case mul=>subst h;exact⟨.int kd (kd.wrap (x * y)),by simp[binOp,Op.intArith],.int _ _⟩
 case eql=>subst h;exact⟨.bool (x == y),by simp[binOp,Op.intCmp],by rw[show (x == y)=decide (x=y) by rw[Bool.eq_iff_iff];simp];exact hb _⟩
 case neq=>subst h;exact⟨.bool (x != y),by simp[binOp,Op.intCmp],by rw[show (x != y)=!decide (x=y) by rw[Bool.eq_iff_iff];simp];exact hb _⟩
 case lss=>subst h;exact⟨.bool (decide (x<y)),by simp[binOp,Op.intCmp],hb _⟩
 case leq=>subst h;exact⟨.bool (decide (x≤y)),by simp[binOp,Op.intCmp],hb _⟩
 case gtr=>subst h;exact⟨.bool (decide (y<x)),by simp[binOp,Op.intCmp],hb _⟩
 case geq=>subst h;exact⟨.bool (decide (y≤x)),by simp[binOp,Op.intCmp],hb _⟩
theorem run_eq_bool {T:TypeId}(hd:P.underlying T=some .bool)(d:Nat)(a b:Bool):(Op.equalIn (d+1) T (.bool a) (.bool b)).run P w=.ok (a == b) w:=by
 simp[Op.equalIn,run_underlying hd]
theorem run_eq_ptr {T:TypeId}(hp:pok P T=true)(a:Addr)(w:World):(Op.equal T (.pointer (some a)) (.pointer (some a))).run P w=.ok true w:=by
 unfold pok at hp
 split at hp<;>first|(cases hp;done)|skip
 rename_i te hd
 split at hp<;>first|(cases hp;done)|skip
 rename_i j hj
 have h:∀d:Nat,(Op.equalIn (d+1) T (.pointer (some a)) (.pointer (some a))).run P w=.ok true w:=fun d=>by
  simp[Op.equalIn,run_underlying hd,sizeOf,typeInfo,hj,run_sameAddr_same]
 exact h 9999
theorem unbytes_some:∀{xs:List (List VV)} {l:List UInt8},unbytes xs=some l→xs=bytesV l
 |[],l,h=>by simp only[unbytes]at h;injection h with h;subst h;rfl
 |x::r,l,h=>by
  unfold unbytes at h
  split at h
  ·rename_i he;cases he
  ·rename_i n r' he
   injection he with e1 e2
   subst e1;subst e2
   split at h
   ·rename_i hn
    cases hu:unbytes r with
    |none=>rw[hu]at h;cases h
    |some l'=>
     rw[hu]at h
     injection h with h
     subst h
     have:=unbytes_some hu
     have e:((UInt8.ofNat n.toNat).toNat:Int)=n:=by simp[UInt8.toNat_ofNat'];omega
     simp only[bytesV,List.map_cons,e]
     rw[this];rfl
   ·cases h
  ·cases h
theorem slice_und {T e:TypeId}(h:(qi P T).k=.slice e):P.underlying T=some (.slice e):=by
 unfold qi at h
 split at h
 ·rename_i d i hd hi
  have:qkOf d=.slice e:=by split at h<;>exact h
  cases d<;>simp[qkOf]at this
  subst this;exact hd
 ·cases h
theorem str_und {T:TypeId}(h:(qi P T).k=.str):P.underlying T=some .string:=by
 unfold qi at h
 split at h
 ·rename_i d i hd hi
  have:qkOf d=.str:=by split at h<;>exact h
  cases d<;>simp[qkOf]at this
  exact hd
 ·cases h
theorem run_vconv {src dst:TypeId}{u:Value}{x z:VV}(hS:Sim w0 G w s)(hx:R G u x)(h:vconv P src dst x s=some z):∃v,(convert src dst u).run P w=.ok v w∧R G v z:=by
 cases hx<;>first|(cases h;done)|skip
 case int k n=>
  simp only[vconv]at h
  split at h<;>first|(cases h;done)|skip
  rename_i k1 k' h1 h2
  injection h with h
  subst h
  have e1:=kind_int h1
  have e2:=kind_int h2
  exact⟨.int k' (k'.wrap n),by simp[convert,run_underlying e1,run_underlying e2,Conv.intToInt],.int _ _⟩
 case emp a cap o ho=>
  simp only[vconv]at h
  split at h<;>first|(cases h;done)|skip
  rename_i e he hd
  split at h<;>first|(cases h;done)|skip
  rename_i hu
  have hu8:P.underlying e=some (.int .u8):=kind_int (by
   cases hk:(qi P e).k with
   |int k=>rw[hk]at hu;cases k<;>first|rfl|cases hu
   |_=>rw[hk]at hu;cases hu)
  injection h with h
  subst h
  cases a with
  |none=>exact⟨.string ⟨#[]⟩,by rw[run_convert_bytes_string w src dst e none 0 cap (slice_und he) hu8 (str_und hd)];rfl,.str #[]⟩
  |some a=>exact⟨.string ⟨#[]⟩,run_convert_bytes_back w src dst e a cap [] (slice_und he) hu8 (str_und hd) (fun j hj=>by simp at hj),.str #[]⟩
 case lst b off len cap sz xs o f hl hc hz h1 hK hR ho=>
  simp only[vconv]at h
  split at h<;>first|(cases h;done)|skip
  rename_i e he hd
  split at h<;>first|(cases h;done)|skip
  rename_i hu
  have hu8:P.underlying e=some (.int .u8):=kind_int (by
   cases hk:(qi P e).k with
   |int k=>rw[hk]at hu;cases k<;>first|rfl|cases hu
   |_=>rw[hk]at hu;cases hu)
  cases hub:unbytes xs with
  |none=>rw[hub]at h;cases h
  |some l=>
   rw[hub]at h
   injection h with h
   subst h
   have hxs:=unbytes_some hub
   subst hxs
   have hlen:l.length=len:=by rw[← hl];simp[bytesV]
   subst hlen
   refine⟨.string ⟨l.toArray⟩,run_convert_bytes_back w src dst e ⟨b,off,none⟩ cap l (slice_und he) hu8 (str_und hd) (fun j hj=>?_),by
    have:=R.str (G:=G) l.toArray
    simpa using this⟩
   have hx1:(bytesV l)[j]?=some [.int .u8 (l[j].toNat:Int)]:=by simp[bytesV,List.getElem?_eq_getElem hj]
   have hsz:sz=1:=by
    have:=hz _ (List.mem_of_getElem? hx1)
    simpa using this.symm
   subst hsz
   have h2:=hS.K _ _ _ (hK j 0 hj (by omega))
   have h3:=hR j 0 _ _ hx1 rfl
   generalize f j 0=v at h2 h3
   cases h3
   have h4:w.cell? ⟨b,off+j,none⟩=some (.int .u8 (l[j].toNat:Int)):=by simpa using h2
   by_cases hj0:j=0
   ·subst hj0;simpa [Addr.add]using h4
   ·simpa [Addr.add,hj0]using h4
 case ptr b off=>
  simp only[vconv]at h
  split at h<;>first|(cases h;done)|skip
  rename_i T xs hb
  split at h<;>first|(cases h;done)|skip
  rename_i hc
  injection h with h
  subst h
  have ho:=hS.ok b
  rw[hb]at ho
  obtain⟨_,_,c,hh,hsz,_⟩:=ho
  have hsh:w.shape? b=some (T,xs.length):=by simp[World.shape?,hh,hsz]
  refine⟨.pointer (some ⟨b,off,none⟩),?_,.ptr _ _⟩
  unfold cvok at hc
  split at hc<;>first|(cases hc;done)|skip
  ·rename_i t hs hd
   split at hc<;>first|(cases hc;done)|skip
   rename_i j hj
   simp only[Bool.and_eq_true,bne_iff_ne,ne_eq,decide_eq_true_eq]at hc
   exact Lib.run_to_unsafe w ⟨b,off,none⟩ hs hd hj hc.1 hsh hc.2
  ·rename_i u hs hd
   simp only[Bool.and_eq_true,Option.isSome_iff_exists]at hc
   obtain⟨⟨j,hj⟩,hl⟩:=hc
   exact Lib.run_from_unsafe w ⟨b,off,none⟩ hs hd hj hsh hl
theorem bin_nil {T:TypeId}{A B:Value}{b:Bool}(hE:(Op.equal T A B).run P w=.ok b w)(h1:binOp .eql T A B=(do pure (.bool (← Op.equal T A B))))(h2:binOp .neq T A B=(do pure (.bool (!(← Op.equal T A B))))) :
  (binOp .eql T A B).run P w=.ok (.bool b) w∧(binOp .neq T A B).run P w=.ok (.bool !b) w:=by
 rw[h1,h2]
 constructor<;>simp only[Sem.run_bind,hE,Result.andThen_ok,Sem.run_pure]
theorem run_nil {G:Gh}{T:TypeId}{u u':Value}{x y:VV}{b:Bool}{op:BinOp}{ox oy:Operand}(hx:R G u x)(hy:R G u' y)(h:nilB (qi P T).k x y=some b)(hc:oy.isConst=true) :
  (eqGuard op T ox oy u u').run P w=.ok () w∧(binOp .eql T u u').run P w=.ok (.bool b) w∧(binOp .neq T u u').run P w=.ok (.bool !b) w:=by
 have ki:∀k,(qi P T).k=k→k≠.other→∃d,P.underlying T=some d∧qkOf d=k:=fun k hk hne=>by
  obtain⟨d,i,hd,hi,hkT,_⟩:=qi_spec (P:=P) T (.inr (.inl (by rw[hk];exact hne)))
  exact⟨d,hd,by rw[← hk,hkT]⟩
 have main:∀(u u':Value),(∀d,(Op.equalIn (d+1) T u u').run P w=.ok b w)→(Op.equal T u u').run P w=.ok b w:=fun u u' h=>h 9999
 cases oy with
 |const c=>
  generalize hk:(qi P T).k=k at h
  unfold nilB at h
  split at h<;>first|(cases h;done)|skip
  all_goals
   injection h with h
   subst h
   cases hx
   cases hy
   obtain⟨d,hd,hq⟩:=ki _ hk (by simp)
   refine⟨by cases op<;>first|rfl|simp[eqGuard],?_⟩
   refine bin_nil (main _ _ fun d'=>?_) rfl rfl
   cases d<;>simp[qkOf]at hq<;>simp[Op.equalIn,run_underlying hd]
 |_=>cases hc
theorem run_part1 {T:TypeId}{xs:Array Value}{off:Nat}{v:Value}(hk:cmpK (qi P T).k=true)(hx:xs[off]?=some v):(part T xs off).run P w=.ok v w:=by
 obtain⟨d,i,hd,hi,hkT,_⟩:=qi_spec (P:=P) T (.inr (.inl (by intro e;rw[e]at hk;cases hk)))
 rw[hkT]at hk
 have hag:(qkOf d).agg=false:=by cases hq:qkOf d<;>rw[hq]at hk<;>first|rfl|cases hk
 unfold part
 simp[Sem.run_bind,run_isAgg hd,Result.andThen_ok,hag,hx]
theorem run_eq1 {G:Gh}{T:TypeId}{x y:VV}{v u:Value}{b:Bool}(e:Nat)(hx:R G v x)(hy:R G u y)(h:eq1 (qi P T).k x y=some b):(Op.equalIn (e+1) T v u).run P w=.ok b w:=by
 have ki:∀k,(qi P T).k=k→k≠.other→∃d,P.underlying T=some d∧qkOf d=k:=fun k hk hne=>by
  obtain⟨d,i,hd,hi,hkT,_⟩:=qi_spec (P:=P) T (.inr (.inl (by rw[hk];exact hne)))
  exact⟨d,hd,by rw[← hk,hkT]⟩
 generalize hk:(qi P T).k=k at h
 unfold eq1 at h
 split at h
 ·rename_i k0 p a q b'
  split at h
  ·rename_i hpq
   injection h with h
   subst h;subst hpq
   cases hx;cases hy
   obtain⟨d,hd,hq⟩:=ki _ hk (by simp)
   cases d<;>simp[qkOf]at hq
   rw[run_equalIn_int w e T _ _ _ _ hd]
   congr 1
  ·cases h
 ·injection h with h
  subst h
  obtain⟨d,hd,hq⟩:=ki _ hk (by simp)
  cases d<;>simp[qkOf]at hq
  cases hx with
  |str a=>
   cases hy with
   |str b=>
    rw[run_equalIn_string w e T _ _ hd,ByteArray.toList_eq,ByteArray.toList_eq]
    congr 1
    rw[Bool.eq_iff_iff];simp
 ·injection h with h
  subst h
  cases hx;cases hy
  obtain⟨d,hd,hq⟩:=ki _ hk (by simp)
  cases d<;>simp[qkOf]at hq
  rw[run_equalIn_bool' w e T _ _ hd]
 ·cases h
theorem run_eqF {G:Gh}{vs us:Array Value}(e:Nat):∀(fs:List Field) (i:Nat) (xs ys:List VV) (b:Bool),flatF P i fs=true →
  (∀(j:Nat) (y:VV),xs[j]?=some y→∃v,vs[i+j]?=some v∧R G v y)→(∀(j:Nat) (y:VV),ys[j]?=some y→∃v,us[i+j]?=some v∧R G v y) →
  eqF (fs.map fun f=>(qi P f.type).k) xs ys=some b→(Op.eqFields (e+1) vs us fs).run P w=.ok b w
 |[],i,xs,ys,b,_,hx,hy,h=>by
  cases xs<;>cases ys<;>simp[eqF]at h
  subst h
  simp[Op.eqFields]
 |f::fs,i,xs,ys,b,hf,hx,hy,h=>by
  cases xs with
  |nil=>simp[eqF]at h
  |cons x xs=>
   cases ys with
   |nil=>simp[eqF]at h
   |cons y ys=>
    simp only[flatF,Bool.and_eq_true,bne_iff_ne,ne_eq,beq_iff_eq]at hf
    obtain⟨⟨⟨h1,h2⟩,h3⟩,h4⟩:=hf
    simp only[List.map_cons,eqF]at h
    cases hr:eq1 (qi P f.type).k x y with
    |none=>rw[hr]at h;simp at h
    |some r=>
     rw[hr]at h
     simp only[Option.bind_some]at h
     cases hz:eqF (fs.map fun f=>(qi P f.type).k) xs ys with
     |none=>rw[hz]at h;simp at h
     |some z=>
      rw[hz]at h
      simp only[Option.map_some]at h
      injection h with h
      obtain⟨v,hv,rv⟩:=hx 0 x rfl
      obtain⟨u,hu,ru⟩:=hy 0 y rfl
      rw[Nat.add_zero]at hv hu
      have ih:=run_eqF e fs (i+1) xs ys z h4 (fun j q hq=>by have:=hx (j+1) q (by simpa using hq);rwa [show i+1+j=i+(j+1) by omega]) (fun j q hq=>by have:=hy (j+1) q (by simpa using hq);rwa [show i+1+j=i+(j+1) by omega]) hz
      simp only[Op.eqFields]
      rw[if_pos h1,h2]
      simp only[Sem.run_bind,run_part1 (w:=w) h3 hv,run_part1 (w:=w) h3 hu,Result.andThen_ok,run_eq1 (P:=P) (w:=w) e rv ru hr]
      cases r with
      |false=>simp at h;subst h;simp
      |true=>simp at h;subst h;simpa using ih
theorem run_eqI {G:Gh}{vs us:Array Value}{T:TypeId}(e:Nat)(hc:cmpK (qi P T).k=true):∀(n i:Nat) (xs ys:List VV) (b:Bool),
  (∀(j:Nat) (y:VV),xs[j]?=some y→∃v,vs[i+j]?=some v∧R G v y)→(∀(j:Nat) (y:VV),ys[j]?=some y→∃v,us[i+j]?=some v∧R G v y) →
  eqF (List.replicate n (qi P T).k) xs ys=some b→(Op.eqItems (e+1) T 1 vs us (List.range' i n)).run P w=.ok b w
 |0,i,xs,ys,b,hx,hy,h=>by
  cases xs<;>cases ys<;>simp[eqF]at h
  subst h
  simp[Op.eqItems]
 |n+1,i,xs,ys,b,hx,hy,h=>by
  rw[List.replicate_succ]at h
  cases xs with
  |nil=>simp[eqF]at h
  |cons x xs=>
   cases ys with
   |nil=>simp[eqF]at h
   |cons y ys=>
    simp only[eqF]at h
    cases hr:eq1 (qi P T).k x y with
    |none=>rw[hr]at h;simp at h
    |some r=>
     rw[hr]at h
     simp only[Option.bind_some]at h
     cases hz:eqF (List.replicate n (qi P T).k) xs ys with
     |none=>rw[hz]at h;simp at h
     |some z=>
      rw[hz]at h
      simp only[Option.map_some]at h
      injection h with h
      obtain⟨v,hv,rv⟩:=hx 0 x rfl
      obtain⟨u,hu,ru⟩:=hy 0 y rfl
      rw[Nat.add_zero]at hv hu
      have ih:=run_eqI e hc n (i+1) xs ys z (fun j q hq=>by have:=hx (j+1) q (by simpa using hq);rwa [show i+1+j=i+(j+1) by omega]) (fun j q hq=>by have:=hy (j+1) q (by simpa using hq);rwa [show i+1+j=i+(j+1) by omega]) hz
      rw[List.range'_succ]
      simp only[Op.eqItems,Nat.mul_one]
      simp only[Sem.run_bind,run_part1 (w:=w) hc hv,run_part1 (w:=w) hc hu,Result.andThen_ok,run_eq1 (P:=P) (w:=w) e rv ru hr]
      cases r with
      |false=>simp at h;subst h;simp
      |true=>simp at h;subst h;simpa using ih
theorem run_agq {G:Gh}{T:TypeId}{vs us:Array Value}{xs ys:List VV}{b:Bool}{op:BinOp}{ox oy:Operand}(hx:R G (.agg vs) (.agg xs))(hy:R G (.agg us) (.agg ys))(h:vagq P T xs ys=some b) :
  (eqGuard op T ox oy (.agg vs) (.agg us)).run P w=.ok () w∧(binOp .eql T (.agg vs) (.agg us)).run P w=.ok (.bool b) w∧(binOp .neq T (.agg vs) (.agg us)).run P w=.ok (.bool !b) w:=by
 unfold vagq at h
 cases hk:ek P T with
 |none=>rw[hk]at h;simp at h
 |some ks=>
  rw[hk]at h
  simp only[Option.bind_some]at h
  unfold ek at hk
  split at hk
  ·rename_i fs hT
   split at hk
   ·rename_i hc
    injection hk with hk
    subst hk
    simp only[Bool.and_eq_true,Bool.not_eq_true']at hc
    obtain⟨⟨c1,c2⟩,c3⟩:=hc
    have hfo:P.fieldsOf T=fs:=by unfold Program.fieldsOf;rw[hT]
    have hT':P.underlying T=some (.struct (P.fieldsOf T)):=by rw[hfo];exact hT
    have ha:∀(vs:Array Value) (xs:List VV),R G (.agg vs) (.agg xs)→∀(j:Nat) (y:VV),xs[j]?=some y→∃v,vs[0+j]?=some v∧R G v y:=by
     intro vs xs hx j y hj
     cases hx with
     |agg _ _ hs h1 hR=>
      have hlt:j<vs.size:=by rw[hs];exact(List.getElem?_eq_some_iff.1 hj).1
      rw[Nat.zero_add]
      exact⟨vs[j],Array.getElem?_eq_getElem hlt,hR j _ _ (Array.getElem?_eq_getElem hlt) hj⟩
    have hE:=run_eqF (P:=P) (w:=w) (G:=G) (vs:=vs) (us:=us) 9998 fs.toList 0 xs ys b c3 (ha _ _ hx) (ha _ _ hy) h
    have hE2:(Op.equalIn 10000 T (.agg vs) (.agg us)).run P w=.ok b w:=by
     rw[run_equalIn_agg w 9999 T vs us hT' c1,hfo];exact hE
    refine⟨run_eqGuard_agg w op T ox oy vs us c2,?_,?_⟩
    ·rw[run_eql_struct,hE2];rfl
    ·rw[run_neq_struct,hE2];rfl
   ·cases hk
  ·rename_i n e hT
   split at hk
   ·rename_i hc
    injection hk with hk
    subst hk
    simp only[Bool.and_eq_true,Bool.not_eq_true',beq_iff_eq]at hc
    obtain⟨⟨c1,c2⟩,c3⟩:=hc
    obtain⟨d',i',hd',hi',_,_,_⟩:=qi_spec (P:=P) e (.inr (.inl (by intro x;rw[x]at c2;cases c2)))
    have ha:∀(vs:Array Value) (xs:List VV),R G (.agg vs) (.agg xs)→∀(j:Nat) (y:VV),xs[j]?=some y→∃v,vs[0+j]?=some v∧R G v y:=by
     intro vs xs hx j y hj
     cases hx with
     |agg _ _ hs h1 hR=>
      have hlt:j<vs.size:=by rw[hs];exact(List.getElem?_eq_some_iff.1 hj).1
      rw[Nat.zero_add]
      exact⟨vs[j],Array.getElem?_eq_getElem hlt,hR j _ _ (Array.getElem?_eq_getElem hlt) hj⟩
    have hE:=run_eqI (P:=P) (w:=w) (G:=G) (vs:=vs) (us:=us) (T:=e) 9998 c2 n 0 xs ys b (ha _ _ hx) (ha _ _ hy) h
    have hE2:(Op.equalIn 10000 T (.agg vs) (.agg us)).run P w=.ok b w:=by
     rw[run_equalIn_array w 9999 vs us hT hi',c3,List.range_eq_range'];exact hE
    refine⟨run_eqGuard_agg w op T ox oy vs us c1,?_,?_⟩
    ·rw[run_eql_struct,hE2];rfl
    ·rw[run_neq_struct,hE2];rfl
   ·cases hk
  ·cases hk
theorem str_beq (a b:Array UInt8):((⟨a⟩:ByteArray).toList == (⟨b⟩:ByteArray).toList)=decide (a.toList=b.toList):=by
 rw[ByteArray.toList_eq,ByteArray.toList_eq]
 rw[Bool.eq_iff_iff]
 simp
theorem RL.map {N:Nat}{a:Act}(hf:FR N G a.tmps env)(l:List Operand):RL G (l.map a.eval).toArray (l.map (rd env)):=
 ⟨by simp,fun j v y hv hy=>by
  rw[List.getElem?_toArray,List.getElem?_map]at hv
  rw[List.getElem?_map]at hy
  cases hj:l[j]? with
  |none=>simp[hj]at hv
  |some x=>
   simp[hj]at hv hy
   subst hv;subst hy
   exact hf.eval x⟩
theorem RL.append {vs us:Array Value}{xs ys:List VV}(h:RL G vs xs)(h':RL G us ys):RL G (vs++us) (xs++ys):=
 ⟨by simp[h.1,h'.1],fun j v y hv hy=>by
  rcases Nat.lt_or_ge j vs.size with hj|hj
  ·rw[Array.getElem?_append_left hj]at hv
   rw[List.getElem?_append_left (by rw[← h.1];exact hj)]at hy
   exact h.2 j v y hv hy
  ·rw[Array.getElem?_append_right hj]at hv
   rw[List.getElem?_append_right (by rw[← h.1];exact hj)]at hy
   rw[h.1]at hv
   exact h'.2 _ v y hv hy⟩
theorem sound_call {c:Call}{f:Operand}(hf:FR N G a.tmps env)(hD:a.defers=D)(hS:Sim w0 G w s)(ho:o.op=.call c)(hc:c.callee=.value f)
  (h:vcall P N E o.dst k env s (rd env f) (c.args.toList.map (rd env))):o.wp P a w (Nx N w0 G D k) (Px N w0 G D E):=by
 obtain⟨g,caps,Q,hfn,hcx,hr,hp⟩:=h
 have hv:=hf.eval f
 rw[hfn]at hv
 generalize hev:a.eval f=fv at hv
 cases hv with
 |fn g vs xs hs hR=>
  have hargs:RL G ((c.args.map a.eval)++vs) (c.args.toList.map (rd env)++caps):=by
   have h1:=RL.map hf c.args.toList
   have e:(c.args.toList.map a.eval).toArray=c.args.map a.eval:=by
    apply Array.toList_inj.1;simp
   rw[e]at h1
   exact h1.append ⟨hs,hR⟩
  have hex:(execOp a.eval o).run P w=(callFunc g ((c.args.map a.eval)++vs)).run P w:=by
   unfold execOp
   simp only[ho,resolve,hc,hev,Deferred.ofValue,Sem.run_bind,Sem.run_pure,Result.andThen_ok,invoke]
   rw[Array.empty_append]
  rcases hcx with ⟨hcall,hcs⟩|hx
  ·have hrun:=hex.trans (hcall _ _)
   unfold Oper.wp
   rw[hrun,Oper.upon_enter]
   refine(hcs w0 G w _ hS hargs).mono ?_
   rintro e w' ⟨G',s',x,hG,hS',hE,hQ⟩
   cases e with
   |returned v=>
    cases x with
    |ret x=>exact⟨G',_,s',hG,(hf.mono hG).put o.dst hE,(put_defers _ _ _).trans hD,hS',hr x s' hQ⟩
    |panic x=>exact hE.elim
   |panicked ch=>
    cases x with
    |ret x=>exact hE.elim
    |panic x=>
     obtain⟨v,rfl,hv⟩:=hE
     exact⟨G',env,s',v,x,rfl,hv,hG,hf.mono hG,hD,hS',hp x s' hQ⟩
   |outgrown=>cases x<;>exact hE.elim
  ·obtain⟨v,w',G',s',y,hrun,hG,hS',hR,hQ⟩:=hx w0 G w _ hS hargs
   exact wp_value hf hD (hex.trans hrun) hG hR hS' (hr y s' hQ)
theorem RO.map {N:Nat}{a:Act}(hf:FR N G a.tmps env)(x:Option Operand):RO G (x.map a.eval) (x.map (rd env)):=by
 cases x with
 |none=>trivial
 |some x=>exact hf.eval x
theorem parts_map {N:Nat}{a:Act}(hf:FR N G a.tmps env)(parts:Array (Nat×Operand)) :
  (parts.map fun(i,x)=>(i,a.eval x)).size=(parts.toList.map fun p=>(p.1,rd env p.2)).length ∧
  ∀(i:Nat) (p:Nat×VV) (q:Nat×Value),(parts.toList.map fun p=>(p.1,rd env p.2))[i]?=some p→(parts.map fun(i,x)=>(i,a.eval x))[i]?=some q→p.1=q.1∧R G q.2 p.2:=by
 refine⟨by simp,fun i p q hp hq=>?_⟩
 rw[List.getElem?_map]at hp
 rw[Array.getElem?_map]at hq
 rw[Array.getElem?_toList]at hp
 cases hj:parts[i]? with
 |none=>simp[hj]at hp
 |some r=>
  simp[hj]at hp hq
  subst hp;subst hq
  exact⟨rfl,hf.eval r.2⟩
set_option maxHeartbeats 2000000 in
theorem step_sound (hf:FR N G a.tmps env)(hD:a.defers=D)(hS:Sim w0 G w s)(h:vstep P N E o k env s):o.wp P a w (Nx N w0 G D k) (Px N w0 G D E):=by
 have hle:=Gh.le.refl G
 unfold vstep at h
 split at h
 ·rename_i x ho
  exact wp_value hf hD (by unfold execOp;rw[ho];rfl) hle (hf.eval x) hS h
 ·rename_i x ho
  exact wp_value hf hD (by unfold execOp;rw[ho];rfl) hle (hf.eval x) hS h
 ·
  rename_i c x y ho
  split at h
  ·rename_i t hc
   have hv:=hf.eval c
   rw[hc]at hv
   generalize hev:a.eval c=cv at hv
   cases hv
   refine wp_value hf hD (v:=if t then a.eval x else a.eval y) (by unfold execOp;rw[ho];simp[hev,asBool]) hle ?_ hS h
   cases t
   ·exact hf.eval y
   ·exact hf.eval x
  ·exact h.elim
 ·
  rename_i T ho
  obtain⟨hz,h⟩:=h
  obtain⟨z,i,d,hi,hd,hk,hs,hzz,hpos,hzs,hag,hrl⟩:=RLs.zero (P:=P) (G:=G) hz
  refine exec_val hf hD (S:=Instr.alloc T true (.tuple #[])) (by unfold execOp;rw[ho]) (v:=.pointer (some ⟨w.heap.size,0,none⟩)) (w':=w.alloc (.cells z.cells T)) ?_ hle (.ptr _ _)
   (hS.alloc_obj T z.cells (qi P T).z hrl.1 (fun j x hx=>?_)) (h _ hS.new)
  ·unfold Instr.alloc
   simp only[Sem.run_bind,zeroValue,typeInfo,run_program,Result.andThen_ok,hi,Sem.run_pure,hzz,newVar,newRow,run_newObj]
   rfl
  ·have hlt:j<z.cells.size:=by rw[hrl.1];exact(List.getElem?_eq_some_iff.1 hx).1
   exact⟨hrl.2.1 x (List.mem_iff_getElem?.2 ⟨j,hx⟩),z.cells[j],Array.getElem?_eq_getElem hlt,hrl.2.2 j _ x (Array.getElem?_eq_getElem hlt) hx⟩
 ·
  rename_i T x ho
  obtain⟨h1,h⟩:=h
  have hrl:=RLs.of_cells (hf.eval x) h1
  refine exec_val hf hD (S:=Instr.box T (a.eval x)) (by unfold execOp;rw[ho]) (v:=.pointer (some ⟨w.heap.size,0,none⟩)) (w':=w.alloc (.cells (a.eval x).cells T)) ?_ hle (.ptr _ _)
   (hS.alloc_obj T _ _ hrl.1 (fun j y hy=>?_)) (h _ hS.new)
  ·simp only[Instr.box,newVar,newRow,Sem.run_bind,run_newObj,Result.andThen_ok,Sem.run_pure]
   rfl
  ·have hlt:j<(a.eval x).cells.size:=by rw[hrl.1];exact(List.getElem?_eq_some_iff.1 hy).1
   exact⟨hrl.2.1 y (List.mem_iff_getElem?.2 ⟨j,hy⟩),(a.eval x).cells[j],Array.getElem?_eq_getElem hlt,hrl.2.2 j _ y (Array.getElem?_eq_getElem hlt) hy⟩
 ·
  rename_i T parts ho
  obtain⟨hfk,hz,h⟩:=h
  obtain⟨cs,hcs,h⟩:=optB_some h
  obtain⟨hl,hp⟩:=parts_map hf parts
  obtain⟨vs,hrun,hrl⟩:=run_build (P:=P) (w:=w) hz hl hp hcs hfk
  exact exec_val hf hD (by unfold execOp;rw[ho]) hrun hle (.agg _ _ hrl.1 hrl.2.1 hrl.2.2) hS h
 ·
  rename_i T len parts ho
  obtain⟨hlen,hz,hbig,hk,h⟩:=h
  obtain⟨xs,hxs,h⟩:=optB_some h
  obtain⟨hl,hp⟩:=parts_map hf parts
  cases hkk:(qi P T).k<;>rw[hkk]at hk<;>first|exact hk.elim|skip
  rename_i e
  have he:elemT (qi P T)=e:=by simp[elemT,hkk]
  rw[he]at hz hbig hxs
  by_cases hmu:mutL T o.pos=true
  ·rw[if_pos hmu,he]at h
   obtain⟨h0,h⟩:=h
   obtain⟨v,w',G',hrun,hG,hfr,hS',hR⟩:=run_buildSliceM (P:=P) (T:=T) (len:=len) hS hkk hz (by simpa using hlen) h0 hbig hl hp hxs
   exact exec_val hf hD (by unfold execOp;rw[ho]) hrun hG hR hS' (h _ hfr)
  ·rw[if_neg hmu]at h
   obtain⟨v,w',G',hrun,hG,hS',hR⟩:=run_buildSlice (P:=P) (T:=T) (len:=len) hS hkk hz (by simpa using hlen) hbig hl hp hxs
   exact exec_val hf hD (by unfold execOp;rw[ho]) hrun hG hR hS' h
 ·
  rename_i T x ho
  obtain⟨y,hy,h⟩:=optB_some h
  obtain⟨v,hrun,hR⟩:=run_vload (P:=P) hS (hf.eval x) hy
  exact exec_val hf hD (by unfold execOp;rw[ho]) hrun hle hR hS h
 ·
  rename_i T x y ho
  obtain⟨s',hs,h⟩:=optB_some h
  obtain⟨w',hrun,hS'⟩:=run_vstore (P:=P) hS (hf.eval x) (hf.eval y) hs
  exact wp_skip' hf hD (by unfold execOp;rw[ho];simp[hrun]) hle hS' h
 ·
  rename_i x ho
  obtain⟨h1,h⟩:=h
  refine wp_value hf hD (v:=a.eval x) ?_ hle (hf.eval x) hS h
  have hv:=hf.eval x
  cases hx:rd env x<;>rw[hx]at h1 hv<;>first|exact h1.elim|skip
  all_goals
   generalize hu:a.eval x=u at hv
   cases hv
   simp[execOp,ho,hu]
 ·
  rename_i op T x y T' ho
  have hx:=hf.eval x
  have hy:=hf.eval y
  have hex:execOp a.eval o=(do pure (Next.value (← (do eqGuard op T x y (a.eval x) (a.eval y);binOp op T (a.eval x) (a.eval y))))):=by unfold execOp;rw[ho]
  split at h
  ·rename_i kd p kd' q e1 e2
   obtain⟨hkk,h⟩:=h
   obtain⟨z,hz,h⟩:=optB_some h
   rw[e1]at hx
   rw[e2]at hy
   generalize a.eval x=u at hx hex
   generalize a.eval y=u' at hy hex
   cases hx
   cases hy
   obtain⟨v,hrun,hR⟩:=run_binOp_int (P:=P) (w:=w) (T:=T) (G:=G) hkk hz
   exact exec_val hf hD hex (by simp only[Sem.run_bind,eqg_int,Result.andThen_ok];exact hrun) hle hR hS h
  ·rename_i p q e1 e2
   rw[e1]at hx
   rw[e2]at hy
   generalize a.eval x=u at hx hex
   generalize a.eval y=u' at hy hex
   cases hx with
   |str p=>
    cases hy with
    |str q=>
     split at h
     ·obtain⟨hb,h⟩:=h
      refine exec_val hf hD hex (v:=.string ⟨p++q⟩) ?_ hle (by simpa using R.str (G:=G) (p++q)) hS h
      simp only[Sem.run_bind,eqg_str,Result.andThen_ok]
      simp only[binOp,Op.stringOp]
      have e:((((⟨p⟩:ByteArray).size+(⟨q⟩:ByteArray).size:Nat)):Int)=((p.toList.length+q.toList.length:Nat):Int):=by simp[ByteArray.size]
      rw[e]
      rw[if_neg (by rw[show IntKind.i64.max=9223372036854775807 by decide];omega)]
      simp only[Sem.run_pure,Result.ok.injEq,and_true,Value.string.injEq]
      exact ByteArray.ext (by simp)
     ·refine exec_val hf hD hex (v:=.bool (decide (p.toList=q.toList))) ?_ hle (.bool _) hS h
      simp only[Sem.run_bind,eqg_str,Result.andThen_ok,binOp,Op.stringOp,Sem.run_pure,str_beq]
     ·refine exec_val hf hD hex (v:=.bool !(decide (p.toList=q.toList))) ?_ hle (.bool _) hS h
      simp only[Sem.run_bind,eqg_str,Result.andThen_ok,binOp,Op.stringOp,Sem.run_pure,str_beq]
     ·exact h.elim
  ·rename_i p q e1 e2
   obtain⟨hk,h⟩:=h
   rw[e1]at hx
   rw[e2]at hy
   generalize a.eval x=u at hx hex
   generalize a.eval y=u' at hy hex
   cases hx
   cases hy
   have hkb:(qi P T).k=.bool:=by cases hk':(qi P T).k<;>rw[hk']at hk<;>first|rfl|exact hk.elim
   have hd:=kind_bool hkb
   split at h
   ·refine exec_val hf hD hex (v:=.bool (p == q)) ?_ hle (.bool _) hS h
    simp only[Sem.run_bind,eqg_bool,Result.andThen_ok,binOp]
    simp[Op.equal,Op.maxDepth,run_eq_bool hd 9999]
   ·refine exec_val hf hD hex (v:=.bool !(p == q)) ?_ hle (.bool _) hS h
    simp only[Sem.run_bind,eqg_bool,Result.andThen_ok,binOp]
    simp[Op.equal,Op.maxDepth,run_eq_bool hd 9999]
   ·exact h.elim
  ·rename_i b i b' j e1 e2
   obtain⟨hp,rfl,rfl,h⟩:=h
   rw[e1]at hx
   rw[e2]at hy
   generalize a.eval x=u at hx hex
   generalize a.eval y=u' at hy hex
   cases hx
   cases hy
   have hE:(Op.equal T (.pointer (some ⟨b,i,none⟩)) (.pointer (some ⟨b,i,none⟩))).run P w=.ok true w:=run_eq_ptr hp _ w
   have hg:(eqGuard op T x y (.pointer (some ⟨b,i,none⟩)) (.pointer (some ⟨b,i,none⟩))).run P w=.ok () w:=by cases op<;>first|rfl|simp[eqGuard]
   obtain⟨hE1,hE2⟩:=bin_nil hE rfl rfl
   split at h
   ·refine exec_val hf hD hex (v:=.bool true) ?_ hle (.bool _) hS h
    simp only[Sem.run_bind,hg,Result.andThen_ok];exact hE1
   ·refine exec_val hf hD hex (v:=.bool false) ?_ hle (.bool _) hS h
    simp only[Sem.run_bind,hg,Result.andThen_ok];exact hE2
   ·exact h.elim
  ·rename_i xs ys e1 e2
   rw[e1]at hx
   rw[e2]at hy
   generalize a.eval x=u at hx hex
   generalize a.eval y=u' at hy hex
   cases u<;>first|(cases hx;done)|skip
   cases u'<;>first|(cases hy;done)|skip
   split at h
   ·obtain⟨b,hb,h⟩:=optB_some h
    obtain⟨h1,h2,_⟩:=run_agq (P:=P) (w:=w) (op:=.eql) (ox:=x) (oy:=y) hx hy hb
    exact exec_val hf hD hex (v:=.bool b) (by simp only[Sem.run_bind,h1,Result.andThen_ok];exact h2) hle (.bool _) hS h
   ·obtain⟨b,hb,h⟩:=optB_some h
    obtain⟨h1,_,h2⟩:=run_agq (P:=P) (w:=w) (op:=.neq) (ox:=x) (oy:=y) hx hy hb
    exact exec_val hf hD hex (v:=.bool !b) (by simp only[Sem.run_bind,h1,Result.andThen_ok];exact h2) hle (.bool _) hS h
   ·exact h.elim
  ·obtain⟨hcy,h⟩:=h
   split at h
   ·obtain⟨b,hb,h⟩:=optB_some h
    obtain⟨h1,h2,_⟩:=run_nil (P:=P) (w:=w) (op:=.eql) (ox:=x) (oy:=y) hx hy hb hcy
    exact exec_val hf hD hex (v:=.bool b) (by simp only[Sem.run_bind,h1,Result.andThen_ok];exact h2) hle (.bool _) hS h
   ·obtain⟨b,hb,h⟩:=optB_some h
    obtain⟨h1,_,h2⟩:=run_nil (P:=P) (w:=w) (op:=.neq) (ox:=x) (oy:=y) hx hy hb hcy
    exact exec_val hf hD hex (v:=.bool !b) (by simp only[Sem.run_bind,h1,Result.andThen_ok];exact h2) hle (.bool _) hS h
   ·exact h.elim
 ·
  rename_i src dst x ho
  have hx:=hf.eval x
  have hex:execOp a.eval o=(do pure (Next.value (← convert src dst (a.eval x)))):=by unfold execOp;rw[ho]
  obtain⟨z,hz,h⟩:=optB_some h
  obtain⟨v,hrun,hR⟩:=run_vconv (P:=P) hS hx hz
  exact exec_val hf hD hex hrun hle hR hS h
 ·
  rename_i op T x ho
  have hx:=hf.eval x
  have hex:execOp a.eval o=(do pure (Next.value (← Op.unary op (a.eval x)))):=by unfold execOp;rw[ho]
  split at h
  ·rename_i b e
   rw[e]at hx
   generalize a.eval x=u at hx hex
   cases hx
   exact exec_val hf hD hex (v:=.bool !b) rfl hle (.bool _) hS h
  ·rename_i kd n e
   rw[e]at hx
   generalize a.eval x=u at hx hex
   cases hx
   exact exec_val hf hD hex (v:=.int kd (kd.wrap (0 - n))) rfl hle (.int _ _) hS h
  ·exact h.elim
 ·
  rename_i T x j ho
  have hx:=hf.eval x
  have hex:execOp a.eval o=(do pure (Next.value (← Instr.fieldAt T (a.eval x) j))):=by unfold execOp;rw[ho]
  split at h
  ·rename_i cs off sz ag e1 e2
   obtain⟨_,h⟩:=h
   rw[e1]at hx
   obtain⟨b,of,hu,_⟩:=Lies.of_eptr hS hx
   rw[hu]at hx hex
   exact exec_val hf hD hex (run_fieldAt (P:=P) e2 b of) hle (hx.eptr_drop off) hS h
  ·rename_i b of off sz ag e1 e2
   rw[e1]at hx
   generalize a.eval x=u at hx hex
   cases hx
   exact exec_val hf hD hex (run_fieldAt (P:=P) e2 b of) hle (.ptr _ _) hS h
  ·exact h.elim
 ·
  rename_i T x j ho
  have hx:=hf.eval x
  split at h
  ·rename_i cs off sz ag e1 e2
   obtain⟨z,hz,h⟩:=optB_some h
   rw[e1]at hx
   obtain⟨u,hrun,hR⟩:=run_field (P:=P) (w:=w) e2 hx hz
   exact exec_val hf hD (by unfold execOp;rw[ho]) hrun hle hR hS h
  ·exact h.elim
 ·
  rename_i T x i ho
  obtain⟨z,hz,h⟩:=optB_some h
  obtain⟨u,hrun,hR⟩:=run_vidx (P:=P) (w:=w) (hf.eval x) (hf.eval i) hz
  exact exec_val hf hD (by unfold execOp;rw[ho]) hrun hle hR hS h
 ·
  rename_i T x i ho
  obtain⟨z,hz,h⟩:=optB_some h
  obtain⟨u,hrun,hR⟩:=run_vat (P:=P) (w:=w) (hf.eval x) (hf.eval i) hz
  exact exec_val hf hD (by unfold execOp;rw[ho]) hrun hle hR hS h
 ·
  rename_i T x lo hi mx ho
  obtain⟨rfl,h⟩:=h
  obtain⟨z,hz,h⟩:=optB_some h
  obtain⟨u,hrun,hR⟩:=run_vslice (P:=P) (w:=w) (hf.eval x) (RO.map hf lo) (RO.map hf hi) hz
  exact exec_val hf hD (by unfold execOp;rw[ho];rfl) hrun hle hR hS h
 ·
  rename_i T x ho
  obtain⟨hk,h⟩:=h
  refine exec_val hf hD (by unfold execOp;rw[ho]) (v:=.iface T (a.eval x)) ?_ hle (.iface _ _ _ (hf.eval x)) hS h
  have hne:(qi P T).k≠.other:=by intro e;rw[e]at hk;exact hk
  obtain⟨d,i,hd,hi,hkk,_⟩:=qi_spec (P:=P) T (.inr (.inl hne))
  rw[hkk]at hk
  unfold Instr.makeInterface
  simp only[Sem.run_bind,run_underlying hd,Result.andThen_ok]
  cases d<;>first|rfl|exact hk.elim
 ·
  rename_i f fs caps ho
  obtain⟨rfl,h⟩:=h
  have hm:=RL.map hf caps.toList
  have e:(caps.toList.map a.eval).toArray=caps.map a.eval:=by
   apply Array.toList_inj.1;simp
  rw[e]at hm
  exact exec_val hf hD (by unfold execOp;rw[ho]) (v:=.func (.func f) #[] (caps.map a.eval)) (by simp[Instr.makeFunc]) hle (.fn f _ _ hm.1 hm.2) hS h
 ·
  rename_i T l c ho
  split at h
  ·rename_i k1 n k2 m z e1 e2 e3
   obtain⟨rfl,h0,hb,hn,hk,hz,h⟩:=h
   have hl:=hf.eval l
   have hc:=hf.eval c
   rw[e1]at hl
   rw[e2]at hc
   have hex:execOp a.eval o=(do pure (Next.value (← Instr.makeSlice T (a.eval l) (a.eval c)))):=by unfold execOp;rw[ho]
   generalize a.eval l=u at hl hex
   generalize a.eval c=u' at hc hex
   cases hl
   cases hc
   obtain⟨e,hke⟩:∃e,(qi P T).k=.slice e:=by
    cases hq:(qi P T).k<;>rw[hq]at hk<;>first|exact⟨_,rfl⟩|exact hk.elim
   have hel:elemT (qi P T)=e:=by unfold elemT;rw[hke]
   rw[hel]at hb hz h e3
   obtain⟨d,i,hd,hi,hkT,_⟩:=qi_spec (P:=P) T (.inr (.inl (by rw[hke];intro x;cases x)))
   have hds:d=.slice e:=by
    rw[hke]at hkT
    cases d<;>simp[qkOf]at hkT
    rw[hkT]
   subst hds
   obtain⟨zv,j,de,hj,hde,hkk,hs,hzz,hpos,hzs,hag,hrl⟩:=RLs.zero (P:=P) (G:=G) hz
   obtain⟨de',j',hde',hj',_,_,hbt⟩:=qi_spec (P:=P) e (.inr (.inr hz))
   rw[hj]at hj'
   injection hj' with hj'
   subst hj'
   rw[e3]at hrl
   have hsz1:zv.cells.size=1:=hrl.1
   have hj1:j.size=1:=by omega
   refine exec_val hf hD hex (v:=.slice (some ⟨w.heap.size,0,none⟩) n.toNat n.toNat) (w':=w.alloc (.cells (madeCells zv.cells (n.toNat * j.size)) e)) ?_ hle (.msl _ _)
    (hS.alloc_obj e _ (List.replicate n.toNat z) (by rw[size_madeCells,hj1,List.length_replicate,Nat.mul_one]) (fun x y hy=>?_)) (by rw[← hel];exact hel ▸ h _ hS.new)
   ·exact run_make (P:=P) w T e j zv hd hj hzz k1 k2 n n h0 (Int.le_refl _) (by rw[hbt]at hb;rw[Int.mul_comm];omega) (by omega)
   ·obtain⟨hx,rfl⟩:x<n.toNat∧y=z:=by
     rw[List.getElem?_replicate]at hy
     split at hy
     ·injection hy with hy;exact⟨by assumption,hy.symm⟩
     ·cases hy
    refine⟨hrl.2.1 y (by simp),zv.cells[0]'(by omega),?_,hrl.2.2 0 _ y (Array.getElem?_eq_getElem (by omega)) rfl⟩
    have hlt:x<(madeCells zv.cells (n.toNat * j.size)).size:=by rw[size_madeCells,hj1];omega
    rw[Array.getElem?_eq_getElem hlt]
    simp only[madeCells,Array.getElem_map,Array.getElem_range,hsz1,Nat.mod_one]
    congr 1
    simp[hsz1]
  ·rename_i k1 n k2 m z1 z2 zs e1 e2 e3
   obtain⟨rfl,h0,hb,hn,hk,hz,h⟩:=h
   have hl:=hf.eval l
   have hc:=hf.eval c
   rw[e1]at hl
   rw[e2]at hc
   have hex:execOp a.eval o=(do pure (Next.value (← Instr.makeSlice T (a.eval l) (a.eval c)))):=by unfold execOp;rw[ho]
   generalize a.eval l=u at hl hex
   generalize a.eval c=u' at hc hex
   cases hl
   cases hc
   obtain⟨e,hke⟩:∃e,(qi P T).k=.slice e:=by
    cases hq:(qi P T).k<;>rw[hq]at hk<;>first|exact⟨_,rfl⟩|exact hk.elim
   have hel:elemT (qi P T)=e:=by unfold elemT;rw[hke]
   rw[hel]at hb hz h e3 hn
   obtain⟨d,i,hd,hi,hkT,_⟩:=qi_spec (P:=P) T (.inr (.inl (by rw[hke];intro x;cases x)))
   have hds:d=.slice e:=by
    rw[hke]at hkT
    cases d<;>simp[qkOf]at hkT
    rw[hkT]
   subst hds
   obtain⟨zv,j,de,hj,hde,hkk,hs,hzz,hpos,hzs,hag,hrl⟩:=RLs.zero (P:=P) (G:=G) hz
   obtain⟨de',j',hde',hj',_,_,hbt⟩:=qi_spec (P:=P) e (.inr (.inr hz))
   rw[hj]at hj'
   injection hj' with hj'
   subst hj'
   rw[e3]at hrl
   generalize hZ:z1::z2::zs=Z at hrl h
   have hzl:zv.cells.size=Z.length:=hrl.1
   have hys:∀y,y∈List.replicate n.toNat Z→y.length=j.size:=fun y hy=>by
    obtain⟨_,rfl⟩:=List.mem_replicate.1 hy
    omega
   have hn2:n.toNat * j.size≤140737488355328:=by
    rw[hs]at hn
    have:((n.toNat * j.size:Nat):Int)≤140737488355328:=by
     rw[Int.natCast_mul,Int.toNat_of_nonneg (by omega)];exact hn
    omega
   have hle1:n.toNat≤n.toNat * j.size:=Nat.le_mul_of_pos_right _ hpos
   obtain⟨G',hG,hq,hS'⟩:=hS.alloc_row e (madeCells zv.cells (n.toNat * j.size)) (List.replicate n.toNat Z).flatten n.toNat j.size (size_madeCells _ _)
    (by rw[flat_len hys,List.length_replicate];exact Nat.le_refl _) (by simp only[maxLen];omega) (fun x y hy=>by
     obtain⟨a',b',z',h1,h2,h3⟩:=flat_get hys hy
     obtain⟨ha',rfl⟩:a'<n.toNat∧z'=Z:=by
      rw[List.getElem?_replicate]at h1
      split at h1
      ·injection h1 with h1;exact⟨by assumption,h1.symm⟩
      ·cases h1
     have hb':b'<z'.length:=(List.getElem?_eq_some_iff.1 h2).1
     have hlt0:x<n.toNat * j.size:=by
      have:=Nat.mul_le_mul_right j.size ha'
      rw[Nat.succ_mul]at this
      omega
     refine⟨hrl.2.1 y (List.mem_of_getElem? h2),zv.cells[b']'(by omega),?_,hrl.2.2 b' _ y (Array.getElem?_eq_getElem (by omega)) h2⟩
     rw[Array.getElem?_eq_getElem (by rw[size_madeCells];exact hlt0)]
     simp only[madeCells,Array.getElem_map,Array.getElem_range]
     have hmod:x % zv.cells.size=b':=by
      rw[h3,hzs,Nat.mul_comm,Nat.mul_add_mod,Nat.mod_eq_of_lt (by omega)]
     rw[hmod]
     congr 1
     rw[getElem!_pos zv.cells b' (by omega)])
   refine exec_val hf hD hex (v:=.slice (some ⟨w.heap.size,0,none⟩) n.toNat n.toNat) (w':=w.alloc (.cells (madeCells zv.cells (n.toNat * j.size)) e)) ?_ hG
    (R.mrw w.heap.size n.toNat n.toNat j.size (by simpa using hq) (Nat.le_refl _)) hS' (by rw[← hs];exact hel ▸ h _ hS.new)
   exact run_make (P:=P) w T e j zv hd hj hzz k1 k2 n n (by omega) (Int.le_refl _) (by rw[hbt]at hb;rw[Int.mul_comm];omega) (by omega)
  ·exact h.elim
 ·
  rename_i T ho
  refine exec_val hf hD (by unfold execOp;rw[ho]) (v:=.map (some w.heap.size)) (w':=w.alloc (.map #[] 0)) ?_ hle (.mp _) hS.alloc_map (h _ hS.new)
  simp[Instr.makeMap]
 ·
  rename_i T m key ok ho
  obtain⟨z,hz,h⟩:=optB_some h
  obtain⟨u,hrun,hR⟩:=run_vlookup (P:=P) hS (hf.eval m) (hf.eval key) hz
  exact exec_val hf hD (by unfold execOp;rw[ho]) hrun hle hR hS h
 ·
  rename_i T m key x ho
  obtain⟨s',hs,h⟩:=optB_some h
  obtain⟨w',hrun,hS'⟩:=run_vupdate (P:=P) hS (hf.eval m) (hf.eval key) (hf.eval x) hs
  exact wp_skip' hf hD (by unfold execOp;rw[ho];simp[hrun]) hle hS' h
 ·
  rename_i t i ho
  have ht:=hf.eval t
  split at h
  ·rename_i xs e
   obtain⟨z,hz,h⟩:=optB_some h
   rw[e]at ht
   have hex:execOp a.eval o=(do pure (Next.value (← Instr.extract (a.eval t) i))):=by unfold execOp;rw[ho]
   generalize a.eval t=u at ht hex
   cases ht with
   |tup vs xs hs hR=>
    have hlt:i<vs.size:=by rw[hs];exact(List.getElem?_eq_some_iff.1 hz).1
    exact exec_val hf hD hex (v:=vs[i]) (by simp[Instr.extract,hlt]) hle (hR i _ z (Array.getElem?_eq_getElem hlt) hz) hS h
  ·exact h.elim
 ·
  rename_i x T0 T ok ho
  obtain⟨rfl,hk,h⟩:=h
  have hx:=hf.eval x
  split at h
  ·rename_i T' y e
   obtain⟨rfl,h⟩:=h
   rw[e]at hx
   have hex:execOp a.eval o=(do pure (Next.value (← Instr.typeAssert (a.eval x) T0 T' true))):=by unfold execOp;rw[ho]
   generalize a.eval x=u at hx hex
   cases hx with
   |iface t v y hR=>
    have hne:(qi P T').k≠.other:=by intro e;rw[e]at hk;exact hk
    obtain⟨d,i,hd,hi,hkk,_⟩:=qi_spec (P:=P) T' (.inr (.inl hne))
    rw[hkk]at hk
    refine exec_val hf hD hex (v:=.tuple #[v,.bool true]) ?_ hle (.tup _ _ rfl fun j v' y' h1 h2=>?_) hS h
    ·unfold Instr.typeAssert
     simp only[Sem.run_bind,run_underlying hd,Result.andThen_ok]
     cases d<;>first|exact hk.elim|simp
    ·match j with
     |0=>simp at h1 h2;subst h1;subst h2;exact hR
     |1=>simp at h1 h2;subst h1;subst h2;exact .bool _
     |j+2=>simp at h2
  ·exact h.elim
 ·
  rename_i x ho
  have hx:=hf.eval x
  split at h
  ·rename_i T y e
   rw[e]at hx
   have hex:execOp a.eval o=(do pure (Next.value (← Instr.panic (a.eval x)))):=by unfold execOp;rw[ho]
   generalize a.eval x=u at hx hex
   cases hx with
   |iface t v x hv=>
    unfold Oper.wp
    rw[hex]
    simp only[Instr.panic,Sem.run_bind,run_goPanic,Result.andThen_halt]
    exact⟨G,env,s,.iface T v,.iface T y,rfl,.iface _ _ _ hv,hle,hf,hD,hS,h⟩
  ·exact h.elim
 ·
  rename_i c ho
  split at h
  ·rename_i f hc
   exact sound_call hf hD hS ho hc h
  ·
   rename_i hc
   split at h
   ·rename_i x T e1 e2
    obtain⟨z,hz,h⟩:=optB_some h
    obtain⟨u,hrun,hR⟩:=run_vlen (P:=P) (T:=T) (ty:=o.type) hS (hf.eval x) hz
    have e1':c.args=#[x]:=Array.toList_inj.1 (by simpa using e1)
    have e2':c.argTypes=#[T]:=Array.toList_inj.1 (by simpa using e2)
    refine wp_value hf hD (v:=u) ?_ hle hR hS h
    unfold execOp
    simp[ho,resolve,hc,invoke,builtin,e1',e2',hrun]
   ·exact h.elim
  ·
   rename_i hc
   split at h
   ·rename_i x y e1
    obtain⟨z,hz,h⟩:=optB_some h
    have e1':c.args=#[x,y]:=Array.toList_inj.1 (by simpa using e1)
    have hx:=hf.eval x
    have hy:=hf.eval y
    unfold vminmax at hz
    split at hz
    ·rename_i kd p kd' q e3 e4
     split at hz
     ·rename_i e5
      subst e5
      simp only[Bool.false_eq_true,if_false,Option.some.injEq]at hz
      subst hz
      rw[e3]at hx
      rw[e4]at hy
      generalize hu:a.eval x=u at hx
      generalize hu':a.eval y=u' at hy
      cases hx
      cases hy
      refine wp_value hf hD (v:=.int kd (if q<p then q else p)) ?_ hle (.int _ _) hS h
      unfold execOp
      simp[ho,resolve,hc,invoke,builtin,e1',hu,hu',Builtin.min_,Builtin.min2]
     ·cases hz
    ·cases hz
   ·exact h.elim
  ·
   rename_i hc
   split at h
   ·rename_i x y e1
    obtain⟨z,hz,h⟩:=optB_some h
    have e1':c.args=#[x,y]:=Array.toList_inj.1 (by simpa using e1)
    have hx:=hf.eval x
    have hy:=hf.eval y
    unfold vminmax at hz
    split at hz
    ·rename_i kd p kd' q e3 e4
     split at hz
     ·rename_i e5
      subst e5
      simp only[if_true,Option.some.injEq]at hz
      subst hz
      rw[e3]at hx
      rw[e4]at hy
      generalize hu:a.eval x=u at hx
      generalize hu':a.eval y=u' at hy
      cases hx
      cases hy
      refine wp_value hf hD (v:=.int kd (if p<q then q else p)) ?_ hle (.int _ _) hS h
      unfold execOp
      simp[ho,resolve,hc,invoke,builtin,e1',hu,hu',Builtin.max_,Builtin.max2]
     ·cases hz
    ·cases hz
   ·exact h.elim
  ·
   rename_i hc
   split at h
   ·rename_i x y T T' e1 e2
    obtain⟨hk,h⟩:=h
    have e1':c.args=#[x,y]:=Array.toList_inj.1 (by simpa using e1)
    have e2':c.argTypes=#[T,T']:=Array.toList_inj.1 (by simpa using e2)
    have hx:=hf.eval x
    have hy:=hf.eval y
    cases hkk:(qi P T).k<;>rw[hkk]at hk<;>first|exact hk.elim|skip
    rename_i e
    have he:elemT (qi P T)=e:=by simp[elemT,hkk]
    rw[he]at h
    split at h
    ·rename_i xs ox ys oy e3 e4
     rw[e3]at hx
     rw[e4]at hy
     obtain⟨rfl,h⟩:=h
     obtain⟨v,w',G',s',z,hrun,hG,hS',hR,h⟩:=run_vappend (P:=P) (T':=T) (ty:=o.type) hS hx (fun hp hl=>.of_lst (kind_slice hkk) hS hy hp hl) hkk h
     refine wp_value hf hD (v:=v) ?_ hG hR hS' h
     unfold execOp
     simp[ho,resolve,hc,invoke,builtin,e1',e2',hrun]
    ·rename_i b n ys oy e3 e4
     rw[e3]at hx
     rw[e4]at hy
     obtain⟨rfl,h⟩:=h
     obtain⟨v,w',G',s',z,hrun,hG,hS',hR,h⟩:=run_vappendM (P:=P) (T':=T) (ty:=o.type) hS hx (fun hp hl=>.of_lst (kind_slice hkk) hS hy hp hl) hkk h
     refine wp_value hf hD (v:=v) ?_ hG hR hS' h
     unfold execOp
     simp[ho,resolve,hc,invoke,builtin,e1',e2',hrun]
    ·rename_i ys oy e3 e4
     rw[e3]at hx
     rw[e4]at hy
     obtain⟨rfl,h⟩:=h
     obtain⟨v,w',G',s',z,hrun,hG,hS',hR,h⟩:=run_vappend0 (P:=P) (T':=T) (ty:=o.type) hS hx (fun hp hl=>.of_lst (kind_slice hkk) hS hy hp hl) hkk h
     refine wp_value hf hD (v:=v) ?_ hG hR hS' h
     unfold execOp
     simp[ho,resolve,hc,invoke,builtin,e1',e2',hrun]
    ·rename_i xs ox l e3 e4
     rw[e3]at hx
     rw[e4]at hy
     obtain⟨hstr,h⟩:=h
     have hu:P.underlying T'=some .string:=by
      cases hq:(qi P T').k<;>rw[hq]at hstr<;>first|(cases hstr;done)|exact kind_str hq
     obtain⟨v,w',G',s',z,hrun,hG,hS',hR,h⟩:=run_vappend (P:=P) (T':=T') (ty:=o.type) hS hx (fun hp hl=>by
      cases l with
      |nil=>exact .of_str0 hu hy
      |cons c l=>
       have h1:(qi P e).sz=1:=(hl [.int .u8 (c.toNat:Int)] (by simp[bytesV])).symm
       rw[h1]
       exact .of_str hu hy) hkk h
     refine wp_value hf hD (v:=v) ?_ hG hR hS' h
     unfold execOp
     simp[ho,resolve,hc,invoke,builtin,e1',e2',hrun]
    ·exact h.elim
   ·exact h.elim
  ·exact h.elim
 ·exact h.elim
end
def splitW:List Nat→Nat→List Nat
 |[],_=>[]
 |w::ws,n=>n % 2 ^ w::splitW ws (n / 2 ^ w)
theorem asgV_app:∀{a b:List Nat} {n:Nat} {x:Nat→Bool},asgV (a++b) n x=asgV b (n / 2 ^ a.length) (asgV a n x)
 |[],b,n,x=>by simp[asgV]
 |v::a,b,n,x=>by
  simp only[List.cons_append,asgV,List.length_cons]
  rw[asgV_app,Nat.div_div_eq_div_mul,Nat.pow_succ,Nat.mul_comm 2]
theorem asgV_out:∀{vs:List Nat} {m v:Nat} {x:Nat→Bool},v∉vs→asgV vs m x v=x v
 |[],_,_,_,_=>rfl
 |u::vs,m,v,x,h=>by
  rw[List.mem_cons,not_or]at h
  simp only[asgV]
  rw[asgV_out h.2,updB_ne h.1]
theorem numA_congr:∀{vs:List Nat} {x y:Nat→Bool},(∀v,v∈vs→x v=y v)→numA vs x=numA vs y
 |[],_,_,_=>rfl
 |v::vs,x,y,h=>by
  simp only[numA]
  rw[h v (by simp),numA_congr fun u hu=>h u (by simp[hu])]
theorem numA_asg:∀{vs:List Nat} {n:Nat} {x:Nat→Bool},vs.Nodup→numA vs (asgV vs n x)=n % 2 ^ vs.length
 |[],n,x,_=>by simp[numA,Nat.mod_one]
 |v::vs,n,x,hn=>by
  rw[List.nodup_cons]at hn
  simp only[numA,asgV,List.length_cons]
  rw[numA_asg hn.2,asgV_out hn.1,updB_same,Nat.pow_succ,Nat.mul_comm (2 ^ vs.length) 2,Nat.mod_mul]
  rcases Nat.mod_two_eq_zero_or_one n with e|e<;>simp[e]
theorem rowA:∀{ds:List (List Nat)} {n:Nat} {x:Nat→Bool},ds.flatten.Nodup→ds.map (fun a=>numA a (asgV ds.flatten n x))=splitW (ds.map (·.length)) n
 |[],_,_,_=>rfl
 |a::ds,n,x,hn=>by
  rw[List.flatten_cons,List.nodup_append]at hn
  obtain⟨h1,h2,h3⟩:=hn
  simp only[List.flatten_cons,List.map_cons,splitW]
  rw[asgV_app]
  congr 1
  ·rw[numA_congr (y:=asgV a n x) fun v hv=>asgV_out fun hv'=>h3 v hv v hv' rfl,numA_asg h1]
  ·exact rowA h2
theorem asgV_num:∀{vs:List Nat} {x y:Nat→Bool},vs.Nodup→∀v,v∈vs→asgV vs (numA vs x) y v=x v
 |[],_,_,_,v,hv=>by simp at hv
 |u::vs,x,y,hn,v,hv=>by
  rw[List.nodup_cons]at hn
  simp only[numA,asgV]
  have hb:(x u).toNat≤1:=Bool.toNat_le _
  have e1:((x u).toNat+2 * numA vs x) / 2=numA vs x:=by omega
  have e2:((x u).toNat+2 * numA vs x) % 2=(x u).toNat:=by omega
  rw[e1,e2]
  by_cases e:v=u
  ·subst e
   rw[asgV_out hn.1,updB_same]
   cases x v<;>rfl
  ·rcases List.mem_cons.1 hv with h|h
   ·exact absurd h e
   ·exact asgV_num hn.2 v h
theorem splitW_inj:∀{ws:List Nat} {a b:Nat},a<2 ^ ws.sum→b<2 ^ ws.sum→splitW ws a=splitW ws b→a=b
 |[],a,b,ha,hb,_=>by simp at ha hb;omega
 |w::ws,a,b,ha,hb,h=>by
  simp only[splitW,List.cons.injEq]at h
  simp only[List.sum_cons,Nat.pow_add]at ha hb
  have:=splitW_inj (ws:=ws) (a:=a / 2 ^ w) (b:=b / 2 ^ w) ((Nat.div_lt_iff_lt_mul (Nat.two_pow_pos w)).2 (by rw[Nat.mul_comm];exact ha)) ((Nat.div_lt_iff_lt_mul (Nat.two_pow_pos w)).2 (by rw[Nat.mul_comm];exact hb)) h.2
  rw[← Nat.div_add_mod a (2 ^ w),← Nat.div_add_mod b (2 ^ w),this,h.1]
theorem flat_lenD {ds:List (List Nat)}:ds.flatten.length=(ds.map (·.length)).sum:=by
 induction ds with
 |nil=>rfl
 |cons a ds ih=>simp
theorem sat_rows {n:Nat}{t:Tr}{ds:List (List Nat)}(ho:OkT n 0 t)(hi:InV ds.flatten t)(hn:ds.flatten.Nodup){r:List Nat} :
  r∈(satV t ds.flatten).map (splitW (ds.map (·.length)))↔∃x,evT t x=true∧r=ds.map fun a=>numA a x:=by
 have dep:∀{t:Tr},InV ds.flatten t→∀x y,(∀v,v∈ds.flatten→x v=y v)→evT t x=evT t y:=by
  intro t
  induction t with
  |lf b=>intro _ x y _;rfl
  |nd v l h il ih=>
   intro⟨h1,h2,h3⟩ x y he
   simp only[evT]
   rw[he v h1,il h2 x y he,ih h3 x y he]
 rw[List.mem_map]
 constructor
 ·rintro⟨m,hm,rfl⟩
  rw[satV_mem]at hm
  exact⟨asgV ds.flatten m fun _=>false,hm.2,(rowA hn).symm⟩
 ·rintro⟨x,hx,rfl⟩
  refine⟨numA ds.flatten x,?_,?_⟩
  ·rw[satV_mem]
   refine⟨numA_lt _ _,?_⟩
   rw[dep hi _ x fun v hv=>asgV_num hn v hv]
   exact hx
  ·rw[← rowA (x:=fun _=>false) hn]
   refine List.map_congr_left fun a ha=>numA_congr fun v hv=>asgV_num hn v ?_
   exact List.mem_flatten.2 ⟨a,ha,hv⟩
theorem sat_nodup {t:Tr}{ds:List (List Nat)}:((satV t ds.flatten).map (splitW (ds.map (·.length)))).Nodup:=by
 have h1:(satV t ds.flatten).Nodup:=(satV_rise t _).imp fun h=>Nat.ne_of_lt h
 have h2:∀m,m∈satV t ds.flatten→m<2 ^ (ds.map (·.length)).sum:=fun m hm=>by
  rw[satV_mem]at hm
  rw[← flat_lenD];exact hm.1
 revert h1 h2
 generalize satV t ds.flatten=L
 intro h1 h2
 refine List.pairwise_map.2 ?_
 exact List.Pairwise.imp_of_mem (fun {a b} ha hb hne e=>hne (splitW_inj (h2 a ha) (h2 b hb) e)) h1
noncomputable def walkT (put:Nat→Tr→Tr→Tr):Tr→Tr
 |.lf b=>.lf b
 |.nd v l h=>put v (walkT put l) (walkT put h)
noncomputable def rnP (n:Nat)(by_:Nat→Nat)(v:Nat)(a b:Tr):Tr:=iteT n (mkT (by_ v) (.lf false) (.lf true)) b a
noncomputable def rnT (n:Nat)(by_:Nat→Nat):Tr→Tr:=walkT (rnP n by_)
theorem rnT_ok {n:Nat}{by_:Nat→Nat}:∀{t:Tr},OkT n 0 (rnT n by_ t)
 |.lf b=>trivial
 |.nd v l h=>iteT_ok
def rnF (by_:Nat→Nat)(f:(Nat→Bool)→Bool)(x:Nat→Bool):Bool:=f fun v=>x (by_ v)
theorem rnT_ev {n:Nat}{by_:Nat→Nat}(hb:∀v,v<n→by_ v<n):∀{t:Tr} {m:Nat},OkT n m t→∀x,evT (rnT n by_ t) x=evT t fun v=>x (by_ v)
 |.lf b,_,_,x=>rfl
 |.nd v l h,m,⟨h1,h2,h3,h4,h5⟩,x=>by
  have il:=rnT_ev hb h4 x
  have ih:=rnT_ev hb h5 x
  have ol:OkT n 0 (mkT (by_ v) (.lf false) (.lf true)):=mkT_ok (Nat.zero_le _) (hb v h2) trivial trivial
  show evT (iteT n (mkT (by_ v) (.lf false) (.lf true)) (rnT n by_ h) (rnT n by_ l)) x=_
  rw[iteT_ev ol rnT_ok rnT_ok,mkT_ev]
  simp only[evT,il,ih]
  by_cases e:x (by_ v)=true
  ·simp[e]
  ·simp[e]
theorem rnT_tree {n:Nat}{by_:Nat→Nat}{f:(Nat→Bool)→Bool}(hb:∀v,v<n→by_ v<n)(hf:Hang n f):rnT n by_ (treeT n f)=treeT n (rnF by_ f):=by
 refine(treeT_eq rnT_ok fun x=>?_).symm
 rw[rnT_ev hb treeT_ok,treeT_ev hf]
 rfl
theorem rnF_dep {S:List Nat}{by_:Nat→Nat}{f:(Nat→Bool)→Bool}(hf:DepF S f):DepF (S.map by_) (rnF by_ f):=fun x y e=>hf _ _ fun v hv=>e _ (List.mem_map_of_mem hv)
def costT (c:Nat→Nat):Tr→Nat
 |.lf _=>0
 |.nd v l h=>costT c l+costT c h+c v
theorem cost_le {n:Nat}{S:List Nat}{c kk:Nat→Nat}(hc:∀v,c v≤2 ^ kk v+1)(hm:∀p q,p≤q→kk q≤kk p)(hs:∀v,v∈S→kk (v+1)+1≤kk v):∀{t:Tr} {m:Nat},OkT n m t→InV S t→costT c t+1≤(kk m+2) * 2 ^ kk m
 |.lf _,m,_,_=>by
  simp only[costT]
  have h2:2 * 1≤(kk m+2) * 2 ^ kk m:=Nat.mul_le_mul (by omega) (Nat.two_pow_pos _)
  omega
 |.nd v l h,m,⟨h1,h2,h3,h4,h5⟩,⟨i1,i2,i3⟩=>by
  have a:=cost_le hc hm hs h4 i2
  have b:=cost_le hc hm hs h5 i3
  have hcv:=hc v
  have h6:=hs v i1
  have h7:=hm m v h1
  simp only[costT]
  generalize kk (v+1)=j at *
  have p1:(j+2) * 2 ^ j * 2≤(kk v+1) * 2 ^ kk v:=by
   have e:(j+2) * 2 ^ j * 2=(j+2) * 2 ^ (j+1):=by rw[Nat.pow_succ,Nat.mul_assoc]
   rw[e]
   exact Nat.mul_le_mul (by omega) (Nat.pow_le_pow_right (by omega) (by omega))
  have p2:(kk v+2) * 2 ^ kk v≤(kk m+2) * 2 ^ kk m:=Nat.mul_le_mul (by omega) (Nat.pow_le_pow_right (by omega) h7)
  have p3:(kk v+2) * 2 ^ kk v=(kk v+1) * 2 ^ kk v+2 ^ kk v:=by
   rw[show kk v+2=(kk v+1)+1 by omega,Nat.add_mul,Nat.one_mul]
  generalize (j+2) * 2 ^ j=x at *
  generalize (kk v+1) * 2 ^ kk v=y at *
  omega
def kkS (S:List Nat)(m:Nat):Nat:=S.countP fun u=>decide (m≤u)
theorem kkS_mono {S:List Nat}{p q:Nat}(h:p≤q):kkS S q≤kkS S p:=List.countP_mono_left fun x _ hx=>by simp at hx ⊢;omega
theorem kkS_step {S:List Nat}{v:Nat}(h:v∈S):kkS S (v+1)+1≤kkS S v:=by
 unfold kkS
 induction S with
 |nil=>cases h
 |cons s S ih=>
  rw[List.countP_cons,List.countP_cons]
  have hm:S.countP (fun u=>decide (v+1≤u))≤S.countP (fun u=>decide (v≤u)):=List.countP_mono_left fun x _ hx=>by simp at hx ⊢;omega
  by_cases e:s=v
  ·subst e
   simp only[show ¬ s+1≤s by omega,decide_false,Bool.false_eq_true,if_false,Nat.le_refl,decide_true,if_true]
   omega
  ·have ih':=ih (by rcases List.mem_cons.1 h with h|h;exact absurd h.symm e;exact h)
   by_cases g:v+1≤s
   ·simp only[g,decide_true,if_true,show v≤s by omega];omega
   ·simp only[g,decide_false,Bool.false_eq_true,if_false,show ¬ v≤s by omega];omega
theorem kkS_le {S:List Nat}{m:Nat}:kkS S m≤S.length:=List.countP_le_length
end Go.Proofs.YtohnaepcgnbaiaaGreatDoor
