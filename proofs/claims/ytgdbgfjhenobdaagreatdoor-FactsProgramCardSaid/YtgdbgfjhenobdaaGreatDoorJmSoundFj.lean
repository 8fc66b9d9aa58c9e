/- Walks of functions that the claim reaches, and plain facts of them. Conditions: those in the statements. -/
import Derived.Test.YtgdbgfjhenobdaaGreatDoorJmSoundCj
import Derived.Lib.Builder
import Derived.Laws.IdiomStrings
import Derived.Laws.StructEq
import Derived.Laws.MakeOwn
import Derived.ChangeKeysEq
import Derived.Deep.LoopGhost
import Derived.StillTail
set_option linter.unusedSimpArgs false
set_option linter.unusedVariables false
namespace Go.Proofs.YtgdbgfjhenobdaaGreatDoor
open Go.RowKit
section
variable {P : Program} {N : Nat} {w0 w w' : World} {G G' : Gh} {s s' : St} {a : Act} {env : Env} {D : List Deferred} {k : Env → St → Prop} {E : VV → Env → St → Prop} {o : Oper}
theorem exec_val {S:Sem Value}{v:Value}{x:VV}(hf:FR N G a.tmps env)(hD:a.defers=D)(hex:execOp a.eval o=(do pure (Next.value (← S))))(hrun:S.run P w=.ok v w')
  (hG:G.le G') (hR:R G' v x) (hS:Sim w0 G' w' s') (hk:k (put N env o.dst x) s'):o.wp P a w (Nx N w0 G D k) (Px N w0 G D E):=
 wp_value hf hD (by rw[hex];exact exec_v hrun) hG hR hS hk
theorem optB_some {α:Type}{k:α→Prop}{x:Option α}(h:optB k x):∃y,x=some y∧k y:=by
 cases x with
 |none=>exact h.elim
 |some y=>exact⟨y,rfl,h⟩
theorem eqg_int (op:BinOp)(T:TypeId)(x y:Operand)(k k':IntKind)(a b:Int):(eqGuard op T x y (.int k a) (.int k' b)).run P w=.ok () w:=by cases op<;>rfl
theorem eqg_str (op:BinOp)(T:TypeId)(x y:Operand)(a b:ByteArray):(eqGuard op T x y (.string a) (.string b)).run P w=.ok () w:=by cases op<;>rfl
theorem eqg_bool (op:BinOp)(T:TypeId)(x y:Operand)(a b:Bool):(eqGuard op T x y (.bool a) (.bool b)).run P w=.ok () w:=by cases op<;>rfl
theorem Sim.new {w0 w:World}{G:Gh}{s:St}(h:Sim w0 G w s):New s w.heap.size:=⟨h.fresh,fun _ hx=>h.lt hx⟩
theorem run_binOp_int {op:BinOp}{T:TypeId}{kd kd':IntKind}{x y:Int}{z:VV}(hk:kd=kd'∨isSh op=true)(h:vint op kd x y=some z):∃v,(binOp op T (.int kd x) (.int kd' y)).run P w=.ok v w∧R G v z:=by
 have hb:∀b:Bool,R G (.bool b) (.bool b):=fun b=>.bool b
 cases op<;>simp only[vint,Option.some.injEq,reduceCtorEq]at h
 case shl=>
  split at h<;>cases h
  rename_i hy
  exact⟨.int kd (kd.wrap (x * 2 ^ (min y.toNat kd.bits))),by simp[binOp,Op.shift,Int.not_lt.2 hy],.int _ _⟩
 case shr=>
  split at h<;>cases h
  rename_i hy
  exact⟨.int kd (x.fdiv (2 ^ (min y.toNat kd.bits))),by simp[binOp,Op.shift,Int.not_lt.2 hy],.int _ _⟩
 all_goals(simp only[isSh,Bool.false_eq_true,or_false]at hk;subst hk)
 case quo=>
  split at h<;>cases h
  rename_i hy
  exact⟨.int kd (kd.wrap (x.tdiv y)),by simp[binOp,Op.intDiv,hy],.int _ _⟩
 case rem=>
  split at h<;>cases h
  rename_i hy
  exact⟨.int kd (x.tmod y),by simp[binOp,Op.intDiv,hy],.int _ _⟩
 case and=>subst h;exact⟨.int kd (bAnd kd x y),by simp[binOp,Op.intBits,bAnd],.int _ _⟩
 case or=>subst h;exact⟨.int kd (bOr kd x y),by simp[binOp,Op.intBits,bOr],.int _ _⟩
 case xor=>subst h;exact⟨.int kd (bXor kd x y),by simp[binOp,Op.intBits,bXor],.int _ _⟩
 case andNot=>subst h;exact⟨.int kd (bAndNot kd x y),by simp[binOp,Op.intBits,bAndNot],.int _ _⟩
 case add=>subst h;exact⟨.int kd (kd.wrap (x+y)),by simp[binOp,Op.intArith],.int _ _⟩
 case sub=>subst h;exact⟨.int kd (kd.wrap (x - y)),by simp[binOp,Op.intArith],.int _ _⟩
 case mul=>subst h;exact⟨.int kd (kd.wrap (x * y)),by simp[binOp,Op.intArith],.int _ _⟩
 case eql=>subst h;exact⟨.bool (x == y),by simp[binOp,Op.intCmp],by rw[show (x == y)=decide (x=y) by rw[Bool.eq_iff_iff];simp];exact hb _⟩
 case neq=>subst h;exact⟨.bool (x != y),by simp[binOp,Op.intCmp],by rw[show (x != y)=!decide (x=y) by rw[Bool.eq_iff_iff];simp];exact hb _⟩
 case lss=>subst h;exact⟨.bool (decide (x<y)),by simp[binOp,Op.intCmp],hb _⟩
 case leq=>subst h;exact⟨.bool (decide (x≤y)),by simp[binOp,Op.intCmp],hb _⟩
 case gtr=>subst h;exact⟨.bool (decide (y<x)),by simp[binOp,Op.intCmp],hb _⟩
 case geq=>subst h;exact⟨.bool (decide (y≤x)),by simp[binOp,Op.intCmp],hb _⟩
theorem run_eq_bool {T:TypeId}(hd:P.underlying T=some .bool)(d:Nat)(a b:Bool):(Op.equalIn (d+1) T (.bool a) (.bool b)).run P w=.ok (a == b) w:=by
 simp[Op.equalIn,run_underlying hd]
theorem run_eq_ptr {T:TypeId}(hp:pok P T=true)(a:Addr)(w:World):(Op.equal T (.pointer (some a)) (.pointer (some a))).run P w=.ok true w:=by
 unfold pok at hp
 split at hp<;>first|(cases hp;done)|skip
 rename_i te hd
 split at hp<;>first|(cases hp;done)|skip
 rename_i j hj
 have h:∀d:Nat,(Op.equalIn (d+1) T (.pointer (some a)) (.pointer (some a))).run P w=.ok true w:=fun d=>by
  simp[Op.equalIn,run_underlying hd,sizeOf,typeInfo,hj,run_sameAddr_same]
 exact h 9999
theorem unbytes_some:∀{xs:List (List VV)} {l:List UInt8},unbytes xs=some l→xs=bytesV l
 |[],l,h=>by simp only[unbytes]at h;injection h with h;subst h;rfl
 |x::r,l,h=>by
  unfold unbytes at h
  split at h
  ·rename_i he;cases he
  ·rename_i n r' he
   injection he with e1 e2
   subst e1;subst e2
   split at h
   ·rename_i hn
    cases hu:unbytes r with
    |none=>rw[hu]at h;cases h
    |some l'=>
     rw[hu]at h
     injection h with h
     subst h
     have:=unbytes_some hu
     have e:((UInt8.ofNat n.toNat).toNat:Int)=n:=by simp[UInt8.toNat_ofNat'];omega
     simp only[bytesV,List.map_cons,e]
     rw[this];rfl
   ·cases h
  ·cases h
theorem slice_und {T e:TypeId}(h:(qi P T).k=.slice e):P.underlying T=some (.slice e):=by
 unfold qi at h
 split at h
 ·rename_i d i hd hi
  have:qkOf d=.slice e:=by split at h<;>exact h
  cases d<;>simp[qkOf]at this
  subst this;exact hd
 ·cases h
theorem str_und {T:TypeId}(h:(qi P T).k=.str):P.underlying T=some .string:=by
 unfold qi at h
 split at h
 ·rename_i d i hd hi
  have:qkOf d=.str:=by split at h<;>exact h
  cases d<;>simp[qkOf]at this
  exact hd
 ·cases h
theorem run_vconv {src dst:TypeId}{u:Value}{x z:VV}(hS:Sim w0 G w s)(hx:R G u x)(h:vconv P src dst x s=some z):∃v,(convert src dst u).run P w=.ok v w∧R G v z:=by
 cases hx<;>first|(cases h;done)|skip
 case int k n=>
  simp only[vconv]at h
  split at h<;>first|(cases h;done)|skip
  rename_i k1 k' h1 h2
  injection h with h
  subst h
  have e1:=kind_int h1
  have e2:=kind_int h2
  exact⟨.int k' (k'.wrap n),by simp[convert,run_underlying e1,run_underlying e2,Conv.intToInt],.int _ _⟩
 case emp a cap o ho=>
  simp only[vconv]at h
  split at h<;>first|(cases h;done)|skip
  rename_i e he hd
  split at h<;>first|(cases h;done)|skip
  rename_i hu
  have hu8:P.underlying e=some (.int .u8):=kind_int (by
   cases hk:(qi P e).k with
   |int k=>rw[hk]at hu;cases k<;>first|rfl|cases hu
   |_=>rw[hk]at hu;cases hu)
  injection h with h
  subst h
  cases a with
  |none=>exact⟨.string ⟨#[]⟩,by rw[run_convert_bytes_string w src dst e none 0 cap (slice_und he) hu8 (str_und hd)];rfl,.str #[]⟩
  |some a=>exact⟨.string ⟨#[]⟩,run_convert_bytes_back w src dst e a cap [] (slice_und he) hu8 (str_und hd) (fun j hj=>by simp at hj),.str #[]⟩
 case lst b off len cap sz xs o f hl hc hz h1 hK hR ho=>
  simp only[vconv]at h
  split at h<;>first|(cases h;done)|skip
  rename_i e he hd
  split at h<;>first|(cases h;done)|skip
  rename_i hu
  have hu8:P.underlying e=some (.int .u8):=kind_int (by
   cases hk:(qi P e).k with
   |int k=>rw[hk]at hu;cases k<;>first|rfl|cases hu
   |_=>rw[hk]at hu;cases hu)
  cases hub:unbytes xs with
  |none=>rw[hub]at h;cases h
  |some l=>
   rw[hub]at h
   injection h with h
   subst h
   have hxs:=unbytes_some hub
   subst hxs
   have hlen:l.length=len:=by rw[← hl];simp[bytesV]
   subst hlen
   refine⟨.string ⟨l.toArray⟩,run_convert_bytes_back w src dst e ⟨b,off,none⟩ cap l (slice_und he) hu8 (str_und hd) (fun j hj=>?_),by
    have:=R.str (G:=G) l.toArray
    simpa using this⟩
   have hx1:(bytesV l)[j]?=some [.int .u8 (l[j].toNat:Int)]:=by simp[bytesV,List.getElem?_eq_getElem hj]
   have hsz:sz=1:=by
    have:=hz _ (List.mem_of_getElem? hx1)
    simpa using this.symm
   subst hsz
   have h2:=hS.K _ _ _ (hK j 0 hj (by omega))
   have h3:=hR j 0 _ _ hx1 rfl
   generalize f j 0=v at h2 h3
   cases h3
   have h4:w.cell? ⟨b,off+j,none⟩=some (.int .u8 (l[j].toNat:Int)):=by simpa using h2
   by_cases hj0:j=0
   ·subst hj0;simpa [Addr.add]using h4
   ·simpa [Addr.add,hj0]using h4
 case ptr b off=>
  simp only[vconv]at h
  split at h<;>first|(cases h;done)|skip
  rename_i T xs hb
  split at h<;>first|(cases h;done)|skip
  rename_i hc
  injection h with h
  subst h
  have ho:=hS.ok b
  rw[hb]at ho
  obtain⟨_,_,c,hh,hsz,_⟩:=ho
  have hsh:w.shape? b=some (T,xs.length):=by simp[World.shape?,hh,hsz]
  refine⟨.pointer (some ⟨b,off,none⟩),?_,.ptr _ _⟩
  unfold cvok at hc
  split at hc<;>first|(cases hc;done)|skip
  ·rename_i t hs hd
   split at hc<;>first|(cases hc;done)|skip
   rename_i j hj
   simp only[Bool.and_eq_true,bne_iff_ne,ne_eq,decide_eq_true_eq]at hc
   exact Lib.run_to_unsafe w ⟨b,off,none⟩ hs hd hj hc.1 hsh hc.2
  ·rename_i u hs hd
   simp only[Bool.and_eq_true,Option.isSome_iff_exists]at hc
   obtain⟨⟨j,hj⟩,hl⟩:=hc
   exact Lib.run_from_unsafe w ⟨b,off,none⟩ hs hd hj hsh hl
theorem bin_nil {T:TypeId}{A B:Value}{b:Bool}(hE:(Op.equal T A B).run P w=.ok b w)(h1:binOp .eql T A B=(do pure (.bool (← Op.equal T A B))))(h2:binOp .neq T A B=(do pure (.bool (!(← Op.equal T A B))))) :
  (binOp .eql T A B).run P w=.ok (.bool b) w∧(binOp .neq T A B).run P w=.ok (.bool !b) w:=by
 rw[h1,h2]
 constructor<;>simp only[Sem.run_bind,hE,Result.andThen_ok,Sem.run_pure]
theorem run_nil {G:Gh}{T:TypeId}{u u':Value}{x y:VV}{b:Bool}{op:BinOp}{ox oy:Operand}(hx:R G u x)(hy:R G u' y)(h:nilB (qi P T).k x y=some b)(hc:oy.isConst=true) :
  (eqGuard op T ox oy u u').run P w=.ok () w∧(binOp .eql T u u').run P w=.ok (.bool b) w∧(binOp .neq T u u').run P w=.ok (.bool !b) w:=by
 have ki:∀k,(qi P T).k=k→k≠.other→∃d,P.underlying T=some d∧qkOf d=k:=fun k hk hne=>by
  obtain⟨d,i,hd,hi,hkT,_⟩:=qi_spec (P:=P) T (.inr (.inl (by rw[hk];exact hne)))
  exact⟨d,hd,by rw[← hk,hkT]⟩
 have main:∀(u u':Value),(∀d,(Op.equalIn (d+1) T u u').run P w=.ok b w)→(Op.equal T u u').run P w=.ok b w:=fun u u' h=>h 9999
 cases oy with
 |const c=>
  generalize hk:(qi P T).k=k at h
  unfold nilB at h
  split at h<;>first|(cases h;done)|skip
  all_goals
   injection h with h
   subst h
   cases hx
   cases hy
   obtain⟨d,hd,hq⟩:=ki _ hk (by simp)
   refine⟨by cases op<;>first|rfl|simp[eqGuard],?_⟩
   refine bin_nil (main _ _ fun d'=>?_) rfl rfl
   cases d<;>simp[qkOf]at hq<;>simp[Op.equalIn,run_underlying hd]
 |_=>cases hc
theorem run_part1 {T:TypeId}{xs:Array Value}{off:Nat}{v:Value}(hk:cmpK (qi P T).k=true)(hx:xs[off]?=some v):(part T xs off).run P w=.ok v w:=by
 obtain⟨d,i,hd,hi,hkT,_⟩:=qi_spec (P:=P) T (.inr (.inl (by intro e;rw[e]at hk;cases hk)))
 rw[hkT]at hk
 have hag:(qkOf d).agg=false:=by cases hq:qkOf d<;>rw[hq]at hk<;>first|rfl|cases hk
 unfold part
 simp[Sem.run_bind,run_isAgg hd,Result.andThen_ok,hag,hx]
theorem run_eq1 {G:Gh}{T:TypeId}{x y:VV}{v u:Value}{b:Bool}(e:Nat)(hx:R G v x)(hy:R G u y)(h:eq1 (qi P T).k x y=some b):(Op.equalIn (e+1) T v u).run P w=.ok b w:=by
 have ki:∀k,(qi P T).k=k→k≠.other→∃d,P.underlying T=some d∧qkOf d=k:=fun k hk hne=>by
  obtain⟨d,i,hd,hi,hkT,_⟩:=qi_spec (P:=P) T (.inr (.inl (by rw[hk];exact hne)))
  exact⟨d,hd,by rw[← hk,hkT]⟩
 generalize hk:(qi P T).k=k at h
 unfold eq1 at h
 split at h
 ·rename_i k0 p a q b'
  split at h
  ·rename_i hpq
   injection h with h
   subst h;subst hpq
   cases hx;cases hy
   obtain⟨d,hd,hq⟩:=ki _ hk (by simp)
   cases d<;>simp[qkOf]at hq
   rw[run_equalIn_int w e T _ _ _ _ hd]
   congr 1
  ·cases h
 ·injection h with h
  subst h
  obtain⟨d,hd,hq⟩:=ki _ hk (by simp)
  cases d<;>simp[qkOf]at hq
  cases hx with
  |str a=>
   cases hy with
   |str b=>
    rw[run_equalIn_string w e T _ _ hd,ByteArray.toList_eq,ByteArray.toList_eq]
    congr 1
    rw[Bool.eq_iff_iff];simp
 ·injection h with h
  subst h
  cases hx;cases hy
  obtain⟨d,hd,hq⟩:=ki _ hk (by simp)
  cases d<;>simp[qkOf]at hq
  rw[run_equalIn_bool' w e T _ _ hd]
 ·cases h
theorem run_eqF {G:Gh}{vs us:Array Value}(e:Nat):∀(fs:List Field) (i:Nat) (xs ys:List VV) (b:Bool),flatF P i fs=true →
  (∀(j:Nat) (y:VV),xs[j]?=some y→∃v,vs[i+j]?=some v∧R G v y)→(∀(j:Nat) (y:VV),ys[j]?=some y→∃v,us[i+j]?=some v∧R G v y) →
  eqF (fs.map fun f=>(qi P f.type).k) xs ys=some b→(Op.eqFields (e+1) vs us fs).run P w=.ok b w
 |[],i,xs,ys,b,_,hx,hy,h=>by
  cases xs<;>cases ys<;>simp[eqF]at h
  subst h
  simp[Op.eqFields]
 |f::fs,i,xs,ys,b,hf,hx,hy,h=>by
  cases xs with
  |nil=>simp[eqF]at h
  |cons x xs=>
   cases ys with
   |nil=>simp[eqF]at h
   |cons y ys=>
    simp only[flatF,Bool.and_eq_true,bne_iff_ne,ne_eq,beq_iff_eq]at hf
    obtain⟨⟨⟨h1,h2⟩,h3⟩,h4⟩:=hf
    simp only[List.map_cons,eqF]at h
    cases hr:eq1 (qi P f.type).k x y with
    |none=>rw[hr]at h;simp at h
    |some r=>
     rw[hr]at h
     simp only[Option.bind_some]at h
     cases hz:eqF (fs.map fun f=>(qi P f.type).k) xs ys with
     |none=>rw[hz]at h;simp at h
     |some z=>
      rw[hz]at h
      simp only[Option.map_some]at h
      injection h with h
      obtain⟨v,hv,rv⟩:=hx 0 x rfl
      obtain⟨u,hu,ru⟩:=hy 0 y rfl
      rw[Nat.add_zero]at hv hu
      have ih:=run_eqF e fs (i+1) xs ys z h4 (fun j q hq=>by have:=hx (j+1) q (by simpa using hq);rwa [show i+1+j=i+(j+1) by omega]) (fun j q hq=>by have:=hy (j+1) q (by simpa using hq);rwa [show i+1+j=i+(j+1) by omega]) hz
      simp only[Op.eqFields]
      rw[if_pos h1,h2]
      simp only[Sem.run_bind,run_part1 (w:=w) h3 hv,run_part1 (w:=w) h3 hu,Result.andThen_ok,run_eq1 (P:=P) (w:=w) e rv ru hr]
      cases r with
      |false=>simp at h;subst h;simp
      |true=>simp at h;subst h;simpa using ih
theorem run_eqI {G:Gh}{vs us:Array Value}{T:TypeId}(e:Nat)(hc:cmpK (qi P T).k=true):∀(n i:Nat) (xs ys:List VV) (b:Bool),
  (∀(j:Nat) (y:VV),xs[j]?=some y→∃v,vs[i+j]?=some v∧R G v y)→(∀(j:Nat) (y:VV),ys[j]?=some y→∃v,us[i+j]?=some v∧R G v y) →
  eqF (List.replicate n (qi P T).k) xs ys=some b→(Op.eqItems (e+1) T 1 vs us (List.range' i n)).run P w=.ok b w
 |0,i,xs,ys,b,hx,hy,h=>by
  cases xs<;>cases ys<;>simp[eqF]at h
  subst h
  simp[Op.eqItems]
 |n+1,i,xs,ys,b,hx,hy,h=>by
  rw[List.replicate_succ]at h
  cases xs with
  |nil=>simp[eqF]at h
  |cons x xs=>
   cases ys with
   |nil=>simp[eqF]at h
   |cons y ys=>
    simp only[eqF]at h
    cases hr:eq1 (qi P T).k x y with
    |none=>rw[hr]at h;simp at h
    |some r=>
     rw[hr]at h
     simp only[Option.bind_some]at h
     cases hz:eqF (List.replicate n (qi P T).k) xs ys with
     |none=>rw[hz]at h;simp at h
     |some z=>
      rw[hz]at h
      simp only[Option.map_some]at h
      injection h with h
      obtain⟨v,hv,rv⟩:=hx 0 x rfl
      obtain⟨u,hu,ru⟩:=hy 0 y rfl
      rw[Nat.add_zero]at hv hu
      have ih:=run_eqI e hc n (i+1) xs ys z (fun j q hq=>by have:=hx (j+1) q (by simpa using hq);rwa [show i+1+j=i+(j+1) by omega]) (fun j q hq=>by have:=hy (j+1) q (by simpa using hq);rwa [show i+1+j=i+(j+1) by omega]) hz
      rw[List.range'_succ]
      simp only[Op.eqItems,Nat.mul_one]
      simp only[Sem.run_bind,run_part1 (w:=w) hc hv,run_part1 (w:=w) hc hu,Result.andThen_ok,run_eq1 (P:=P) (w:=w) e rv ru hr]
      cases r with
      |false=>simp at h;subst h;simp
      |true=>simp at h;subst h;simpa using ih
theorem run_agq {G:Gh}{T:TypeId}{vs us:Array Value}{xs ys:List VV}{b:Bool}{op:BinOp}{ox oy:Operand}(hx:R G (.agg vs) (.agg xs))(hy:R G (.agg us) (.agg ys))(h:vagq P T xs ys=some b) :
  (eqGuard op T ox oy (.agg vs) (.agg us)).run P w=.ok () w∧(binOp .eql T (.agg vs) (.agg us)).run P w=.ok (.bool b) w∧(binOp .neq T (.agg vs) (.agg us)).run P w=.ok (.bool !b) w:=by
 unfold vagq at h
 cases hk:ek P T with
 |none=>rw[hk]at h;simp at h
 |some ks=>
  rw[hk]at h
  simp only[Option.bind_some]at h
  unfold ek at hk
  split at hk
  ·rename_i fs hT
   split at hk
   ·rename_i hc
    injection hk with hk
    subst hk
    simp only[Bool.and_eq_true,Bool.not_eq_true']at hc
    obtain⟨⟨c1,c2⟩,c3⟩:=hc
    have hfo:P.fieldsOf T=fs:=by unfold Program.fieldsOf;rw[hT]
    have hT':P.underlying T=some (.struct (P.fieldsOf T)):=by rw[hfo];exact hT
    have ha:∀(vs:Array Value) (xs:List VV),R G (.agg vs) (.agg xs)→∀(j:Nat) (y:VV),xs[j]?=some y→∃v,vs[0+j]?=some v∧R G v y:=by
     intro vs xs hx j y hj
     cases hx with
     |agg _ _ hs h1 hR=>
      have hlt:j<vs.size:=by rw[hs];exact(List.getElem?_eq_some_iff.1 hj).1
      rw[Nat.zero_add]
      exact⟨vs[j],Array.getElem?_eq_getElem hlt,hR j _ _ (Array.getElem?_eq_getElem hlt) hj⟩
    have hE:=run_eqF (P:=P) (w:=w) (G:=G) (vs:=vs) (us:=us) 9998 fs.toList 0 xs ys b c3 (ha _ _ hx) (ha _ _ hy) h
    have hE2:(Op.equalIn 10000 T (.agg vs) (.agg us)).run P w=.ok b w:=by
     rw[run_equalIn_agg w 9999 T vs us hT' c1,hfo];exact hE
    refine⟨run_eqGuard_agg w op T ox oy vs us c2,?_,?_⟩
    ·rw[run_eql_struct,hE2];rfl
    ·rw[run_neq_struct,hE2];rfl
   ·cases hk
  ·rename_i n e hT
   split at hk
   ·rename_i hc
    injection hk with hk
    subst hk
    simp only[Bool.and_eq_true,Bool.not_eq_true',beq_iff_eq]at hc
    obtain⟨⟨c1,c2⟩,c3⟩:=hc
    obtain⟨d',i',hd',hi',_,_,_⟩:=qi_spec (P:=P) e (.inr (.inl (by intro x;rw[x]at c2;cases c2)))
    have ha:∀(vs:Array Value) (xs:List VV),R G (.agg vs) (.agg xs)→∀(j:Nat) (y:VV),xs[j]?=some y→∃v,vs[0+j]?=some v∧R G v y:=by
     intro vs xs hx j y hj
     cases hx with
     |agg _ _ hs h1 hR=>
      have hlt:j<vs.size:=by rw[hs];exact(List.getElem?_eq_some_iff.1 hj).1
      rw[Nat.zero_add]
      exact⟨vs[j],Array.getElem?_eq_getElem hlt,hR j _ _ (Array.getElem?_eq_getElem hlt) hj⟩
    have hE:=run_eqI (P:=P) (w:=w) (G:=G) (vs:=vs) (us:=us) (T:=e) 9998 c2 n 0 xs ys b (ha _ _ hx) (ha _ _ hy) h
    have hE2:(Op.equalIn 10000 T (.agg vs) (.agg us)).run P w=.ok b w:=by
     rw[run_equalIn_array w 9999 vs us hT hi',c3,List.range_eq_range'];exact hE
    refine⟨run_eqGuard_agg w op T ox oy vs us c1,?_,?_⟩
    ·rw[run_eql_struct,hE2];rfl
    ·rw[run_neq_struct,hE2];rfl
   ·cases hk
  ·cases hk
theorem str_beq (a b:Array UInt8):((⟨a⟩:ByteArray).toList == (⟨b⟩:ByteArray).toList)=decide (a.toList=b.toList):=by
 rw[ByteArray.toList_eq,ByteArray.toList_eq]
 rw[Bool.eq_iff_iff]
 simp
theorem RL.map {N:Nat}{a:Act}(hf:FR N G a.tmps env)(l:List Operand):RL G (l.map a.eval).toArray (l.map (rd env)):=
 ⟨by simp,fun j v y hv hy=>by
  rw[List.getElem?_toArray,List.getElem?_map]at hv
  rw[List.getElem?_map]at hy
  cases hj:l[j]? with
  |none=>simp[hj]at hv
  |some x=>
   simp[hj]at hv hy
   subst hv;subst hy
   exact hf.eval x⟩
theorem RL.append {vs us:Array Value}{xs ys:List VV}(h:RL G vs xs)(h':RL G us ys):RL G (vs++us) (xs++ys):=
 ⟨by simp[h.1,h'.1],fun j v y hv hy=>by
  rcases Nat.lt_or_ge j vs.size with hj|hj
  ·rw[Array.getElem?_append_left hj]at hv
   rw[List.getElem?_append_left (by rw[← h.1];exact hj)]at hy
   exact h.2 j v y hv hy
  ·rw[Array.getElem?_append_right hj]at hv
   rw[List.getElem?_append_right (by rw[← h.1];exact hj)]at hy
   rw[h.1]at hv
   exact h'.2 _ v y hv hy⟩
theorem sound_call {c:Call}{f:Operand}(hf:FR N G a.tmps env)(hD:a.defers=D)(hS:Sim w0 G w s)(ho:o.op=.call c)(hc:c.callee=.value f)
  (h:vcall P N E o.dst k env s (rd env f) (c.args.toList.map (rd env))):o.wp P a w (Nx N w0 G D k) (Px N w0 G D E):=by
 obtain⟨g,caps,Q,hfn,hcx,hr,hp⟩:=h
 have hv:=hf.eval f
 rw[hfn]at hv
 generalize hev:a.eval f=fv at hv
 cases hv with
 |fn g vs xs hs hR=>
  have hargs:RL G ((c.args.map a.eval)++vs) (c.args.toList.map (rd env)++caps):=by
   have h1:=RL.map hf c.args.toList
   have e:(c.args.toList.map a.eval).toArray=c.args.map a.eval:=by
    apply Array.toList_inj.1;simp
   rw[e]at h1
   exact h1.append ⟨hs,hR⟩
  have hex:(execOp a.eval o).run P w=(callFunc g ((c.args.map a.eval)++vs)).run P w:=by
   unfold execOp
   simp only[ho,resolve,hc,hev,Deferred.ofValue,Sem.run_bind,Sem.run_pure,Result.andThen_ok,invoke]
   rw[Array.empty_append]
  rcases hcx with ⟨hcall,hcs⟩|hx
  ·have hrun:=hex.trans (hcall _ _)
   unfold Oper.wp
   rw[hrun,Oper.upon_enter]
   refine(hcs w0 G w _ hS hargs).mono ?_
   rintro e w' ⟨G',s',x,hG,hS',hE,hQ⟩
   cases e with
   |returned v=>
    cases x with
    |ret x=>exact⟨G',_,s',hG,(hf.mono hG).put o.dst hE,(put_defers _ _ _).trans hD,hS',hr x s' hQ⟩
    |panic x=>exact hE.elim
   |panicked ch=>
    cases x with
    |ret x=>exact hE.elim
    |panic x=>
     obtain⟨v,rfl,hv⟩:=hE
     exact⟨G',env,s',v,x,rfl,hv,hG,hf.mono hG,hD,hS',hp x s' hQ⟩
   |outgrown=>cases x<;>exact hE.elim
  ·obtain⟨v,w',G',s',y,hrun,hG,hS',hR,hQ⟩:=hx w0 G w _ hS hargs
   exact wp_value hf hD (hex.trans hrun) hG hR hS' (hr y s' hQ)
theorem RO.map {N:Nat}{a:Act}(hf:FR N G a.tmps env)(x:Option Operand):RO G (x.map a.eval) (x.map (rd env)):=by
 cases x with
 |none=>trivial
 |some x=>exact hf.eval x
theorem parts_map {N:Nat}{a:Act}(hf:FR N G a.tmps env)(parts:Array (Nat×Operand)) :
  (parts.map fun(i,x)=>(i,a.eval x)).size=(parts.toList.map fun p=>(p.1,rd env p.2)).length ∧
  ∀(i:Nat) (p:Nat×VV) (q:Nat×Value),(parts.toList.map fun p=>(p.1,rd env p.2))[i]?=some p→(parts.map fun(i,x)=>(i,a.eval x))[i]?=some q→p.1=q.1∧R G q.2 p.2:=by
 refine⟨by simp,fun i p q hp hq=>?_⟩
 rw[List.getElem?_map]at hp
 rw[Array.getElem?_map]at hq
 rw[Array.getElem?_toList]at hp
 cases hj:parts[i]? with
 |none=>simp[hj]at hp
 |some r=>
  simp[hj]at hp hq
  subst hp;subst hq
  exact⟨rfl,hf.eval r.2⟩
set_option maxHeartbeats 2000000 in
theorem step_sound (hf:FR N G a.tmps env)(hD:a.defers=D)(hS:Sim w0 G w s)(h:vstep P N E o k env s):o.wp P a w (Nx N w0 G D k) (Px N w0 G D E):=by
 have hle:=Gh.le.refl G
 unfold vstep at h
 split at h
 ·rename_i x ho
  exact wp_value hf hD (by unfold execOp;rw[ho];rfl) hle (hf.eval x) hS h
 ·rename_i x ho
  exact wp_value hf hD (by unfold execOp;rw[ho];rfl) hle (hf.eval x) hS h
 ·
  rename_i c x y ho
  split at h
  ·rename_i t hc
   have hv:=hf.eval c
   rw[hc]at hv
   generalize hev:a.eval c=cv at hv
   cases hv
   refine wp_value hf hD (v:=if t then a.eval x else a.eval y) (by unfold execOp;rw[ho];simp[hev,asBool]) hle ?_ hS h
   cases t
   ·exact hf.eval y
   ·exact hf.eval x
  ·exact h.elim
 ·
  rename_i T ho
  obtain⟨hz,h⟩:=h
  obtain⟨z,i,d,hi,hd,hk,hs,hzz,hpos,hzs,hag,hrl⟩:=RLs.zero (P:=P) (G:=G) hz
  refine exec_val hf hD (S:=Instr.alloc T true (.tuple #[])) (by unfold execOp;rw[ho]) (v:=.pointer (some ⟨w.heap.size,0,none⟩)) (w':=w.alloc (.cells z.cells T)) ?_ hle (.ptr _ _)
   (hS.alloc_obj T z.cells (qi P T).z hrl.1 (fun j x hx=>?_)) (h _ hS.new)
  ·unfold Instr.alloc
   simp only[Sem.run_bind,zeroValue,typeInfo,run_program,Result.andThen_ok,hi,Sem.run_pure,hzz,newVar,newRow,run_newObj]
   rfl
  ·have hlt:j<z.cells.size:=by rw[hrl.1];exact(List.getElem?_eq_some_iff.1 hx).1
   exact⟨hrl.2.1 x (List.mem_iff_getElem?.2 ⟨j,hx⟩),z.cells[j],Array.getElem?_eq_getElem hlt,hrl.2.2 j _ x (Array.getElem?_eq_getElem hlt) hx⟩
 ·
  rename_i T x ho
  obtain⟨h1,h⟩:=h
  have hrl:=RLs.of_cells (hf.eval x) h1
  refine exec_val hf hD (S:=Instr.box T (a.eval x)) (by unfold execOp;rw[ho]) (v:=.pointer (some ⟨w.heap.size,0,none⟩)) (w':=w.alloc (.cells (a.eval x).cells T)) ?_ hle (.ptr _ _)
   (hS.alloc_obj T _ _ hrl.1 (fun j y hy=>?_)) (h _ hS.new)
  ·simp only[Instr.box,newVar,newRow,Sem.run_bind,run_newObj,Result.andThen_ok,Sem.run_pure]
   rfl
  ·have hlt:j<(a.eval x).cells.size:=by rw[hrl.1];exact(List.getElem?_eq_some_iff.1 hy).1
   exact⟨hrl.2.1 y (List.mem_iff_getElem?.2 ⟨j,hy⟩),(a.eval x).cells[j],Array.getElem?_eq_getElem hlt,hrl.2.2 j _ y (Array.getElem?_eq_getElem hlt) hy⟩
 ·
  rename_i T parts ho
  obtain⟨hfk,hz,h⟩:=h
  obtain⟨cs,hcs,h⟩:=optB_some h
  obtain⟨hl,hp⟩:=parts_map hf parts
  obtain⟨vs,hrun,hrl⟩:=run_build (P:=P) (w:=w) hz hl hp hcs hfk
  exact exec_val hf hD (by unfold execOp;rw[ho]) hrun hle (.agg _ _ hrl.1 hrl.2.1 hrl.2.2) hS h
 ·
  rename_i T len parts ho
  obtain⟨hlen,hz,hbig,hk,h⟩:=h
  obtain⟨xs,hxs,h⟩:=optB_some h
  obtain⟨hl,hp⟩:=parts_map hf parts
  cases hkk:(qi P T).k<;>rw[hkk]at hk<;>first|exact hk.elim|skip
  rename_i e
  have he:elemT (qi P T)=e:=by simp[elemT,hkk]
  rw[he]at hz hbig hxs
  by_cases hmu:mutL T o.pos=true
  ·rw[if_pos hmu,he]at h
   obtain⟨h0,h⟩:=h
   obtain⟨v,w',G',hrun,hG,hfr,hS',hR⟩:=run_buildSliceM (P:=P) (T:=T) (len:=len) hS hkk hz (by simpa using hlen) h0 hbig hl hp hxs
   exact exec_val hf hD (by unfold execOp;rw[ho]) hrun hG hR hS' (h _ hfr)
  ·rw[if_neg hmu]at h
   obtain⟨v,w',G',hrun,hG,hS',hR⟩:=run_buildSlice (P:=P) (T:=T) (len:=len) hS hkk hz (by simpa using hlen) hbig hl hp hxs
   exact exec_val hf hD (by unfold execOp;rw[ho]) hrun hG hR hS' h
 ·
  rename_i T x ho
  obtain⟨y,hy,h⟩:=optB_some h
  obtain⟨v,hrun,hR⟩:=run_vload (P:=P) hS (hf.eval x) hy
  exact exec_val hf hD (by unfold execOp;rw[ho]) hrun hle hR hS h
 ·
  rename_i T x y ho
  obtain⟨s',hs,h⟩:=optB_some h
  obtain⟨w',hrun,hS'⟩:=run_vstore (P:=P) hS (hf.eval x) (hf.eval y) hs
  exact wp_skip' hf hD (by unfold execOp;rw[ho];simp[hrun]) hle hS' h
 ·
  rename_i x ho
  obtain⟨h1,h⟩:=h
  refine wp_value hf hD (v:=a.eval x) ?_ hle (hf.eval x) hS h
  have hv:=hf.eval x
  cases hx:rd env x<;>rw[hx]at h1 hv<;>first|exact h1.elim|skip
  all_goals
   generalize hu:a.eval x=u at hv
   cases hv
   simp[execOp,ho,hu]
 ·
  rename_i op T x y T' ho
  have hx:=hf.eval x
  have hy:=hf.eval y
  have hex:execOp a.eval o=(do pure (Next.value (← (do eqGuard op T x y (a.eval x) (a.eval y);binOp op T (a.eval x) (a.eval y))))):=by unfold execOp;rw[ho]
  split at h
  ·rename_i kd p kd' q e1 e2
   obtain⟨hkk,h⟩:=h
   obtain⟨z,hz,h⟩:=optB_some h
   rw[e1]at hx
   rw[e2]at hy
   generalize a.eval x=u at hx hex
   generalize a.eval y=u' at hy hex
   cases hx
   cases hy
   obtain⟨v,hrun,hR⟩:=run_binOp_int (P:=P) (w:=w) (T:=T) (G:=G) hkk hz
   exact exec_val hf hD hex (by simp only[Sem.run_bind,eqg_int,Result.andThen_ok];exact hrun) hle hR hS h
  ·rename_i p q e1 e2
   rw[e1]at hx
   rw[e2]at hy
   generalize a.eval x=u at hx hex
   generalize a.eval y=u' at hy hex
   cases hx with
   |str p=>
    cases hy with
    |str q=>
     split at h
     ·obtain⟨hb,h⟩:=h
      refine exec_val hf hD hex (v:=.string ⟨p++q⟩) ?_ hle (by simpa using R.str (G:=G) (p++q)) hS h
      simp only[Sem.run_bind,eqg_str,Result.andThen_ok]
      simp only[binOp,Op.stringOp]
      have e:((((⟨p⟩:ByteArray).size+(⟨q⟩:ByteArray).size:Nat)):Int)=((p.toList.length+q.toList.length:Nat):Int):=by simp[ByteArray.size]
      rw[e]
      rw[if_neg (by rw[show IntKind.i64.max=9223372036854775807 by decide];omega)]
      simp only[Sem.run_pure,Result.ok.injEq,and_true,Value.string.injEq]
      exact ByteArray.ext (by simp)
     ·refine exec_val hf hD hex (v:=.bool (decide (p.toList=q.toList))) ?_ hle (.bool _) hS h
      simp only[Sem.run_bind,eqg_str,Result.andThen_ok,binOp,Op.stringOp,Sem.run_pure,str_beq]
     ·refine exec_val hf hD hex (v:=.bool !(decide (p.toList=q.toList))) ?_ hle (.bool _) hS h
      simp only[Sem.run_bind,eqg_str,Result.andThen_ok,binOp,Op.stringOp,Sem.run_pure,str_beq]
     ·exact h.elim
  ·rename_i p q e1 e2
   obtain⟨hk,h⟩:=h
   rw[e1]at hx
   rw[e2]at hy
   generalize a.eval x=u at hx hex
   generalize a.eval y=u' at hy hex
   cases hx
   cases hy
   have hkb:(qi P T).k=.bool:=by cases hk':(qi P T).k<;>rw[hk']at hk<;>first|rfl|exact hk.elim
   have hd:=kind_bool hkb
   split at h
   ·refine exec_val hf hD hex (v:=.bool (p == q)) ?_ hle (.bool _) hS h
    simp only[Sem.run_bind,eqg_bool,Result.andThen_ok,binOp]
    simp[Op.equal,Op.maxDepth,run_eq_bool hd 9999]
   ·refine exec_val hf hD hex (v:=.bool !(p == q)) ?_ hle (.bool _) hS h
    simp only[Sem.run_bind,eqg_bool,Result.andThen_ok,binOp]
    simp[Op.equal,Op.maxDepth,run_eq_bool hd 9999]
   ·exact h.elim
  ·rename_i b i b' j e1 e2
   obtain⟨hp,rfl,rfl,h⟩:=h
   rw[e1]at hx
   rw[e2]at hy
   generalize a.eval x=u at hx hex
   generalize a.eval y=u' at hy hex
   cases hx
   cases hy
   have hE:(Op.equal T (.pointer (some ⟨b,i,none⟩)) (.pointer (some ⟨b,i,none⟩))).run P w=.ok true w:=run_eq_ptr hp _ w
   have hg:(eqGuard op T x y (.pointer (some ⟨b,i,none⟩)) (.pointer (some ⟨b,i,none⟩))).run P w=.ok () w:=by cases op<;>first|rfl|simp[eqGuard]
   obtain⟨hE1,hE2⟩:=bin_nil hE rfl rfl
   split at h
   ·refine exec_val hf hD hex (v:=.bool true) ?_ hle (.bool _) hS h
    simp only[Sem.run_bind,hg,Result.andThen_ok];exact hE1
   ·refine exec_val hf hD hex (v:=.bool false) ?_ hle (.bool _) hS h
    simp only[Sem.run_bind,hg,Result.andThen_ok];exact hE2
   ·exact h.elim
  ·rename_i xs ys e1 e2
   rw[e1]at hx
   rw[e2]at hy
   generalize a.eval x=u at hx hex
   generalize a.eval y=u' at hy hex
   cases u<;>first|(cases hx;done)|skip
   cases u'<;>first|(cases hy;done)|skip
   split at h
   ·obtain⟨b,hb,h⟩:=optB_some h
    obtain⟨h1,h2,_⟩:=run_agq (P:=P) (w:=w) (op:=.eql) (ox:=x) (oy:=y) hx hy hb
    exact exec_val hf hD hex (v:=.bool b) (by simp only[Sem.run_bind,h1,Result.andThen_ok];exact h2) hle (.bool _) hS h
   ·obtain⟨b,hb,h⟩:=optB_some h
    obtain⟨h1,_,h2⟩:=run_agq (P:=P) (w:=w) (op:=.neq) (ox:=x) (oy:=y) hx hy hb
    exact exec_val hf hD hex (v:=.bool !b) (by simp only[Sem.run_bind,h1,Result.andThen_ok];exact h2) hle (.bool _) hS h
   ·exact h.elim
  ·obtain⟨hcy,h⟩:=h
   split at h
   ·obtain⟨b,hb,h⟩:=optB_some h
    obtain⟨h1,h2,_⟩:=run_nil (P:=P) (w:=w) (op:=.eql) (ox:=x) (oy:=y) hx hy hb hcy
    exact exec_val hf hD hex (v:=.bool b) (by simp only[Sem.run_bind,h1,Result.andThen_ok];exact h2) hle (.bool _) hS h
   ·obtain⟨b,hb,h⟩:=optB_some h
    obtain⟨h1,_,h2⟩:=run_nil (P:=P) (w:=w) (op:=.neq) (ox:=x) (oy:=y) hx hy hb hcy
    exact exec_val hf hD hex (v:=.bool !b) (by simp only[Sem.run_bind,h1,Result.andThen_ok];exact h2) hle (.bool _) hS h
   ·exact h.elim
 ·
  rename_i src dst x ho
  have hx:=hf.eval x
  have hex:execOp a.eval o=(do pure (Next.value (← convert src dst (a.eval x)))):=by unfold execOp;rw[ho]
  obtain⟨z,hz,h⟩:=optB_some h
  obtain⟨v,hrun,hR⟩:=run_vconv (P:=P) hS hx hz
  exact exec_val hf hD hex hrun hle hR hS h
 ·
  rename_i op T x ho
  have hx:=hf.eval x
  have hex:execOp a.eval o=(do pure (Next.value (← Op.unary op (a.eval x)))):=by unfold execOp;rw[ho]
  split at h
  ·rename_i b e
   rw[e]at hx
   generalize a.eval x=u at hx hex
   cases hx
   exact exec_val hf hD hex (v:=.bool !b) rfl hle (.bool _) hS h
  ·rename_i kd n e
   rw[e]at hx
   generalize a.eval x=u at hx hex
   cases hx
   exact exec_val hf hD hex (v:=.int kd (kd.wrap (0 - n))) rfl hle (.int _ _) hS h
  ·exact h.elim
 ·
  rename_i T x j ho
  have hx:=hf.eval x
  have hex:execOp a.eval o=(do pure (Next.value (← Instr.fieldAt T (a.eval x) j))):=by unfold execOp;rw[ho]
  split at h
  ·rename_i cs off sz ag e1 e2
   obtain⟨_,h⟩:=h
   rw[e1]at hx
   obtain⟨b,of,hu,_⟩:=Lies.of_eptr hS hx
   rw[hu]at hx hex
   exact exec_val hf hD hex (run_fieldAt (P:=P) e2 b of) hle (hx.eptr_drop off) hS h
  ·rename_i b of off sz ag e1 e2
   rw[e1]at hx
   generalize a.eval x=u at hx hex
   cases hx
   exact exec_val hf hD hex (run_fieldAt (P:=P) e2 b of) hle (.ptr _ _) hS h
  ·exact h.elim
 ·
  rename_i T x j ho
  have hx:=hf.eval x
  split at h
  ·rename_i cs off sz ag e1 e2
   obtain⟨z,hz,h⟩:=optB_some h
   rw[e1]at hx
   obtain⟨u,hrun,hR⟩:=run_field (P:=P) (w:=w) e2 hx hz
   exact exec_val hf hD (by unfold execOp;rw[ho]) hrun hle hR hS h
  ·exact h.elim
 ·
  rename_i T x i ho
  obtain⟨z,hz,h⟩:=optB_some h
  obtain⟨u,hrun,hR⟩:=run_vidx (P:=P) (w:=w) (hf.eval x) (hf.eval i) hz
  exact exec_val hf hD (by unfold execOp;rw[ho]) hrun hle hR hS h
 ·
  rename_i T x i ho
  obtain⟨z,hz,h⟩:=optB_some h
  obtain⟨u,hrun,hR⟩:=run_vat (P:=P) (w:=w) (hf.eval x) (hf.eval i) hz
  exact exec_val hf hD (by unfold execOp;rw[ho]) hrun hle hR hS h
 ·
  rename_i T x lo hi mx ho
  obtain⟨rfl,h⟩:=h
  obtain⟨z,hz,h⟩:=optB_some h
  obtain⟨u,hrun,hR⟩:=run_vslice (P:=P) (w:=w) (hf.eval x) (RO.map hf lo) (RO.map hf hi) hz
  exact exec_val hf hD (by unfold execOp;rw[ho];rfl) hrun hle hR hS h
 ·
  rename_i T x ho
  obtain⟨hk,h⟩:=h
  refine exec_val hf hD (by unfold execOp;rw[ho]) (v:=.iface T (a.eval x)) ?_ hle (.iface _ _ _ (hf.eval x)) hS h
  have hne:(qi P T).k≠.other:=by intro e;rw[e]at hk;exact hk
  obtain⟨d,i,hd,hi,hkk,_⟩:=qi_spec (P:=P) T (.inr (.inl hne))
  rw[hkk]at hk
  unfold Instr.makeInterface
  simp only[Sem.run_bind,run_underlying hd,Result.andThen_ok]
  cases d<;>first|rfl|exact hk.elim
 ·
  rename_i f fs caps ho
  obtain⟨rfl,h⟩:=h
  have hm:=RL.map hf caps.toList
  have e:(caps.toList.map a.eval).toArray=caps.map a.eval:=by
   apply Array.toList_inj.1;simp
  rw[e]at hm
  exact exec_val hf hD (by unfold execOp;rw[ho]) (v:=.func (.func f) #[] (caps.map a.eval)) (by simp[Instr.makeFunc]) hle (.fn f _ _ hm.1 hm.2) hS h
 ·
  rename_i T l c ho
  split at h
  ·rename_i k1 n k2 m z e1 e2 e3
   obtain⟨rfl,h0,hb,hn,hk,hz,h⟩:=h
   have hl:=hf.eval l
   have hc:=hf.eval c
   rw[e1]at hl
   rw[e2]at hc
   have hex:execOp a.eval o=(do pure (Next.value (← Instr.makeSlice T (a.eval l) (a.eval c)))):=by unfold execOp;rw[ho]
   generalize a.eval l=u at hl hex
   generalize a.eval c=u' at hc hex
   cases hl
   cases hc
   obtain⟨e,hke⟩:∃e,(qi P T).k=.slice e:=by
    cases hq:(qi P T).k<;>rw[hq]at hk<;>first|exact⟨_,rfl⟩|exact hk.elim
   have hel:elemT (qi P T)=e:=by unfold elemT;rw[hke]
   rw[hel]at hb hz h e3
   obtain⟨d,i,hd,hi,hkT,_⟩:=qi_spec (P:=P) T (.inr (.inl (by rw[hke];intro x;cases x)))
   have hds:d=.slice e:=by
    rw[hke]at hkT
    cases d<;>simp[qkOf]at hkT
    rw[hkT]
   subst hds
   obtain⟨zv,j,de,hj,hde,hkk,hs,hzz,hpos,hzs,hag,hrl⟩:=RLs.zero (P:=P) (G:=G) hz
   obtain⟨de',j',hde',hj',_,_,hbt⟩:=qi_spec (P:=P) e (.inr (.inr hz))
   rw[hj]at hj'
   injection hj' with hj'
   subst hj'
   rw[e3]at hrl
   have hsz1:zv.cells.size=1:=hrl.1
   have hj1:j.size=1:=by omega
   refine exec_val hf hD hex (v:=.slice (some ⟨w.heap.size,0,none⟩) n.toNat n.toNat) (w':=w.alloc (.cells (madeCells zv.cells (n.toNat * j.size)) e)) ?_ hle (.msl _ _)
    (hS.alloc_obj e _ (List.replicate n.toNat z) (by rw[size_madeCells,hj1,List.length_replicate,Nat.mul_one]) (fun x y hy=>?_)) (by rw[← hel];exact hel ▸ h _ hS.new)
   ·exact run_make (P:=P) w T e j zv hd hj hzz k1 k2 n n h0 (Int.le_refl _) (by rw[hbt]at hb;rw[Int.mul_comm];omega) (by omega)
   ·obtain⟨hx,rfl⟩:x<n.toNat∧y=z:=by
     rw[List.getElem?_replicate]at hy
     split at hy
     ·injection hy with hy;exact⟨by assumption,hy.symm⟩
     ·cases hy
    refine⟨hrl.2.1 y (by simp),zv.cells[0]'(by omega),?_,hrl.2.2 0 _ y (Array.getElem?_eq_getElem (by omega)) rfl⟩
    have hlt:x<(madeCells zv.cells (n.toNat * j.size)).size:=by rw[size_madeCells,hj1];omega
    rw[Array.getElem?_eq_getElem hlt]
    simp only[madeCells,Array.getElem_map,Array.getElem_range,hsz1,Nat.mod_one]
    congr 1
    simp[hsz1]
  ·rename_i k1 n k2 m z1 z2 zs e1 e2 e3
   obtain⟨rfl,h0,hb,hn,hk,hz,h⟩:=h
   have hl:=hf.eval l
   have hc:=hf.eval c
   rw[e1]at hl
   rw[e2]at hc
   have hex:execOp a.eval o=(do pure (Next.value (← Instr.makeSlice T (a.eval l) (a.eval c)))):=by unfold execOp;rw[ho]
   generalize a.eval l=u at hl hex
   generalize a.eval c=u' at hc hex
   cases hl
   cases hc
   obtain⟨e,hke⟩:∃e,(qi P T).k=.slice e:=by
    cases hq:(qi P T).k<;>rw[hq]at hk<;>first|exact⟨_,rfl⟩|exact hk.elim
   have hel:elemT (qi P T)=e:=by unfold elemT;rw[hke]
   rw[hel]at hb hz h e3 hn
   obtain⟨d,i,hd,hi,hkT,_⟩:=qi_spec (P:=P) T (.inr (.inl (by rw[hke];intro x;cases x)))
   have hds:d=.slice e:=by
    rw[hke]at hkT
    cases d<;>simp[qkOf]at hkT
    rw[hkT]
   subst hds
   obtain⟨zv,j,de,hj,hde,hkk,hs,hzz,hpos,hzs,hag,hrl⟩:=RLs.zero (P:=P) (G:=G) hz
   obtain⟨de',j',hde',hj',_,_,hbt⟩:=qi_spec (P:=P) e (.inr (.inr hz))
   rw[hj]at hj'
   injection hj' with hj'
   subst hj'
   rw[e3]at hrl
   generalize hZ:z1::z2::zs=Z at hrl h
   have hzl:zv.cells.size=Z.length:=hrl.1
   have hys:∀y,y∈List.replicate n.toNat Z→y.length=j.size:=fun y hy=>by
    obtain⟨_,rfl⟩:=List.mem_replicate.1 hy
    omega
   have hn2:n.toNat * j.size≤140737488355328:=by
    rw[hs]at hn
    have:((n.toNat * j.size:Nat):Int)≤140737488355328:=by
     rw[Int.natCast_mul,Int.toNat_of_nonneg (by omega)];exact hn
    omega
   have hle1:n.toNat≤n.toNat * j.size:=Nat.le_mul_of_pos_right _ hpos
   obtain⟨G',hG,hq,hS'⟩:=hS.alloc_row e (madeCells zv.cells (n.toNat * j.size)) (List.replicate n.toNat Z).flatten n.toNat j.size (size_madeCells _ _)
    (by rw[flat_len hys,List.length_replicate];exact Nat.le_refl _) (by simp only[maxLen];omega) (fun x y hy=>by
     obtain⟨a',b',z',h1,h2,h3⟩:=flat_get hys hy
     obtain⟨ha',rfl⟩:a'<n.toNat∧z'=Z:=by
      rw[List.getElem?_replicate]at h1
      split at h1
      ·injection h1 with h1;exact⟨by assumption,h1.symm⟩
      ·cases h1
     have hb':b'<z'.length:=(List.getElem?_eq_some_iff.1 h2).1
     have hlt0:x<n.toNat * j.size:=by
      have:=Nat.mul_le_mul_right j.size ha'
      rw[Nat.succ_mul]at this
      omega
     refine⟨hrl.2.1 y (List.mem_of_getElem? h2),zv.cells[b']'(by omega),?_,hrl.2.2 b' _ y (Array.getElem?_eq_getElem (by omega)) h2⟩
     rw[Array.getElem?_eq_getElem (by rw[size_madeCells];exact hlt0)]
     simp only[madeCells,Array.getElem_map,Array.getElem_range]
     have hmod:x % zv.cells.size=b':=by
      rw[h3,hzs,Nat.mul_comm,Nat.mul_add_mod,Nat.mod_eq_of_lt (by omega)]
     rw[hmod]
     congr 1
     rw[getElem!_pos zv.cells b' (by omega)])
   refine exec_val hf hD hex (v:=.slice (some ⟨w.heap.size,0,none⟩) n.toNat n.toNat) (w':=w.alloc (.cells (madeCells zv.cells (n.toNat * j.size)) e)) ?_ hG
    (R.mrw w.heap.size n.toNat n.toNat j.size (by simpa using hq) (Nat.le_refl _)) hS' (by rw[← hs];exact hel ▸ h _ hS.new)
   exact run_make (P:=P) w T e j zv hd hj hzz k1 k2 n n (by omega) (Int.le_refl _) (by rw[hbt]at hb;rw[Int.mul_comm];omega) (by omega)
  ·exact h.elim
 ·
  rename_i T ho
  refine exec_val hf hD (by unfold execOp;rw[ho]) (v:=.map (some w.heap.size)) (w':=w.alloc (.map #[] 0)) ?_ hle (.mp _) hS.alloc_map (h _ hS.new)
  simp[Instr.makeMap]
 ·
  rename_i T m key ok ho
  obtain⟨z,hz,h⟩:=optB_some h
  obtain⟨u,hrun,hR⟩:=run_vlookup (P:=P) hS (hf.eval m) (hf.eval key) hz
  exact exec_val hf hD (by unfold execOp;rw[ho]) hrun hle hR hS h
 ·
  rename_i T m key x ho
  obtain⟨s',hs,h⟩:=optB_some h
  obtain⟨w',hrun,hS'⟩:=run_vupdate (P:=P) hS (hf.eval m) (hf.eval key) (hf.eval x) hs
  exact wp_skip' hf hD (by unfold execOp;rw[ho];simp[hrun]) hle hS' h
 ·
  rename_i T m key x ho
  obtain⟨s',hs,h⟩:=optB_some h
  obtain⟨w',hrun,hS'⟩:=run_vupdate (P:=P) hS (hf.eval m) (hf.eval key) (hf.eval x) hs
  exact wp_skip' hf hD (by unfold execOp;rw[ho];simp[hrun]) hle hS' h
 ·
  rename_i t i ho
  have ht:=hf.eval t
  split at h
  ·rename_i xs e
   obtain⟨z,hz,h⟩:=optB_some h
   rw[e]at ht
   have hex:execOp a.eval o=(do pure (Next.value (← Instr.extract (a.eval t) i))):=by unfold execOp;rw[ho]
   generalize a.eval t=u at ht hex
   cases ht with
   |tup vs xs hs hR=>
    have hlt:i<vs.size:=by rw[hs];exact(List.getElem?_eq_some_iff.1 hz).1
    exact exec_val hf hD hex (v:=vs[i]) (by simp[Instr.extract,hlt]) hle (hR i _ z (Array.getElem?_eq_getElem hlt) hz) hS h
  ·exact h.elim
 ·
  rename_i x T0 T ok ho
  obtain⟨rfl,hk,h⟩:=h
  have hx:=hf.eval x
  split at h
  ·rename_i T' y e
   obtain⟨rfl,h⟩:=h
   rw[e]at hx
   have hex:execOp a.eval o=(do pure (Next.value (← Instr.typeAssert (a.eval x) T0 T' true))):=by unfold execOp;rw[ho]
   generalize a.eval x=u at hx hex
   cases hx with
   |iface t v y hR=>
    have hne:(qi P T').k≠.other:=by intro e;rw[e]at hk;exact hk
    obtain⟨d,i,hd,hi,hkk,_⟩:=qi_spec (P:=P) T' (.inr (.inl hne))
    rw[hkk]at hk
    refine exec_val hf hD hex (v:=.tuple #[v,.bool true]) ?_ hle (.tup _ _ rfl fun j v' y' h1 h2=>?_) hS h
    ·unfold Instr.typeAssert
     simp only[Sem.run_bind,run_underlying hd,Result.andThen_ok]
     cases d<;>first|exact hk.elim|simp
    ·match j with
     |0=>simp at h1 h2;subst h1;subst h2;exact hR
     |1=>simp at h1 h2;subst h1;subst h2;exact .bool _
     |j+2=>simp at h2
  ·exact h.elim
 ·
  rename_i x ho
  have hx:=hf.eval x
  split at h
  ·rename_i T y e
   rw[e]at hx
   have hex:execOp a.eval o=(do pure (Next.value (← Instr.panic (a.eval x)))):=by unfold execOp;rw[ho]
   generalize a.eval x=u at hx hex
   cases hx with
   |iface t v x hv=>
    unfold Oper.wp
    rw[hex]
    simp only[Instr.panic,Sem.run_bind,run_goPanic,Result.andThen_halt]
    exact⟨G,env,s,.iface T v,.iface T y,rfl,.iface _ _ _ hv,hle,hf,hD,hS,h⟩
  ·exact h.elim
 ·
  rename_i c ho
  split at h
  ·rename_i f hc
   exact sound_call hf hD hS ho hc h
  ·
   rename_i hc
   split at h
   ·rename_i x T e1 e2
    obtain⟨z,hz,h⟩:=optB_some h
    obtain⟨u,hrun,hR⟩:=run_vlen (P:=P) (T:=T) (ty:=o.type) hS (hf.eval x) hz
    have e1':c.args=#[x]:=Array.toList_inj.1 (by simpa using e1)
    have e2':c.argTypes=#[T]:=Array.toList_inj.1 (by simpa using e2)
    refine wp_value hf hD (v:=u) ?_ hle hR hS h
    unfold execOp
    simp[ho,resolve,hc,invoke,builtin,e1',e2',hrun]
   ·exact h.elim
  ·
   rename_i hc
   split at h
   ·rename_i x y e1
    obtain⟨z,hz,h⟩:=optB_some h
    have e1':c.args=#[x,y]:=Array.toList_inj.1 (by simpa using e1)
    have hx:=hf.eval x
    have hy:=hf.eval y
    unfold vminmax at hz
    split at hz
    ·rename_i kd p kd' q e3 e4
     split at hz
     ·rename_i e5
      subst e5
      simp only[Bool.false_eq_true,if_false,Option.some.injEq]at hz
      subst hz
      rw[e3]at hx
      rw[e4]at hy
      generalize hu:a.eval x=u at hx
      generalize hu':a.eval y=u' at hy
      cases hx
      cases hy
      refine wp_value hf hD (v:=.int kd (if q<p then q else p)) ?_ hle (.int _ _) hS h
      unfold execOp
      simp[ho,resolve,hc,invoke,builtin,e1',hu,hu',Builtin.min_,Builtin.min2]
     ·cases hz
    ·cases hz
   ·exact h.elim
  ·
   rename_i hc
   split at h
   ·rename_i x y e1
    obtain⟨z,hz,h⟩:=optB_some h
    have e1':c.args=#[x,y]:=Array.toList_inj.1 (by simpa using e1)
    have hx:=hf.eval x
    have hy:=hf.eval y
    unfold vminmax at hz
    split at hz
    ·rename_i kd p kd' q e3 e4
     split at hz
     ·rename_i e5
      subst e5
      simp only[if_true,Option.some.injEq]at hz
      subst hz
      rw[e3]at hx
      rw[e4]at hy
      generalize hu:a.eval x=u at hx
      generalize hu':a.eval y=u' at hy
      cases hx
      cases hy
      refine wp_value hf hD (v:=.int kd (if p<q then q else p)) ?_ hle (.int _ _) hS h
      unfold execOp
      simp[ho,resolve,hc,invoke,builtin,e1',hu,hu',Builtin.max_,Builtin.max2]
     ·cases hz
    ·cases hz
   ·exact h.elim
  ·
   rename_i hc
   split at h
   ·rename_i x y T T' e1 e2
    obtain⟨hk,h⟩:=h
    have e1':c.args=#[x,y]:=Array.toList_inj.1 (by simpa using e1)
    have e2':c.argTypes=#[T,T']:=Array.toList_inj.1 (by simpa using e2)
    have hx:=hf.eval x
    have hy:=hf.eval y
    cases hkk:(qi P T).k<;>rw[hkk]at hk<;>first|exact hk.elim|skip
    rename_i e
    have he:elemT (qi P T)=e:=by simp[elemT,hkk]
    rw[he]at h
    split at h
    ·rename_i xs ox ys oy e3 e4
     rw[e3]at hx
     rw[e4]at hy
     obtain⟨rfl,h⟩:=h
     obtain⟨v,w',G',s',z,hrun,hG,hS',hR,h⟩:=run_vappend (P:=P) (T':=T) (ty:=o.type) hS hx (fun hp hl=>.of_lst (kind_slice hkk) hS hy hp hl) hkk h
     refine wp_value hf hD (v:=v) ?_ hG hR hS' h
     unfold execOp
     simp[ho,resolve,hc,invoke,builtin,e1',e2',hrun]
    ·rename_i b n ys oy e3 e4
     rw[e3]at hx
     rw[e4]at hy
     obtain⟨rfl,h⟩:=h
     obtain⟨v,w',G',s',z,hrun,hG,hS',hR,h⟩:=run_vappendM (P:=P) (T':=T) (ty:=o.type) hS hx (fun hp hl=>.of_lst (kind_slice hkk) hS hy hp hl) hkk h
     refine wp_value hf hD (v:=v) ?_ hG hR hS' h
     unfold execOp
     simp[ho,resolve,hc,invoke,builtin,e1',e2',hrun]
    ·rename_i ys oy e3 e4
     rw[e3]at hx
     rw[e4]at hy
     obtain⟨rfl,h⟩:=h
     obtain⟨v,w',G',s',z,hrun,hG,hS',hR,h⟩:=run_vappend0 (P:=P) (T':=T) (ty:=o.type) hS hx (fun hp hl=>.of_lst (kind_slice hkk) hS hy hp hl) hkk h
     refine wp_value hf hD (v:=v) ?_ hG hR hS' h
     unfold execOp
     simp[ho,resolve,hc,invoke,builtin,e1',e2',hrun]
    ·rename_i xs ox l e3 e4
     rw[e3]at hx
     rw[e4]at hy
     obtain⟨hstr,h⟩:=h
     have hu:P.underlying T'=some .string:=by
      cases hq:(qi P T').k<;>rw[hq]at hstr<;>first|(cases hstr;done)|exact kind_str hq
     obtain⟨v,w',G',s',z,hrun,hG,hS',hR,h⟩:=run_vappend (P:=P) (T':=T') (ty:=o.type) hS hx (fun hp hl=>by
      cases l with
      |nil=>exact .of_str0 hu hy
      |cons c l=>
       have h1:(qi P e).sz=1:=(hl [.int .u8 (c.toNat:Int)] (by simp[bytesV])).symm
       rw[h1]
       exact .of_str hu hy) hkk h
     refine wp_value hf hD (v:=v) ?_ hG hR hS' h
     unfold execOp
     simp[ho,resolve,hc,invoke,builtin,e1',e2',hrun]
    ·exact h.elim
   ·exact h.elim
  ·exact h.elim
 ·exact h.elim
end
inductive Fin' where
 |norm
 |ret
 |exit (id:Nat)
 |panic (x:VV)
def RX (G:Gh):Exit→Fin'→Prop
 |.normal,.norm=>True
 |.ret,.ret=>True
 |.exit i,.exit j=>i=j
 |.panic ch,.panic x=>∃v,ch=[{ v:=v,recovered:=false }]∧R G v x
 |_,_=>False
abbrev Pst:=Fin'→Env→St→Prop
def Up (N:Nat)(w0:World)(G:Gh)(D:List Deferred)(Q:Pst):Exit→Act→World→Prop:=fun e a w=>
 ∃(G':Gh) (f:Fin') (env:Env) (s:St),G.le G'∧RX G' e f∧FR N G' a.tmps env∧a.defers=D∧Sim w0 G' w s∧Q f env s
theorem Up.back {N:Nat}{w0:World}{G G':Gh}{D:List Deferred}{Q:Pst}(h:G.le G'){e:Exit}{a:Act}{w:World}(u:Up N w0 G' D Q e a w):Up N w0 G D Q e a w:=by
 obtain⟨G'',f,env,s,h1,h2⟩:=u
 exact⟨G'',f,env,s,h.trans h1,h2⟩
theorem Oper.wp_mono' {P:Program}{o:Oper}{a:Act}{w:World}{n n':Act→World→Prop}{Q Q':Exit→Act→World→Prop}(hn:∀a w,n a w→n' a w)(hQ:∀e a w,Q e a w→Q' e a w)
  (h:o.wp P a w n Q):o.wp P a w n' Q':=by
 unfold Oper.wp at h ⊢
 generalize (execOp a.eval o).run P w=r at h ⊢
 unfold Oper.upon at h ⊢
 split at h
 ·exact hn _ _ h
 ·exact hn _ _ h
 ·exact hn _ _ h
 ·refine h.mono fun e w' he=>?_
  cases e with
  |returned v=>exact hn _ _ he
  |panicked ch=>exact hQ _ _ _ he
  |outgrown=>obtain⟨a,w,q⟩:=he;exact⟨a,w,hQ _ _ _ q⟩
 ·exact h.mono fun v w' he=>hn _ _ he
 ·exact hQ _ _ _ h
 ·exact h.elim
section
variable {P : Program} {N : Nat} {D : List Deferred}
theorem vops_sound {all:List Oper}{K:Env→St→Prop}{E:VV→Env→St→Prop}{Q:Pst}(hK:∀env s,K env s→Q .norm env s)(hE:∀x env s,E x env s→Q (.panic x) env s) :
  ∀(rest:List Oper) (env:Env) (s:St),vops P N all K E rest env s→∀(w0:World) (G:Gh) (w:World) (a:Act),FR N G a.tmps env→a.defers=D→Sim w0 G w s →
   wpList P all.toArray (Up N w0 G D Q) rest a w
 |[],env,s,h,w0,G,w,a,hf,hD,hS=>⟨G,.norm,env,s,Gh.le.refl G,trivial,hf,hD,hS,hK env s h⟩
 |o::rest,env,s,h,w0,G,w,a,hf,hD,hS=>by
  have ih:=vops_sound (all:=all) hK hE rest
  have mono:∀(G':Gh),G.le G'→∀(l:List Oper) (a:Act) (w:World),wpList P all.toArray (Up N w0 G' D Q) l a w→wpList P all.toArray (Up N w0 G D Q) l a w:=by
   intro G' hG l
   induction l with
   |nil=>exact fun a w h=>Up.back hG h
   |cons o l ihl=>
    intro a w h
    unfold wpList at h ⊢
    split at h
    ·rename_i hw
     rw[if_pos hw]
     rcases h with h|⟨h1,a',w',h2⟩
     ·exact .inl (Oper.wp_mono' ihl (fun e a w=>Up.back hG) h)
     ·exact .inr ⟨h1,a',w',Up.back hG h2⟩
    ·rename_i hw
     rw[if_neg hw]
     exact ihl _ _ h
  have run:vstep P N E o (fun env s=>vops P N all K E rest env s) env s→o.wp P a w (wpList P all.toArray (Up N w0 G D Q) rest) (Up N w0 G D Q):=by
   intro hst
   refine Oper.wp_mono' ?_ ?_ (step_sound hf hD hS hst)
   ·rintro a' w' ⟨G',env',s',hG,hf',hD',hS',hk⟩
    exact mono G' hG _ _ _ (ih env' s' hk w0 G' w' a' hf' hD' hS')
   ·rintro e a' w' ⟨G',env',s',v,x,rfl,hv,hG,hf',hD',hS',hk⟩
    exact⟨G',.panic x,env',s',hG,⟨v,rfl,hv⟩,hf',hD',hS',hE _ _ _ hk⟩
  have skip:vskip N o (fun env s=>vops P N all K E rest env s) env s→wpList P all.toArray (Up N w0 G D Q) rest (a.put o.dst undef) w:=by
   intro hsk
   exact ih _ _ hsk w0 G w _ (hf.put o.dst (.tup _ _ rfl (fun j v y hv=>by simp at hv))) ((put_defers _ _ _).trans hD) hS
  unfold wpList
  simp only[vops]at h
  cases hg:o.guard with
  |none=>
   rw[if_pos (by simp[Region.wanted,hg])]
   rw[hg]at h
   exact .inl (run h)
  |some g=>
   obtain⟨j,want⟩:=g
   rw[hg]at h
   simp only at h
   unfold yv at h
   cases hd:(all[j]?).bind (·.dst)with
   |none=>
    rw[hd]at h
    rw[if_neg (by simp[Region.wanted,hg,yielded,hd])]
    exact skip h
   |some t=>
    rw[hd]at h
    simp only at h
    have hr:=hf.rel t
    cases he:env t with
    |bool b=>
     rw[he]at hr h
     generalize hv:a.tmps.getD t undef=v at hr
     cases hr
     have hy:yielded all.toArray a.tmps j=some b:=by
      have hlt:t<a.tmps.size:=by
       rcases Nat.lt_or_ge t a.tmps.size with h'|h'
       ·exact h'
       ·simp[Array.getD,Nat.not_lt.2 h',undef]at hv
      have:a.tmps[t]?=some (.bool b):=by
       simp[Array.getD,hlt]at hv
       simp[hlt,hv]
      simp[yielded,hd,this]
     simp only[vguard]at h
     by_cases hbw:b=want
     ·rw[if_pos hbw]at h
      rw[if_pos (by simp[Region.wanted,hg,hy,hbw])]
      exact .inl (run h)
     ·rw[if_neg hbw]at h
      rw[if_neg (by simp[Region.wanted,hg,hy,hbw])]
      exact skip h
    |tup xs=>
     rw[he]at hr h
     generalize hv:a.tmps.getD t undef=v at hr
     cases hr with
     |tup vs xs hs hR=>
      have hy:yielded all.toArray a.tmps j=none:=by
       by_cases hlt:t<a.tmps.size
       ·have:a.tmps[t]?=some (.tuple vs):=by
         simp[Array.getD,hlt]at hv
         simp[hlt,hv]
        simp[yielded,hd,this]
       ·simp[yielded,hd,hlt]
      rw[if_neg (by simp[Region.wanted,hg,hy])]
      exact skip h
    |_=>rw[he]at h;exact h.elim
def SW (P:Program)(N:Nat)(D:List Deferred)(c:Code)(Q:Pst)(env:Env)(s:St):Prop:=
 ∀(w0:World) (G:Gh) (w:World) (a:Act),FR N G a.tmps env→a.defers=D→Sim w0 G w s→c.wp P (Up N w0 G D Q) a w
inductive Itm where
 |code (c:Code)
 |blk (id:Nat)
 |back (I:Env→St→Prop)
def Kp (P:Program)(N:Nat)(D:List Deferred):List Itm→Pst→Pst
 |[],Q=>Q
 |.code c::k,Q=>fun f env s=>match f with|.norm=>SW P N D c (Kp P N D k Q) env s|f=>Kp P N D k Q f env s
 |.blk id::k,Q=>fun f env s=>match f with|.exit j=>if j=id then Kp P N D k Q .norm env s else Kp P N D k Q (.exit j) env s|f=>Kp P N D k Q f env s
 |.back I::k,Q=>fun f env s=>match f with|.norm=>I env s|f=>Kp P N D k Q f env s
section
variable {k : List Itm} {Q : Pst} {env : Env} {s : St}
theorem L_seq {x y:Code}(h:Kp P N D (.code x::.code y::k) Q .norm env s):Kp P N D (.code (.seq x y)::k) Q .norm env s:=by
 intro w0 G w a hf hD hS
 refine wp_seq (wp_mono (h w0 G w a hf hD hS) ?_)
 rintro e a' w' ⟨G',f,env',s',hG,hx,hf',hD',hS',hq⟩
 cases f with
 |norm=>
  cases e<;>first|exact hx.elim|skip
  exact wp_mono (hq w0 G' w' a' hf' hD' hS') fun e a w=>Up.back hG
 |ret=>cases e<;>first|exact hx.elim|exact⟨G',.ret,env',s',hG,hx,hf',hD',hS',hq⟩
 |exit i=>cases e<;>first|exact hx.elim|exact⟨G',.exit i,env',s',hG,hx,hf',hD',hS',hq⟩
 |panic x=>cases e<;>first|exact hx.elim|exact⟨G',.panic x,env',s',hG,hx,hf',hD',hS',hq⟩
theorem L_skip (h:Kp P N D k Q .norm env s):Kp P N D (.code .skip::k) Q .norm env s:=
 fun _ G _ _ hf hD hS=>wp_skip ⟨G,.norm,env,s,Gh.le.refl G,trivial,hf,hD,hS,h⟩
theorem L_exit {id:Nat}(h:Kp P N D k Q (.exit id) env s):Kp P N D (.code (.exit id)::k) Q .norm env s:=
 fun _ G _ _ hf hD hS=>wp_exit ⟨G,.exit id,env,s,Gh.le.refl G,rfl,hf,hD,hS,h⟩
theorem Kp_ret:∀k:List Itm,Kp P N D k Q .ret env s=Q .ret env s
 |[]=>rfl
 |.code c::k=>Kp_ret k
 |.blk id::k=>Kp_ret k
 |.back I::k=>Kp_ret k
theorem Kp_panic {x:VV}:∀k:List Itm,Kp P N D k Q (.panic x) env s=Q (.panic x) env s
 |[]=>rfl
 |.code c::k=>Kp_panic k
 |.blk id::k=>Kp_panic k
 |.back I::k=>Kp_panic k
theorem L_ret (h:Q .ret env s):Kp P N D (.code .ret::k) Q .norm env s:=
 fun _ G _ _ hf hD hS=>wp_ret ⟨G,.ret,env,s,Gh.le.refl G,trivial,hf,hD,hS,by rw[Kp_ret];exact h⟩
theorem L_blk {id:Nat}{c:Code}(h:Kp P N D (.code c::.blk id::k) Q .norm env s):Kp P N D (.code (.block id c)::k) Q .norm env s:=by
 intro w0 G w a hf hD hS
 refine wp_block (wp_mono (h w0 G w a hf hD hS) ?_)
 rintro e a' w' ⟨G',f,env',s',hG,hx,hf',hD',hS',hq⟩
 cases f with
 |norm=>cases e<;>first|exact hx.elim|exact⟨G',.norm,env',s',hG,hx,hf',hD',hS',hq⟩
 |ret=>cases e<;>first|exact hx.elim|exact⟨G',.ret,env',s',hG,hx,hf',hD',hS',hq⟩
 |panic x=>cases e<;>first|exact hx.elim|exact⟨G',.panic x,env',s',hG,hx,hf',hD',hS',hq⟩
 |exit i=>
  cases e<;>first|exact hx.elim|skip
  rename_i i'
  have:i'=i:=hx
  subst this
  simp only[Kp]at hq
  simp only[Exit.inBlock]
  by_cases hi:i'=id
  ·rw[if_pos hi]at hq ⊢
   exact⟨G',.norm,env',s',hG,trivial,hf',hD',hS',hq⟩
  ·rw[if_neg hi]at hq ⊢
   exact⟨G',.exit i',env',s',hG,rfl,hf',hD',hS',hq⟩
theorem L_endblk {id:Nat}(h:Kp P N D k Q .norm env s):Kp P N D (.blk id::k) Q .norm env s:=h
theorem L_back {I:Env→St→Prop}(h:I env s):Kp P N D (.back I::k) Q .norm env s:=h
theorem X_code {c:Code}{id:Nat}(h:Kp P N D k Q (.exit id) env s):Kp P N D (.code c::k) Q (.exit id) env s:=h
theorem X_back {I:Env→St→Prop}{id:Nat}(h:Kp P N D k Q (.exit id) env s):Kp P N D (.back I::k) Q (.exit id) env s:=h
theorem X_blk {id:Nat}(h:Kp P N D k Q .norm env s):Kp P N D (.blk id::k) Q (.exit id) env s:=by
 show (if id=id then _ else _)
 rw[if_pos rfl];exact h
theorem X_past {id j:Nat}(hne:j≠id)(h:Kp P N D k Q (.exit j) env s):Kp P N D (.blk id::k) Q (.exit j) env s:=by
 simp only[Kp];rw[if_neg hne];exact h
def vcond (P:Program)(N:Nat)(D:List Deferred)(c:VV)(x y:Code)(k:List Itm)(Q:Pst)(env:Env)(s:St):Prop:=
 match c with
 |.bool t=>(t=true→Kp P N D (.code x::k) Q .norm env s)∧(t=false→Kp P N D (.code y::k) Q .norm env s)
 |_=>False
theorem vcond_true {x y:Code}:vcond P N D (.bool true) x y k Q env s=Kp P N D (.code x::k) Q .norm env s:=by simp[vcond]
theorem vcond_false {x y:Code}:vcond P N D (.bool false) x y k Q env s=Kp P N D (.code y::k) Q .norm env s:=by simp[vcond]
theorem L_cond {c:Operand}{x y:Code}(h:vcond P N D (rd env c) x y k Q env s):Kp P N D (.code (.cond c x y)::k) Q .norm env s:=by
 intro w0 G w a hf hD hS
 have hr:=hf.eval c
 cases he:rd env c with
 |bool t=>
  rw[he]at hr h
  generalize hv:a.eval c=v at hr
  cases hr
  cases t with
  |true=>exact wp_cond_true hv (h.1 rfl w0 G w a hf hD hS)
  |false=>exact wp_cond_false hv (h.2 rfl w0 G w a hf hD hS)
 |_=>rw[he]at h;exact h.elim
theorem L_region {id:Nat}{ops:List Oper}(h:∀(K:Env→St→Prop) (E:VV→Env→St→Prop),(∀env s,Kp P N D k Q .norm env s→K env s)→(∀x env s,Q (.panic x) env s→E x env s)→vops P N ops K E ops env s) :
  Kp P N D (.code (.region id ops.toArray false)::k) Q .norm env s:=by
 intro w0 G w a hf hD hS
 refine wp_region_list ?_
 have:=h (fun env s=>Kp P N D k Q .norm env s) (fun x env s=>Q (.panic x) env s) (fun _ _ h=>h) (fun _ _ _ h=>h)
 exact vops_sound (Q:=Kp P N D k Q) (fun _ _ h=>h) (fun x env s h=>by rw[Kp_panic];exact h) ops env s this w0 G w a hf hD hS
theorem L_loop {c:Code}(I:Nat→Env→St→Prop)(n:Nat)(h0:I n env s)(hr:∀n env s,I n env s→Kp P N D (.code c::.back (fun env' s'=>∃m,m<n∧I m env' s')::k) Q .norm env s) :
  Kp P N D (.code (.loop c)::k) Q .norm env s:=by
 intro w0 G w a hf hD hS
 refine wp_loop_ghost (fun n a w=>∃(G':Gh) (env:Env) (s:St),G.le G'∧FR N G' a.tmps env∧a.defers=D∧Sim w0 G' w s∧I n env s) n ⟨G,env,s,Gh.le.refl G,hf,hD,hS,h0⟩ ?_
 rintro n a w ⟨G',env,s,hG,hf,hD,hS,hI⟩
 refine wp_mono (hr n env s hI w0 G' w a hf hD hS) ?_
 rintro e a' w' ⟨G'',f,env',s',hG',hx,hf',hD',hS',hq⟩
 cases f with
 |norm=>
  cases e<;>first|exact hx.elim|skip
  obtain⟨m,hm,hI'⟩:=hq
  exact⟨m,hm,G'',env',s',hG.trans hG',hf',hD',hS',hI'⟩
 |ret=>cases e<;>first|exact hx.elim|exact⟨G'',.ret,env',s',hG.trans hG',hx,hf',hD',hS',hq⟩
 |exit i=>cases e<;>first|exact hx.elim|exact⟨G'',.exit i,env',s',hG.trans hG',hx,hf',hD',hS',hq⟩
 |panic x=>cases e<;>first|exact hx.elim|exact⟨G'',.panic x,env',s',hG.trans hG',hx,hf',hD',hS',hq⟩
theorem Kp_back_mono {c:Code}{I I':Env→St→Prop}(hI:∀env s,I env s→I' env s)(h:Kp P N D (.code c::.back I::k) Q .norm env s):Kp P N D (.code c::.back I'::k) Q .norm env s:=by
 intro w0 G w a hf hD hS
 refine wp_mono (h w0 G w a hf hD hS) ?_
 rintro e a' w' ⟨G',f,env',s',hG,hx,hf',hD',hS',hq⟩
 exact⟨G',f,env',s',hG,hx,hf',hD',hS',by cases f<;>first|exact hI _ _ hq|exact hq⟩
def KR (P:Program)(N:Nat)(D:List Deferred)(c:Code)(k:List Itm)(Q:Pst):Nat→Env→St→Prop
 |0=>fun _ _=>False
 |n+1=>fun env s=>Kp P N D (.code c::.back (KR P N D c k Q n)::k) Q .norm env s
theorem L_rounds {c:Code}(n:Nat)(h:KR P N D c k Q n env s):Kp P N D (.code (.loop c)::k) Q .norm env s:=by
 refine L_loop (fun m env s=>KR P N D c k Q m env s) n h ?_
 intro m env s hm
 cases m with
 |zero=>exact hm.elim
 |succ m=>exact Kp_back_mono (fun env s h=>⟨m,Nat.lt_succ_self m,h⟩) hm
theorem KR_succ {c:Code}(n:Nat)(h:Kp P N D (.code c::.back (KR P N D c k Q n)::k) Q .norm env s):KR P N D c k Q (n+1) env s:=h
theorem Kp_forget {c:Code}{s':St}(hf:Fg s s')(h:Kp P N D (.code c::k) Q .norm env s'):Kp P N D (.code c::k) Q .norm env s:=
 fun w0 G w a hfr hD hS=>h w0 G w a hfr hD (hS.forget hf)
end
def vone (P:Program)(env:Env)(s:St):ResultVar→Option VV
 |.tmp t=>some (env t)
 |.cell t T=>vload (qi P T) (env t) s
def vones (P:Program)(env:Env)(s:St):List ResultVar→Option (List VV)
 |[]=>some []
 |r::rs=>match vone P env s r,vones P env s rs with|some x,some xs=>some (x::xs)|_,_=>none
def vres (P:Program)(env:Env)(s:St)(rs:List ResultVar):Option VV:=
 match rs with
 |[r]=>vone P env s r
 |rs=>(vones P env s rs).map .tup
def oneRes (tmps:Array Value):ResultVar→Sem Value
 |.tmp t=>pure (tmps.getD t undef)
 |.cell a t=>do loadVar t (← asAddr (tmps.getD a undef))
theorem results_eq (fn:Func)(tmps:Array Value):results fn tmps=(do
  let vs ← fn.results.mapM (oneRes tmps)
  pure (if h:vs.size=1 then vs[0] else .tuple vs)):=by
 unfold results
 congr 2
theorem run_vone {w0 w:World}{G:Gh}{s:St}{env:Env}{tmps:Array Value}(hf:FR N G tmps env)(hS:Sim w0 G w s){r:ResultVar}{x:VV}(h:vone P env s r=some x) :
  ∃v,(oneRes tmps r).run P w=.ok v w∧R G v x:=by
 cases r with
 |tmp t=>
  simp only[vone,Option.some.injEq]at h
  subst h
  exact⟨_,rfl,hf.rel t⟩
 |cell t T=>
  have hr:=hf.rel t
  obtain⟨v,hrun,hR⟩:=run_vload (P:=P) hS hr h
  refine⟨v,?_,hR⟩
  generalize hu:tmps.getD t undef=u at hrun
  cases u with
  |pointer a=>
   cases a with
   |some a=>
    simp only[oneRes,hu,asAddr,Sem.run_bind,Sem.run_pure,Result.andThen_ok]
    simpa [Instr.loadAt,Instr.sureAddr]using hrun
   |none=>simp[Instr.loadAt,Instr.sureAddr]at hrun
  |_=>simp[Instr.loadAt,Instr.sureAddr]at hrun
theorem run_vones {w0 w:World}{G:Gh}{s:St}{env:Env}{tmps:Array Value}(hf:FR N G tmps env)(hS:Sim w0 G w s):∀(rs:List ResultVar) (xs:List VV),vones P env s rs=some xs →
  ∃vs:List Value,(rs.mapM (oneRes tmps)).run P w=.ok vs w∧RL G vs.toArray xs∧vs.length=rs.length
 |[],xs,h=>by
  simp only[vones,Option.some.injEq]at h
  subst h
  exact⟨[],by simp,⟨rfl,by simp⟩,rfl⟩
 |r::rs,xs,h=>by
  simp only[vones]at h
  split at h
  ·rename_i x xs' h1 h2
   simp only[Option.some.injEq]at h
   subst h
   obtain⟨v,hv,hR⟩:=run_vone (P:=P) hf hS h1
   obtain⟨vs,hvs,hRs,hl⟩:=run_vones hf hS rs xs' h2
   refine⟨v::vs,?_,⟨by simpa using hRs.1,fun j u y hu hy=>?_⟩,by simp[hl]⟩
   ·rw[List.mapM_cons]
    simp only[Sem.run_bind]
    rw[hv]
    simp only[Result.andThen_ok]
    rw[hvs]
    rfl
   ·cases j with
    |zero=>simp at hu hy;subst hu;subst hy;exact hR
    |succ j=>exact hRs.2 j u y (by simpa using hu) (by simpa using hy)
  ·cases h
theorem run_vres {w0 w:World}{G:Gh}{s:St}{env:Env}{tmps:Array Value}{fn:Func}(hf:FR N G tmps env)(hS:Sim w0 G w s){x:VV}(h:vres P env s fn.results.toList=some x) :
  ∃v,(results fn tmps).run P w=.ok v w∧R G v x:=by
 rw[results_eq,Array.mapM_eq_mapM_toList]
 generalize fn.results.toList=rs at h
 match rs,h with
 |[],h=>
  simp only[vres,vones,Option.map_some,Option.some.injEq]at h
  subst h
  exact⟨.tuple #[],by simp,.tup _ _ rfl (by simp)⟩
 |[r],h=>
  obtain⟨v,hv,hR⟩:=run_vone (P:=P) hf hS (r:=r) h
  refine⟨v,?_,hR⟩
  simp only[Sem.run_bind,Sem.run_map,List.mapM_cons,List.mapM_nil]
  rw[hv]
  rfl
 |r::r'::rs,h=>
  simp only[vres]at h
  cases hx:vones P env s (r::r'::rs)with
  |none=>simp[hx]at h
  |some xs=>
   simp only[hx,Option.map_some,Option.some.injEq]at h
   subst h
   obtain⟨vs,hvs,hRs,hl⟩:=run_vones (P:=P) hf hS _ _ hx
   refine⟨.tuple vs.toArray,?_,.tup _ _ hRs.1 hRs.2⟩
   simp only[Sem.run_bind,Sem.run_map]
   rw[hvs]
   simp only[Result.andThen_ok]
   rw[dif_neg (by simp[hl])]
   rfl
def Wk (x y:VV):Prop:=∀(G:Gh) (v:Value),R G v x→R G v y
theorem Wk.refl (x:VV):Wk x x:=fun _ _ h=>h
theorem Wk.lst (xs:List (List VV))(o:Own):Wk (.lst xs o) (.lst xs .no):=fun _ _ h=>h.unown
def Qf (P:Program)(rs:List ResultVar)(Q:SEnd→St→Prop):Pst:=fun f env s=>
 match f with
 |.norm=>∃x,vres P env s rs=some x∧∃y s',Wk x y∧Fg s s'∧Q (.ret y) s'
 |.ret=>∃x,vres P env s rs=some x∧∃y s',Wk x y∧Fg s s'∧Q (.ret y) s'
 |.panic x=>∃s',Fg s s'∧Q (.panic x) s'
 |.exit _=>False
def env0 (xs:List VV):Env:=fun i=>(xs[i]?).getD (.tup [])
theorem FR.start {G:Gh}{vs:Array Value}{xs:List VV}{n:Nat}(h:RL G vs xs)(hN:n=vs.size+(n - vs.size)):FR n G (vs++Array.replicate (n - vs.size) undef) (env0 xs):=by
 refine⟨by simp;omega,fun i=>?_⟩
 unfold env0
 have hu:R G undef (.tup []):=.tup _ _ rfl (by simp)
 rcases Nat.lt_or_ge i vs.size with hi|hi
 ·have h2:i<xs.length:=by rw[← h.1];exact hi
  have:(vs++Array.replicate (n - vs.size) undef).getD i undef=vs[i]:=by
   rw[Array.getD_eq_getD_getElem?,Array.getElem?_append_left hi];simp[hi]
  rw[this,List.getElem?_eq_getElem h2]
  exact h.2 i _ _ (Array.getElem?_eq_getElem hi) (List.getElem?_eq_getElem h2)
 ·have h2:xs[i]?=none:=List.getElem?_eq_none (by rw[← h.1];exact hi)
  rw[h2]
  have:(vs++Array.replicate (n - vs.size) undef).getD i undef=undef:=by
   rw[Array.getD_eq_getD_getElem?,Array.getElem?_append_right hi,Array.getElem?_replicate]
   split<;>rfl
  rw[this]
  exact hu
theorem S_enter {f:FuncId}{fn:Func}{c:Code}{xs:List VV}{s:St}{Q:SEnd→St→Prop}(hf:P.funcs[f]?=some fn)(hb:fn.body=some c)(hN:fn.ntmps=N)(hl:Nat.ble xs.length N=true)
  (h:Kp P N [] [.code c] (Qf P fn.results.toList Q) .norm (env0 xs) s):SCalls P f xs s Q:=by
 intro w0 G w vs hS hvs
 subst hN
 have hle:vs.size≤fn.ntmps:=by rw[hvs.1];exact Nat.le_of_ble_eq_true hl
 refine calls_of_wp hf hb (wp_mono (h w0 G w { tmps:=vs++Array.replicate (fn.ntmps - vs.size) undef,defers:=[] } (FR.start hvs (by omega)) rfl hS) ?_)
 rintro e a w' ⟨G',f,env,s',hG,hx,hf',hD,hS',hq⟩
 have fin:(∃x,vres P env s' fn.results.toList=some x∧∃y s'',Wk x y∧Fg s' s''∧Q (.ret y) s'')→a.defers=[]∧∃v,(results fn a.tmps).run P w'=.ok v w' ∧
   ∃(G':Gh) (s':St) (x:SEnd),G.le G'∧Sim w0 G' w' s'∧RE G' (.returned v) x∧Q x s':=by
  rintro⟨x,hx,y,s'',hw,hfg,hq⟩
  obtain⟨v,hrun,hR⟩:=run_vres (P:=P) (fn:=fn) hf' hS' hx
  exact⟨hD,v,hrun,G',s'',.ret y,hG,hS'.forget hfg,hw _ _ hR,hq⟩
 cases f with
 |norm=>cases e<;>first|exact hx.elim|exact fin hq
 |ret=>cases e<;>first|exact hx.elim|exact fin hq
 |exit i=>cases e<;>first|exact hx.elim|exact hq.elim
 |panic x=>
  cases e<;>first|exact hx.elim|skip
  obtain⟨v,rfl,hv⟩:=hx
  obtain⟨s'',hfg,hq⟩:=hq
  exact⟨hD,G',s'',.panic x,hG,hS'.forget hfg,⟨v,rfl,hv⟩,hq⟩
theorem SCalls.mono {f:FuncId}{xs:List VV}{s:St}{Q Q':SEnd→St→Prop}(h:SCalls P f xs s Q)(hq:∀x s',Q x s'→Q' x s'):SCalls P f xs s Q':=
 fun w0 G w vs hS hvs=>(h w0 G w vs hS hvs).mono fun e w' ⟨G',s',x,h1,h2,h3,h4⟩=>⟨G',s',x,h1,h2,h3,hq x s' h4⟩
theorem callable_of {f:FuncId}{fn:Func}(hf:P.funcs[f]?=some fn)(hn:(fn.name == "runtime.NumGoroutine")=false)(hb:fn.body.isNone=false):Callable P f:=by
 intro args w
 unfold callFunc
 simp only[Sem.run_bind,run_program,Result.andThen_ok,hf,hn,hb,Bool.false_eq_true,if_false,Sem.run_pure]
end
section
variable {P : Program} {N : Nat} {D : List Deferred}
theorem wpOp_mono2 {ops:Array Oper}{Q Q':Exit→Act→World→Prop}{i:Nat}{K K':Act→World→Prop}{a:Act}{w:World}(hK:∀a w,K a w→K' a w)(hQ:∀e a w,Q e a w→Q' e a w)(h:wpOp P ops Q i K a w):wpOp P ops Q' i K' a w:=by
 unfold wpOp at h ⊢
 cases ho:ops[i]? with
 |none=>rw[ho]at h;exact hK _ _ h
 |some o=>
  rw[ho]at h
  simp only at h ⊢
  split at h
  ·rename_i hw
   rw[if_pos hw]
   rcases h with h|⟨h1,a',w',h2⟩
   ·exact .inl (Oper.wp_mono' hK hQ h)
   ·exact .inr ⟨h1,a',w',hQ _ _ _ h2⟩
  ·rename_i hw
   rw[if_neg hw]
   exact hK _ _ h
theorem wpAny_mono2 {md:Region.Mode}{ops:Array Oper}{Q Q':Exit→Act→World→Prop}(hQ:∀e a w,Q e a w→Q' e a w):∀(f:Nat) (listed:Array Bool) (a:Act) (w:World),wpAny P md ops Q f listed a w→wpAny P md ops Q' f listed a w
 |0,_,_,_,h=>⟨h.1,hQ _ _ _ h.2⟩
 |f+1,_,_,_,h=>⟨fun e=>hQ _ _ _ (h.1 e),fun i hi=>wpOp_mono2 (wpAny_mono2 hQ f _) hQ (h.2 i hi)⟩
def vgone (P:Program)(N:Nat)(all:List Oper)(E:VV→Env→St→Prop)(o:Oper)(K:Env→St→Prop)(env:Env)(s:St):Prop:=
 match o.guard with
 |none=>vstep P N E o K env s
 |some (j,want)=>vguard (yv all env j) want (vstep P N E o K env s) (vskip N o K env s)
def vopi (P:Program)(N:Nat)(all:List Oper)(E:VV→Env→St→Prop)(i:Nat)(K:Env→St→Prop)(env:Env)(s:St):Prop:=
 match all[i]? with
 |none=>K env s
 |some o=>vgone P N all E o K env s
def vAny (P:Program)(N:Nat)(all:List Oper)(K:Env→St→Prop)(E:VV→Env→St→Prop):Nat→Array Bool→Env→St→Prop
 |0,listed,env,s=>Region.ready .any all.toArray listed=[]∧K env s
 |f+1,listed,env,s=>(Region.ready .any all.toArray listed=[]→K env s)∧∀i∈Region.ready .any all.toArray listed,vopi P N all E i (vAny P N all K E f (listed.setIfInBounds i true)) env s
theorem vopi_sound {all:List Oper}{E:VV→Env→St→Prop}{Q:Pst}{i:Nat}{K:Env→St→Prop}{env:Env}{s:St}{w0:World}{G:Gh}{w:World}{a:Act}{K':Act→World→Prop}
  (hE:∀x env s,E x env s→Q (.panic x) env s) (hf:FR N G a.tmps env) (hD:a.defers=D) (hS:Sim w0 G w s)
  (hK:∀(G':Gh) (env':Env) (s':St) (a':Act) (w':World),G.le G'→FR N G' a'.tmps env'→a'.defers=D→Sim w0 G' w' s'→K env' s'→K' a' w')
  (h:vopi P N all E i K env s):wpOp P all.toArray (Up N w0 G D Q) i K' a w:=by
 unfold vopi at h
 unfold wpOp
 rw[List.getElem?_toArray]
 cases ho:all[i]? with
 |none=>rw[ho]at h;exact hK G env s a w (Gh.le.refl G) hf hD hS h
 |some o=>
  rw[ho]at h
  simp only at h ⊢
  have run:vstep P N E o K env s→o.wp P a w K' (Up N w0 G D Q):=by
   intro hst
   refine Oper.wp_mono' ?_ ?_ (step_sound hf hD hS hst)
   ·rintro a' w' ⟨G',env',s',hG,hf',hD',hS',hk⟩
    exact hK G' env' s' a' w' hG hf' hD' hS' hk
   ·rintro e a' w' ⟨G',env',s',v,x,rfl,hv,hG,hf',hD',hS',hk⟩
    exact⟨G',.panic x,env',s',hG,⟨v,rfl,hv⟩,hf',hD',hS',hE _ _ _ hk⟩
  have skip:vskip N o K env s→K' (a.put o.dst undef) w:=by
   intro hsk
   exact hK G _ s _ w (Gh.le.refl G) (hf.put o.dst (.tup _ _ rfl (fun j v y hv=>by simp at hv))) ((put_defers _ _ _).trans hD) hS hsk
  unfold vgone at h
  cases hg:o.guard with
  |none=>
   rw[if_pos (by simp[Region.wanted,hg])]
   rw[hg]at h
   exact .inl (run h)
  |some g=>
   obtain⟨j,want⟩:=g
   rw[hg]at h
   simp only at h
   unfold yv at h
   cases hd:(all[j]?).bind (·.dst)with
   |none=>
    rw[hd]at h
    rw[if_neg (by simp[Region.wanted,hg,yielded,hd])]
    exact skip h
   |some t=>
    rw[hd]at h
    simp only at h
    have hr:=hf.rel t
    cases he:env t with
    |bool b=>
     rw[he]at hr h
     generalize hv:a.tmps.getD t undef=v at hr
     cases hr
     have hy:yielded all.toArray a.tmps j=some b:=by
      have hlt:t<a.tmps.size:=by
       rcases Nat.lt_or_ge t a.tmps.size with h'|h'
       ·exact h'
       ·simp[Array.getD,Nat.not_lt.2 h',undef]at hv
      have:a.tmps[t]?=some (.bool b):=by
       simp[Array.getD,hlt]at hv
       simp[hlt,hv]
      simp[yielded,hd,this]
     simp only[vguard]at h
     by_cases hbw:b=want
     ·rw[if_pos hbw]at h
      rw[if_pos (by simp[Region.wanted,hg,hy,hbw])]
      exact .inl (run h)
     ·rw[if_neg hbw]at h
      rw[if_neg (by simp[Region.wanted,hg,hy,hbw])]
      exact skip h
    |tup xs=>
     rw[he]at hr h
     generalize hv:a.tmps.getD t undef=v at hr
     cases hr with
     |tup vs xs hs hR=>
      have hy:yielded all.toArray a.tmps j=none:=by
       by_cases hlt:t<a.tmps.size
       ·have:a.tmps[t]?=some (.tuple vs):=by
         simp[Array.getD,hlt]at hv
         simp[hlt,hv]
        simp[yielded,hd,this]
       ·simp[yielded,hd,hlt]
      rw[if_neg (by simp[Region.wanted,hg,hy])]
      exact skip h
    |_=>rw[he]at h;exact h.elim
theorem vAny_sound {all:List Oper}{K:Env→St→Prop}{E:VV→Env→St→Prop}{Q:Pst}(hK:∀env s,K env s→Q .norm env s)(hE:∀x env s,E x env s→Q (.panic x) env s) :
  ∀(f:Nat) (listed:Array Bool) (env:Env) (s:St),vAny P N all K E f listed env s→∀(w0:World) (G:Gh) (w:World) (a:Act),FR N G a.tmps env→a.defers=D→Sim w0 G w s →
   wpAny P .any all.toArray (Up N w0 G D Q) f listed a w
 |0,_,env,s,h,w0,G,w,a,hf,hD,hS=>⟨h.1,G,.norm,env,s,Gh.le.refl G,trivial,hf,hD,hS,hK _ _ h.2⟩
 |f+1,listed,env,s,h,w0,G,w,a,hf,hD,hS=>
  ⟨fun e=>⟨G,.norm,env,s,Gh.le.refl G,trivial,hf,hD,hS,hK _ _ (h.1 e)⟩,fun i hi=>
   vopi_sound hE hf hD hS (fun G' env' s' a' w' hG hf' hD' hS' hk=>wpAny_mono2 (fun e a w=>Up.back hG) f _ _ _ (vAny_sound hK hE f _ env' s' hk w0 G' w' a' hf' hD' hS')) (h.2 i hi)⟩
theorem L_draw {k:List Itm}{Q:Pst}{env:Env}{s:St}{id:Nat}{ops:List Oper}(hm:P.follows .mixedOrders=true)
  (h:∀(K:Env→St→Prop) (E:VV→Env→St→Prop),(∀env s,Kp P N D k Q .norm env s→K env s)→(∀x env s,Q (.panic x) env s→E x env s)→vAny P N ops K E ops.length (Array.replicate ops.length false) env s) :
  Kp P N D (.code (.region id ops.toArray true)::k) Q .norm env s:=by
 intro w0 G w a hf hD hS
 refine wp_region_any hm ?_
 have:=h (fun env s=>Kp P N D k Q .norm env s) (fun x env s=>Q (.panic x) env s) (fun _ _ h=>h) (fun _ _ _ h=>h)
 exact vAny_sound (Q:=Kp P N D k Q) (fun _ _ h=>h) (fun x env s h=>by rw[Kp_panic];exact h) _ _ env s this w0 G _ a hf hD ⟨⟨hS.below.os,hS.below.tape,hS.below.output,hS.below.size,hS.below.block⟩,hS.K,hS.cap,hS.ok,hS.gl,hS.rows⟩
end
theorem vstep_congr {P:Program}{N:Nat}{E E':VV→Env→St→Prop}{o:Oper}{rest rest':Env→St→Prop}{env env':Env}{s:St}(hx:∀x∈o.op.operands.toList,rd env' x=rd env x)
  (hr:∀y s',rest (put N env o.dst y) s'→rest' (put N env' o.dst y) s') (hE:∀x s,E x env s→E' x env' s) (h:vstep P N E o rest env s):vstep P N E' o rest' env' s:=by
 have ob:∀{α:Type} {f g:α→Prop} {x:Option α},(∀y,f y→g y)→optB f x→optB g x:=by
  intro α f g x hfg hx
  cases x with
  |none=>exact hx
  |some y=>exact hfg y hx
 obtain⟨d,op,ty,p,af,g⟩:=o
 simp only at hx hr
 unfold vstep at h ⊢
 cases op<;>simp only[Op.operands]at hx<;>simp only at h ⊢
 all_goals(try exact h.elim)
 all_goals(try simp only[List.mem_cons,List.not_mem_nil,or_false,forall_eq_or_imp,forall_eq,Option.toArray,Array.toList_append,List.cons_append,List.nil_append]at hx)
 case move=>rw[hx];exact hr _ _ h
 case assign=>rw[hx];exact hr _ _ h
 case pick=>
  simp only[hx]
  split at h
  ·exact hr _ _ h
  ·exact h.elim
 case alloc=>exact⟨h.1,fun b hb=>hr _ _ (h.2 b hb)⟩
 case box=>simp only[hx];exact⟨h.1,fun b hb=>hr _ _ (h.2 b hb)⟩
 case build T parts=>
  have e:(parts.toList.map fun p=>(p.1,rd env' p.2))=parts.toList.map fun p=>(p.1,rd env p.2):=
   List.map_congr_left fun p hp=>by rw[hx p.2 (List.mem_map_of_mem hp)]
  rw[e]
  exact⟨h.1,h.2.1,ob (fun _=>hr _ _) h.2.2⟩
 case buildSlice T n parts=>
  have e:(parts.toList.map fun p=>(p.1,rd env' p.2))=parts.toList.map fun p=>(p.1,rd env p.2):=
   List.map_congr_left fun p hp=>by rw[hx p.2 (List.mem_map_of_mem hp)]
  rw[e]
  exact⟨h.1,h.2.1,h.2.2.1,h.2.2.2.1,ob (fun xs hh=>by
   by_cases hm:mutL T p=true
   ·rw[if_pos hm]at hh ⊢
    exact⟨hh.1,fun b hb=>hr _ _ (hh.2 b hb)⟩
   ·rw[if_neg hm]at hh ⊢
    exact hr _ _ hh) h.2.2.2.2⟩
 case load=>rw[hx];exact ob (fun _=>hr _ _) h
 case store=>rw[hx.1,hx.2];exact ob (fun _=>hr _ _) h
 case nilCheck=>rw[hx];exact⟨h.1,hr _ _ h.2⟩
 case binOp=>
  rw[hx.1,hx.2]
  split at h
  ·exact⟨h.1,ob (fun _=>hr _ _) h.2⟩
  ·split at h
   ·exact⟨h.1,hr _ _ h.2⟩
   ·exact hr _ _ h
   ·exact hr _ _ h
   ·exact h.elim
  ·obtain⟨h1,h2⟩:=h
   refine⟨h1,?_⟩
   split at h2
   ·exact hr _ _ h2
   ·exact hr _ _ h2
   ·exact h2.elim
  ·obtain⟨h1,h2,h3,h4⟩:=h
   refine⟨h1,h2,h3,?_⟩
   split at h4
   ·exact hr _ _ h4
   ·exact hr _ _ h4
   ·exact h4.elim
  ·split at h
   ·exact ob (fun _=>hr _ _) h
   ·exact ob (fun _=>hr _ _) h
   ·exact h.elim
  ·obtain⟨hc,h⟩:=h
   refine⟨hc,?_⟩
   split at h
   ·exact ob (fun _=>hr _ _) h
   ·exact ob (fun _=>hr _ _) h
   ·exact h.elim
 case typeAssert=>
  rw[hx]
  refine⟨h.1,h.2.1,?_⟩
  have h2:=h.2.2
  split at h2
  ·exact⟨h2.1,hr _ _ h2.2⟩
  ·exact h2.elim
 case convert=>rw[hx];exact ob (fun _=>hr _ _) h
 case unOp=>
  rw[hx]
  split at h
  ·exact hr _ _ h
  ·exact hr _ _ h
  ·exact h.elim
 case fieldAddr=>
  rw[hx]
  split at h
  ·exact⟨h.1,hr _ _ h.2⟩
  ·exact hr _ _ h
  ·exact h.elim
 case field=>
  rw[hx]
  split at h
  ·exact ob (fun _=>hr _ _) h
  ·exact h.elim
 case indexAddr=>rw[hx.1,hx.2];exact ob (fun _=>hr _ _) h
 case index=>rw[hx.1,hx.2];exact ob (fun _=>hr _ _) h
 case makeInterface=>rw[hx];exact⟨h.1,hr _ _ h.2⟩
 case extract=>
  rw[hx]
  split at h
  ·exact ob (fun _=>hr _ _) h
  ·exact h.elim
 case panic=>
  rw[hx]
  split at h
  ·exact hE _ _ h
  ·exact h.elim
 case lookup=>rw[hx.1,hx.2];exact ob (fun _=>hr _ _) h
 case mapUpdate=>rw[hx.1,hx.2.1,hx.2.2];exact ob (fun _=>hr _ _) h
 case insert=>rw[hx.1,hx.2.1,hx.2.2];exact ob (fun _=>hr _ _) h
 case slice T x lo hi mx=>
  obtain⟨hx0,hx1⟩:=hx
  have hlo:lo.map (rd env')=lo.map (rd env):=by
   cases lo with
   |none=>rfl
   |some y=>simp only[Option.map_some];rw[hx1 y (by simp)]
  have hhi:hi.map (rd env')=hi.map (rd env):=by
   cases hi with
   |none=>rfl
   |some y=>simp only[Option.map_some];rw[hx1 y (by simp)]
  rw[hx0,hlo,hhi]
  exact⟨h.1,ob (fun _=>hr _ _) h.2⟩
 case makeSlice T l c=>
  rw[hx.1,hx.2]
  split at h
  ·obtain⟨h1,h2,h3,h4,h5,h6,h7⟩:=h
   exact⟨h1,h2,h3,h4,h5,h6,fun b hb=>hr _ _ (h7 b hb)⟩
  ·obtain⟨h1,h2,h3,h4,h5,h6,h7⟩:=h
   exact⟨h1,h2,h3,h4,h5,h6,fun b hb=>hr _ _ (h7 b hb)⟩
  ·exact h.elim
 case makeMap T r=>
  cases r with
  |none=>exact fun b hb=>hr _ _ (h b hb)
  |some r=>exact h.elim
 case makeFunc fn fs caps=>
  cases fn with
  |func f=>
   simp only at h ⊢
   have e:caps.toList.map (rd env')=caps.toList.map (rd env):=List.map_congr_left fun p hp=>hx p (List.mem_append_right _ hp)
   rw[e]
   exact⟨h.1,hr _ _ h.2⟩
  |_=>exact h.elim
 case call c=>
  have ea:c.args.toList.map (rd env')=c.args.toList.map (rd env):=List.map_congr_left fun p hp=>hx p (by simp[Call.operands];exact .inr (by simpa using hp))
  have ha:∀x∈c.args.toList,rd env' x=rd env x:=fun p hp=>hx p (by simp[Call.operands];exact .inr (by simpa using hp))
  cases hc:c.callee with
  |value f=>
   rw[hc]at h
   simp only at h ⊢
   rw[hx f (by simp[Call.operands,hc]),ea]
   obtain⟨g,caps,Q,h1,h2,h3,h4⟩:=h
   exact⟨g,caps,Q,h1,h2,fun x s' q=>hr _ _ (h3 x s' q),fun x s' q=>hE _ _ (h4 x s' q)⟩
  |invoke r m=>rw[hc]at h;exact h.elim
  |builtin b=>
   rw[hc]at h
   cases b with
   |len=>
    simp only at h ⊢
    split at h
    ·rename_i x T he hT
     rw[ha x (by rw[he];simp)]
     exact ob (fun _=>hr _ _) h
    ·exact h.elim
   |min=>
    simp only at h ⊢
    split at h
    ·rename_i x y he
     rw[ha x (by rw[he];simp),ha y (by rw[he];simp)]
     exact ob (fun _=>hr _ _) h
    ·exact h.elim
   |max=>
    simp only at h ⊢
    split at h
    ·rename_i x y he
     rw[ha x (by rw[he];simp),ha y (by rw[he];simp)]
     exact ob (fun _=>hr _ _) h
    ·exact h.elim
   |append=>
    simp only at h ⊢
    split at h
    ·rename_i x y T T' he hT
     rw[ha x (by rw[he];simp),ha y (by rw[he];simp)]
     refine⟨h.1,?_⟩
     have h2:=h.2
     split at h2
     ·obtain⟨a0,a1,a2,a3,a4,a5⟩:=h2
      refine⟨a0,a1,a2,a3,a4,?_⟩
      split at a5
      ·exact a5
      ·exact⟨a5.1,fun e=>hr _ _ (a5.2.1 e),fun e b hb=>hr _ _ (a5.2.2 e b hb)⟩
      ·exact⟨a5.1,fun b hb=>hr _ _ (a5.2 b hb)⟩
     ·obtain⟨a0,a1,a2,a3,a4,a5,a6,a7,a8⟩:=h2
      exact⟨a0,a1,a2,a3,a4,a5,a6,a7,fun b' hb'=>hr _ _ (a8 b' hb')⟩
     ·obtain⟨a0,a1,a2,a3,a4,a5,a6⟩:=h2
      exact⟨a0,a1,a2,a3,a4,a5,fun b' hb'=>hr _ _ (a6 b' hb')⟩
     ·obtain⟨a0,a1,a2,a3,a4,a5⟩:=h2
      refine⟨a0,a1,a2,a3,a4,?_⟩
      split at a5
      ·exact a5
      ·exact⟨a5.1,fun e=>hr _ _ (a5.2.1 e),fun e b hb=>hr _ _ (a5.2.2 e b hb)⟩
      ·exact⟨a5.1,fun b hb=>hr _ _ (a5.2 b hb)⟩
     ·exact h2.elim
    ·exact h.elim
   |_=>exact h.elim
def F0:VV→Env→St→Prop:=fun _ _ _=>False
theorem put_det {N:Nat}{env env':Env}{d:Option Tmp}{y z:VV}(h:put N env d y=put N env d z):put N env' d y=put N env' d z:=by
 cases d with
 |none=>rfl
 |some t=>
  simp only[put]at h ⊢
  split at h
  ·rename_i ht
   have:=congrFun h t
   simp only[upd,if_true]at this
   rw[this]
  ·rename_i ht;simp only[ht,if_false]
theorem rd_put {N:Nat}{env:Env}{dst:Option Tmp}{u:VV}{x:Operand}(h:∀d,dst=some d→x≠.tmp d):rd (put N env dst u) x=rd env x:=by
 cases dst with
 |none=>rfl
 |some t=>
  cases x with
  |tmp t'=>
   have:t'≠t:=fun e=>h t rfl (by rw[e])
   simp only[rd,put]
   split
   ·simp[upd,this]
   ·rfl
  |_=>rfl
theorem put_comm {N:Nat}{env:Env}{d d':Option Tmp}{y u:VV}(h:∀t,d=some t→d'≠some t):put N (put N env d y) d' u=put N (put N env d' u) d y:=by
 cases d with
 |none=>rfl
 |some t=>
  cases d' with
  |none=>rfl
  |some t'=>
   have hne:t≠t':=fun e=>h t rfl (by rw[e])
   simp only[put]
   split<;>split<;>try rfl
   funext x
   simp only[upd]
   by_cases h1:x=t
   ·subst h1;simp[hne]
   ·simp[h1]
section
variable {P : Program} {N : Nat} {all : List Oper} {s : St}
def YV (P:Program)(N:Nat)(all:List Oper)(s:St)(o:Oper)(y:VV)(env:Env):Prop:=∀K:Env→St→Prop,K (put N env o.dst y) s→vgone P N all F0 o K env s
theorem vgone_congr {E E':VV→Env→St→Prop}{o:Oper}{K K':Env→St→Prop}{env env':Env}(hx:∀x∈o.op.operands.toList,rd env' x=rd env x)(hg:∀j b,o.guard=some (j,b)→yv all env' j=yv all env j)
  (hr:∀y s',K (put N env o.dst y) s'→K' (put N env' o.dst y) s') (hE:∀x s,E x env s→E' x env' s) (h:vgone P N all E o K env s):vgone P N all E' o K' env' s:=by
 unfold vgone at h ⊢
 cases ho:o.guard with
 |none=>rw[ho]at h;exact vstep_congr hx hr hE h
 |some g=>
  obtain⟨j,b⟩:=g
  rw[ho]at h
  simp only at h ⊢
  rw[hg j b ho]
  unfold vguard at h ⊢
  split at h
  ·split at h
   ·rename_i hb;rw[if_pos hb];exact vstep_congr hx hr hE h
   ·rename_i hb;rw[if_neg hb];exact hr _ _ h
  ·exact hr _ _ h
  ·exact h.elim
theorem YV_same {o:Oper}{y:VV}{env env':Env}(hx:∀x∈o.op.operands.toList,rd env' x=rd env x)(hg:∀j b,o.guard=some (j,b)→yv all env' j=yv all env j)
  (h:YV P N all s o y env):YV P N all s o y env':=fun K hK=>
 vgone_congr hx hg (K:=fun e s'=>∃z,e=put N env o.dst z∧K (put N env' o.dst z) s') (fun z s' ⟨z',e,hk⟩=>by rw[put_det e];exact hk) (fun _ _ h=>h) (h _ ⟨y,rfl,hK⟩)
theorem YV_put {N:Nat}{all:List Oper}{o:Oper}{u:VV}{env:Env}{dst:Option Tmp}(hd:∀d,dst=some d→d∉o.looksAt all.toArray) :
  (∀x∈o.op.operands.toList,rd (put N env dst u) x=rd env x)∧(∀j b,o.guard=some (j,b)→yv all (put N env dst u) j=yv all env j):=by
 constructor
 ·intro x hx
  refine rd_put fun d hd' hxd=>hd d hd' ?_
  subst hxd
  exact List.mem_append_left _ (List.mem_filterMap.2 ⟨.tmp d,by simpa using hx,rfl⟩)
 ·intro j b hg
  unfold yv
  cases hj:(all[j]?).bind (·.dst)with
  |none=>rfl
  |some t=>
   simp only
   have:rd (put N env dst u) (.tmp t)=rd env (.tmp t):=rd_put fun d hd' hxd=>hd d hd' (by
    injection hxd with hxd
    subst hxd
    refine List.mem_append_right _ ?_
    simp[hg,hj])
   exact this
theorem vopi_mono {E:VV→Env→St→Prop}{i:Nat}{K K':Env→St→Prop}{env:Env}{s:St}(h:∀e s,K e s→K' e s)(hh:vopi P N all E i K env s):vopi P N all E i K' env s:=by
 unfold vopi at *
 cases ho:all[i]? with
 |none=>rw[ho]at hh;exact h _ _ hh
 |some o=>
  rw[ho]at hh
  exact vgone_congr (fun _ _=>rfl) (fun _ _ _=>rfl) (fun _ _=>h _ _) (fun _ _ h=>h) hh
end
end Go.Proofs.YtgdbgfjhenobdaaGreatDoor
