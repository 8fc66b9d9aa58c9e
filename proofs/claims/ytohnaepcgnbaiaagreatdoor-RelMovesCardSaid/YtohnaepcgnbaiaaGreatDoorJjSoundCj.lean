/- Walks of functions that the claim reaches, and plain facts of them. Conditions: those in the statements. -/
import Derived.Test.YtohnaepcgnbaiaaGreatDoorJjQmj
import Derived.Deep.AppendSrc
import Derived.Lib.FrozenHead
import Derived.Test.YtohnaepcgnbaiaaGreatDoorProg
import Derived.Tactics
import Derived.Tactics2
import Derived.Defers
import Derived.KernelRfl
import Derived.Laws.Pointers
import Derived.Laws.LoneSync
import Derived.RegionTactic
import Derived.RegionCalls
import Derived.ChangeAlike
set_option linter.unusedSimpArgs false
set_option linter.unusedVariables false
namespace Go.Proofs.YtohnaepcgnbaiaaGreatDoor
open Go.RowKit
section
variable {P : Program} {N : Nat} {w0 w w' : World} {G G' : Gh} {s s' : St}
theorem qf_spec {T:TypeId}{j off sz:Nat}{ag:Bool}(h:qf P T j=some (off,sz,ag)) :
  ∃fs f d i,P.underlying T=some (.struct fs)∧fs[j]?=some f∧P.underlying f.type=some d∧P.info? f.type=some i∧i.size≠0∧f.offset=off∧i.size=sz∧(qkOf d).agg=ag:=by
 unfold qf at h
 split at h
 ·rename_i fs hu
  split at h
  ·rename_i f hf
   split at h
   ·rename_i d i hd hi
    split at h
    ·cases h
    ·rename_i hz
     simp only[Option.some.injEq,Prod.mk.injEq]at h
     exact⟨fs,f,d,i,hu,hf,hd,hi,hz,h.1,h.2.1,h.2.2⟩
   ·cases h
  ·cases h
 ·cases h
theorem run_fieldAt {T:TypeId}{j off sz:Nat}{ag:Bool}(h:qf P T j=some (off,sz,ag))(b o:Nat) :
  (Instr.fieldAt T (.pointer (some ⟨b,o,none⟩)) j).run P w=.ok (.pointer (some ⟨b,o+off,none⟩)) w:=by
 obtain⟨fs,f,d,i,hu,hf,hd,hi,hz,ho,hs,_⟩:=qf_spec h
 unfold Instr.fieldAt
 simp only[Sem.run_bind,run_underlying hu,Result.andThen_ok,hf,Instr.sureAddr,Sem.run_pure,fieldPlace,run_sizeOf hi,Sem.run_ite]
 rw[if_neg hz]
 simp[add_none,ho]
theorem R.eptr_drop {b o:Nat}{cs:List VV}(h:R G (.pointer (some ⟨b,o,none⟩)) (.eptr cs))(off:Nat):R G (.pointer (some ⟨b,o+off,none⟩)) (.eptr (cs.drop off)):=by
 cases h with
 |eptr b off' cs f h1 hK hR=>
  refine .eptr b (o+off) _ (fun j=>f (off+j)) (fun y hy=>h1 y (List.mem_of_mem_drop hy)) (fun j hj=>?_) (fun j y hy=>?_)
  ·rw[List.length_drop]at hj
   rw[Nat.add_assoc]
   exact hK _ (by omega)
  ·rw[List.getElem?_drop]at hy
   exact hR _ y hy
theorem run_field {T:TypeId}{j off sz:Nat}{ag:Bool}{cs:List VV}{v:Value}{x:VV}(h:qf P T j=some (off,sz,ag))(hv:R G v (.agg cs))(hx:partOf cs off sz ag=some x) :
  ∃u,(Instr.field T v j).run P w=.ok u w∧R G u x:=by
 obtain⟨fs,f,d,i,hu,hf,hd,hi,hz,ho,hs,hag⟩:=qf_spec h
 cases hv with
 |agg vs xs hsz h1 hR=>
  unfold partOf at hx
  split at hx
  ·rename_i hle
   unfold Instr.field
   simp only[Sem.run_bind,run_underlying hu,Result.andThen_ok,hf,asAgg,Sem.run_pure,part,run_isAgg hd,Sem.run_ite,run_sizeOf hi,hag,ho]
   cases ag with
   |true=>
    simp only[if_true,Option.some.injEq]at hx
    subst hx
    refine⟨_,by simp;rfl,.agg _ _ (by simp;omega) (fun y hy=>h1 y (List.mem_of_mem_drop (List.mem_of_mem_take hy))) (fun k v y hv hy=>?_)⟩
    rw[Array.getElem?_extract]at hv
    rw[List.getElem?_take]at hy
    split at hy
    ·rw[List.getElem?_drop]at hy
     split at hv
     ·exact hR _ v y hv hy
     ·cases hv
    ·cases hy
   |false=>
    simp only[Bool.false_eq_true,if_false]at hx ⊢
    split at hx
    ·have hlt:off<vs.size:=by have:=(List.getElem?_eq_some_iff.1 hx).1;omega
     refine⟨vs[off],by simp[hlt],hR off _ x (Array.getElem?_eq_getElem hlt) hx⟩
    ·cases hx
  ·cases hx
theorem kind_slice {T e:TypeId}(hk:(qi P T).k=.slice e):P.underlying T=some (.slice e):=by
 obtain⟨d,i,hd,hi,hkT,_⟩:=qi_spec (P:=P) T (.inr (.inl (by rw[hk];simp)))
 rw[hk]at hkT
 cases d<;>simp[qkOf]at hkT
 rw[hd,hkT]
theorem kind_str {T:TypeId}(hk:(qi P T).k=.str):P.underlying T=some .string:=by
 obtain⟨d,i,hd,hi,hkT,_⟩:=qi_spec (P:=P) T (.inr (.inl (by rw[hk];simp)))
 rw[hk]at hkT
 cases d<;>simp[qkOf]at hkT
 exact hd
theorem kind_arr {T e:TypeId}{m:Nat}(hk:(qi P T).k=.array m e):P.underlying T=some (.array m e):=by
 obtain⟨d,i,hd,hi,hkT,_⟩:=qi_spec (P:=P) T (.inr (.inl (by rw[hk];simp)))
 rw[hk]at hkT
 cases d<;>simp[qkOf]at hkT
 rw[hd,hkT.1,hkT.2]
theorem kind_bool {T:TypeId}(hk:(qi P T).k=.bool):P.underlying T=some .bool:=by
 obtain⟨d,i,hd,hi,hkT,_⟩:=qi_spec (P:=P) T (.inr (.inl (by rw[hk];simp)))
 rw[hk]at hkT
 cases d<;>simp[qkOf]at hkT
 exact hd
theorem kind_int {T:TypeId}{k:IntKind}(hk:(qi P T).k=.int k):P.underlying T=some (.int k):=by
 obtain⟨d,i,hd,hi,hkT,_⟩:=qi_spec (P:=P) T (.inr (.inl (by rw[hk];simp)))
 rw[hk]at hkT
 cases d<;>simp[qkOf]at hkT
 rw[hd,hkT]
theorem kind_map {T k e:TypeId}(hk:(qi P T).k=.map k e):P.underlying T=some (.map k e):=by
 obtain⟨d,i,hd,hi,hkT,_⟩:=qi_spec (P:=P) T (.inr (.inl (by rw[hk];simp)))
 rw[hk]at hkT
 cases d<;>simp[qkOf]at hkT
 rw[hd,hkT.1,hkT.2]
theorem R.elem {v:Value}{xs:List (List VV)}{o:Own}{n:Nat}{cs:List VV}(h:R G v (.lst xs o))(hx:xs[n]?=some cs) :
  ∃b off len cap sz,v=.slice (some ⟨b,off,none⟩) len cap∧n<len∧cs.length=sz∧R G (.pointer (some ⟨b,off+n * sz,none⟩)) (.eptr cs):=by
 cases h with
 |emp a cap o ho=>simp at hx
 |lst b off len cap sz xs o f hl hc hz h1 hK hR ho=>
  have hm:cs∈xs:=List.mem_iff_getElem?.2 ⟨n,hx⟩
  have hn:n<xs.length:=(List.getElem?_eq_some_iff.1 hx).1
  refine⟨b,off,len,cap,sz,rfl,by omega,hz cs hm,.eptr b _ cs (f n) (h1 cs hm) (fun j hj=>?_) (fun j y hy=>hR n j cs y hx hy)⟩
  rw[Nat.add_assoc]
  exact hK n j (by omega) (by have:=hz cs hm;omega)
theorem run_vidx {T:TypeId}{v u:Value}{x i y:VV}(hv:R G v x)(hu:R G u i)(h:vidx (qi P T) (qi P (elemT (qi P T))).sz x i=some y) :
  ∃p,(Instr.indexAt T v u).run P w=.ok p w∧R G p y:=by
 unfold vidx at h
 split at h
 ·rename_i e xs o k n hk
  split at h
  ·rename_i h0
   cases hx:xs[n.toNat]? with
   |none=>simp[hx]at h
   |some cs=>
    simp only[hx,Option.bind_some]at h
    split at h
    ·rename_i hsz
     simp only[Option.some.injEq]at h
     subst h
     cases hu
     obtain⟨b,off,len,cap,sz,rfl,hlt,hcs,hp⟩:=R.elem hv hx
     have hd:=kind_slice hk
     have he:elemT (qi P T)=e:=by simp[elemT,hk]
     rw[he]at hsz
     have hinfo:∃i,P.info? e=some i∧i.size=sz:=by
      obtain⟨d',i',_,hi',_,hs',_⟩:=qi_spec (P:=P) e (.inl (by omega))
      exact⟨i',hi',by omega⟩
     obtain⟨ie,hie,hies⟩:=hinfo
     refine⟨_,?_,hp⟩
     unfold Instr.indexAt
     simp only[asIntOf,Sem.run_bind,Sem.run_pure,Result.andThen_ok,run_underlying hd]
     rw[if_pos ⟨h0,by omega⟩]
     simp only[Sem.run_bind,run_sizeOf hie,Result.andThen_ok,Sem.run_pure,add_none,hies]
    ·cases h
  ·cases h
 ·rename_i e b m k n hk
  split at h
  ·rename_i hc
   obtain⟨h0,hlt,hsz⟩:=hc
   injection h with h
   subst h
   cases hu
   cases hv
   have hd:=kind_slice hk
   have he:elemT (qi P T)=e:=by simp[elemT,hk]
   rw[he]at hsz
   obtain⟨d',i',_,hi',_,hs',_⟩:=qi_spec (P:=P) e (.inl (by omega))
   refine⟨_,?_,.ptr b n.toNat⟩
   unfold Instr.indexAt
   simp only[asIntOf,Sem.run_bind,Sem.run_pure,Result.andThen_ok,run_underlying hd]
   rw[if_pos ⟨h0,by omega⟩]
   simp only[Sem.run_bind,run_sizeOf hi',Result.andThen_ok,Sem.run_pure,add_none]
   rw[← hs',hsz,Nat.mul_one,Nat.zero_add]
  ·cases h
 ·rename_i e b m k n hk
  split at h
  ·rename_i hc
   obtain⟨h0,hlt,hsz⟩:=hc
   injection h with h
   subst h
   cases hu
   cases hv
   have hd:=kind_slice hk
   have he:elemT (qi P T)=e:=by simp[elemT,hk]
   rw[he]at hsz ⊢
   obtain⟨d',i',_,hi',_,hs',_⟩:=qi_spec (P:=P) e (.inl (by omega))
   refine⟨_,?_,.ptr b _⟩
   unfold Instr.indexAt
   simp only[asIntOf,Sem.run_bind,Sem.run_pure,Result.andThen_ok,run_underlying hd]
   rw[if_pos ⟨h0,by omega⟩]
   simp only[Sem.run_bind,run_sizeOf hi',Result.andThen_ok,Sem.run_pure,add_none]
   rw[← hs',Nat.zero_add]
  ·cases h
 ·rename_i m e b off k n hk
  split at h
  ·rename_i hc
   obtain⟨h0,hlt,hsz⟩:=hc
   injection h with h
   subst h
   cases hu
   cases hv
   have hd:=kind_arr hk
   have he:elemT (qi P T)=e:=by simp[elemT,hk]
   rw[he]at hsz ⊢
   obtain⟨d',i',_,hi',_,hs',_⟩:=qi_spec (P:=P) e (.inl (by omega))
   refine⟨_,?_,.ptr b _⟩
   unfold Instr.indexAt
   simp only[asIntOf,Sem.run_bind,Sem.run_pure,Result.andThen_ok,run_underlying hd,Instr.sureAddr]
   rw[if_pos ⟨h0,by omega⟩]
   simp only[Sem.run_bind,run_sizeOf hi',Result.andThen_ok,Sem.run_pure,add_none]
   rw[← hs']
  ·cases h
 ·rename_i m e cs k n hk
  split at h
  ·rename_i hc
   obtain⟨h0,hlt,hsz⟩:=hc
   injection h with h
   subst h
   cases hu
   have hd:=kind_arr hk
   have he:elemT (qi P T)=e:=by simp[elemT,hk]
   rw[he]at hsz ⊢
   obtain⟨d',i',_,hi',_,hs',_⟩:=qi_spec (P:=P) e (.inl (by omega))
   have hp:∃b off,v=.pointer (some ⟨b,off,none⟩):=by cases hv with|eptr b off cs f h1 hK hR=>exact⟨b,off,rfl⟩
   obtain⟨b,off,rfl⟩:=hp
   refine⟨_,?_,hv.eptr_drop _⟩
   unfold Instr.indexAt
   simp only[asIntOf,Sem.run_bind,Sem.run_pure,Result.andThen_ok,run_underlying hd,Instr.sureAddr]
   rw[if_pos ⟨h0,by omega⟩]
   simp only[Sem.run_bind,run_sizeOf hi',Result.andThen_ok,Sem.run_pure,add_none]
   rw[← hs']
  ·cases h
 ·cases h
theorem run_vat {T:TypeId}{v u:Value}{x i y:VV}(hv:R G v x)(hu:R G u i)(h:vat (qi P T) (qi P (elemT (qi P T))) x i=some y) :
  ∃p,(Instr.index T v u).run P w=.ok p w∧R G p y:=by
 unfold vat at h
 split at h
 ·rename_i l k n hk
  split at h
  ·rename_i h0
   cases hx:l[n.toNat]? with
   |none=>simp[hx]at h
   |some c=>
    simp only[hx,Option.map_some,Option.some.injEq]at h
    subst h
    cases hu
    cases hv with
    |str a=>
     refine⟨.int .u8 c.toNat,?_,.int _ _⟩
     have hg:(⟨a⟩:ByteArray)[n.toNat]?=some c:=by
      have:=hx
      rw[Array.getElem?_toList]at this
      exact this
     unfold Instr.index
     simp only[asIntOf,Sem.run_bind,Sem.run_pure,Result.andThen_ok,run_underlying (kind_str hk),h0,if_true,hg]
  ·cases h
 ·rename_i m e xs k n hk
  split at h
  ·rename_i hc
   obtain⟨h0,hlt,hsz,hag⟩:=hc
   have he:elemT (qi P T)=e:=by simp[elemT,hk]
   rw[he]at hsz hag
   obtain⟨d',i',hd',hi',hk',hs',_⟩:=qi_spec (P:=P) e (.inl (by omega))
   cases hu
   cases hv with
   |agg vs _ hs h1 hR=>
    have hlt':n.toNat<vs.size:=by
     rw[hs]
     rcases Nat.lt_or_ge n.toNat xs.length with hx|hx
     ·exact hx
     ·rw[List.getElem?_eq_none hx]at h
      cases h
    have hg:vs[n.toNat]?=some vs[n.toNat]:=by simp[hlt']
    refine⟨vs[n.toNat],?_,hR _ _ _ hg h⟩
    unfold Instr.index
    simp only[asIntOf,Sem.run_bind,Sem.run_pure,Result.andThen_ok,run_underlying (kind_arr hk)]
    rw[if_pos ⟨h0,by omega⟩]
    have hna:(isAgg e).run P w=.ok false w:=by
     rw[hk']at hag
     unfold isAgg
     simp only[Sem.run_bind,run_underlying hd',Result.andThen_ok]
     cases d'<;>first|rfl|(simp[qkOf,QK.agg]at hag)
    have h1':i'.size=1:=by omega
    simp only[Sem.run_bind,run_sizeOf hi',Result.andThen_ok,part,hna,h1',Nat.mul_one,hg]
    rfl
  ·cases h
 ·cases h
def RO (G:Gh):Option Value→Option VV→Prop
 |none,none=>True
 |some v,some x=>R G v x
 |_,_=>False
theorem run_bound {y:VV}{v:Value}{dflt b:Nat}{c:BoundsCode}{top:Nat}(h:vbound (some y) dflt=some b)(hr:R G v y)(hb:b≤top) :
  (Instr.sliceBound v top c).run P w=.ok b w:=by
 cases y with
 |int k n=>
  cases hr
  simp only[vbound]at h
  split at h
  ·rename_i h0
   simp only[Option.some.injEq]at h
   simp only[Instr.sliceBound,asIntOf,Sem.run_bind,Sem.run_pure,Result.andThen_ok]
   rw[if_pos ⟨h0,by omega⟩]
   simp[h]
  ·cases h
 |_=>simp[vbound]at h
theorem run_bounds {isS:Bool}{len cap a b:Nat}{lo hi:Option VV}{ulo uhi:Option Value}(hlo:RO G ulo lo)(hhi:RO G uhi hi)
  (ha:vbound lo 0=some a) (hb:vbound hi len=some b) (hab:a≤b) (hbc:b≤cap) :
  (Instr.sliceBounds isS len cap ulo uhi none).run P w=.ok (a,b,cap) w:=by
 unfold Instr.sliceBounds
 cases hi with
 |none=>
  cases uhi with
  |some u=>exact hhi.elim
  |none=>
   simp only[vbound,Option.some.injEq]at hb
   subst hb
   cases lo with
   |none=>
    cases ulo with
    |some u=>exact hlo.elim
    |none=>
     simp only[vbound,Option.some.injEq]at ha
     simp[ha]
   |some y=>
    cases ulo with
    |none=>exact hlo.elim
    |some u=>simp[run_bound (P:=P) (w:=w) ha hlo hab]
 |some yh=>
  cases uhi with
  |none=>exact hhi.elim
  |some uh=>
   cases lo with
   |none=>
    cases ulo with
    |some u=>exact hlo.elim
    |none=>
     simp only[vbound,Option.some.injEq]at ha
     simp[run_bound (P:=P) (w:=w) hb hhi hbc,ha]
   |some y=>
    cases ulo with
    |none=>exact hlo.elim
    |some u=>simp[run_bound (P:=P) (w:=w) hb hhi hbc,run_bound (P:=P) (w:=w) ha hlo hab]
theorem R.sub {b off len cap lo hi sz:Nat}{xs:List (List VV)}{o:Own}(h:R G (.slice (some ⟨b,off,none⟩) len cap) (.lst xs o))(hle:lo≤hi)(hlen:hi≤xs.length)
  (hsz:∀x,x∈xs→x.length=sz):R G (.slice (if cap=lo then some ⟨b,off,none⟩else some ⟨b,off+lo * sz,none⟩) (hi - lo) (cap - lo)) (.lst ((xs.take hi).drop lo) .no):=by
 by_cases heq:hi=lo
 ·subst heq
  have:(xs.take hi).drop hi=[]:=List.drop_eq_nil_of_le (by rw[List.length_take];omega)
  rw[this,Nat.sub_self]
  exact .emp _ _ _ (.inl rfl)
 ·cases h with
  |emp a cap o ho=>simp at hlen;omega
  |lst b off len cap sz' xs o f hl hc hz h1 hK hR ho=>
   have hne:xs≠[]:=by intro e;subst e;simp at hlen;omega
   have hs':sz'=sz:=by
    obtain⟨x,hx⟩:=List.exists_mem_of_ne_nil xs hne
    rw[← hz x hx,hsz x hx]
   subst hs'
   rw[if_neg (by omega)]
   have hmem:∀x,x∈(xs.take hi).drop lo→x∈xs:=fun x hx=>List.mem_of_mem_take (List.mem_of_mem_drop hx)
   refine .lst b _ _ _ sz' _ .no (fun i j=>f (lo+i) j) (by rw[List.length_drop,List.length_take];omega) (by omega) (fun x hx=>hz x (hmem x hx)) (fun x hx=>h1 x (hmem x hx)) (fun i j hi' hj=>?_) (fun i j x y hx hy=>?_) (.inl rfl)
   ·have:=hK (lo+i) j (by omega) hj
    rw[Nat.add_mul]at this
    rw[← this]
    congr 1
    omega
   ·rw[List.getElem?_drop,List.getElem?_take]at hx
    split at hx
    ·exact hR _ j x y hx hy
    ·cases hx
theorem extract_str (a:Array UInt8)(lo hi:Nat):((⟨a⟩:ByteArray).extract lo hi)=⟨((a.toList.take hi).drop lo).toArray⟩:=by
 have:((⟨a⟩:ByteArray).extract lo hi).data=((a.toList.take hi).drop lo).toArray:=by
  rw[ByteArray.data_extract]
  apply Array.toList_inj.1
  simp[List.drop_take]
 exact congrArg ByteArray.mk this
theorem run_vslice {T:TypeId}{v:Value}{x y:VV}{lo hi:Option VV}{ulo uhi:Option Value}(hv:R G v x)(hlo:RO G ulo lo)(hhi:RO G uhi hi)
  (h:vslice (qi P T) (qi P (elemT (qi P T))) x lo hi=some y):∃p,(Instr.sliceAt T v ulo uhi none).run P w=.ok p w∧R G p y:=by
 unfold vslice at h
 split at h
 ·rename_i l hk
  split at h
  ·rename_i a b ha hb
   split at h
   ·rename_i hab
    simp only[Option.some.injEq]at h
    subst h
    cases hv with
    |str arr=>
     have hd:=kind_str hk
     have hbs:=run_bounds (P:=P) (w:=w) (isS:=false) (cap:=arr.size) hlo hhi ha hb hab.1 (by simpa using hab.2)
     refine⟨.string ⟨((arr.toList.take b).drop a).toArray⟩,?_,by simpa using R.str (G:=G) ((arr.toList.take b).drop a).toArray⟩
     have hbs':(Instr.sliceBounds false (ByteArray.mk arr).size (ByteArray.mk arr).size ulo uhi none).run P w=.ok (a,b,arr.size) w:=by
      have e:(ByteArray.mk arr).size=arr.toList.length:=by simp[ByteArray.size]
      rw[show (ByteArray.mk arr).size=arr.size from rfl]
      rw[show arr.toList.length=arr.size by simp]at hbs
      exact hbs
     unfold Instr.sliceAt
     simp only[Sem.run_bind,run_underlying hd,Result.andThen_ok]
     unfold Instr.slice
     simp only[Sem.run_bind,run_underlying hd,Result.andThen_ok,Option.isSome_none,Bool.false_eq_true,if_false,hbs',Sem.run_pure,extract_str]
   ·cases h
  ·cases h
 ·rename_i e xs o hk
  split at h
  ·rename_i a b ha hb
   split at h
   ·rename_i hab
    obtain⟨hab,hble,hpos,hall⟩:=hab
    simp only[Option.some.injEq]at h
    subst h
    have hd:=kind_slice hk
    have he:elemT (qi P T)=e:=by simp[elemT,hk]
    rw[he]at hpos hall
    obtain⟨d',i',_,hi',_,hs',_⟩:=qi_spec (P:=P) e (.inl (by omega))
    cases hv with
    |emp ad cap o ho=>
     have hbs:=run_bounds (P:=P) (w:=w) (isS:=true) (cap:=cap) hlo hhi ha hb hab (by simp at hble;omega)
     simp only[List.length_nil]at hbs hble
     refine⟨.slice (if cap=a then ad else ad.map (·.add (a * i'.size))) (b - a) (cap - a),?_,?_⟩
     ·unfold Instr.sliceAt
      simp only[Sem.run_bind,run_underlying hd,Result.andThen_ok]
      unfold Instr.slice
      simp only[Sem.run_bind,run_underlying hd,Result.andThen_ok,hbs,run_sizeOf hi',Sem.run_pure]
     ·have:b - a=0:=by omega
      rw[this]
      have:(([]:List (List VV)).take b).drop a=[]:=by simp
      rw[this]
      exact .emp _ _ _ (.inl rfl)
    |lst bb off len cap sz xs o f hl hc hz h1 hK hR ho=>
     have hbs:=run_bounds (P:=P) (w:=w) (isS:=true) (cap:=cap) hlo hhi ha hb hab (by omega)
     rw[hl]at hbs
     refine⟨_,?_,R.sub (sz:=i'.size) (R.lst bb off len cap sz xs o f hl hc hz h1 hK hR ho) hab hble (fun x hx=>by rw[← hs'];exact hall x hx)⟩
     unfold Instr.sliceAt
     simp only[Sem.run_bind,run_underlying hd,Result.andThen_ok]
     unfold Instr.slice
     simp only[Sem.run_bind,run_underlying hd,Result.andThen_ok,hbs,run_sizeOf hi',Sem.run_pure]
     congr 2
     split
     ·rfl
     ·simp[add_none]
   ·cases h
  ·cases h
 ·rename_i e g n hk
  split at h
  ·rename_i a b ha hb
   split at h
   ·rename_i hab
    obtain⟨ha0,hble,hpos⟩:=hab
    simp only[Option.some.injEq]at h
    subst h
    subst ha0
    have hd:=kind_slice hk
    have he:elemT (qi P T)=e:=by simp[elemT,hk]
    rw[he]at hpos
    obtain⟨d',i',_,hi',_,hs',_⟩:=qi_spec (P:=P) e (.inl (by omega))
    cases hv with
    |mrw b' n' cap sz hq hn=>
     have hbs:=run_bounds (P:=P) (w:=w) (isS:=true) (cap:=cap) hlo hhi ha hb (Nat.zero_le _) (by omega)
     refine⟨_,?_,R.mrw g b cap sz hq (by omega)⟩
     unfold Instr.sliceAt
     simp only[Sem.run_bind,run_underlying hd,Result.andThen_ok]
     unfold Instr.slice
     simp only[Sem.run_bind,run_underlying hd,Result.andThen_ok,hbs,run_sizeOf hi',Sem.run_pure]
     congr 2
     split
     ·rfl
     ·simp[add_none]
   ·cases h
  ·cases h
 ·cases h
theorem run_vlen {T:TypeId}{v:Value}{x y:VV}{ty:TypeId}(hS:Sim w0 G w s)(hv:R G v x)(h:vlen (qi P T) x s=some y) :
  ∃p,(Builtin.len_ #[T] ty #[v]).run P w=.ok p w∧R G p y:=by
 unfold vlen at h
 split at h
 ·rename_i l hk
  simp only[Option.some.injEq]at h
  subst h
  cases hv with
  |str a=>
   refine⟨.int .i64 a.size,?_,by simpa using R.int (G:=G) .i64 (a.size:Int)⟩
   simp only[Builtin.len_,run_underlying (kind_str hk),goInt,Sem.run_bind,Result.andThen_ok,List.getElem?_toArray,List.getElem?_cons_zero]
   rfl
 ·rename_i e xs o hk
  simp only[Option.some.injEq]at h
  subst h
  cases hv with
  |emp a cap o ho=>exact⟨.int .i64 0,by simp[Builtin.len_,run_underlying (kind_slice hk),goInt],.int _ _⟩
  |lst b off len cap sz xs o f hl hc hz h1 hK hR ho=>
   exact⟨.int .i64 len,by simp[Builtin.len_,run_underlying (kind_slice hk),goInt],by rw[hl];exact .int _ _⟩
 ·rename_i e b n hk
  simp only[Option.some.injEq]at h
  subst h
  cases hv
  exact⟨.int .i64 n,by simp[Builtin.len_,run_underlying (kind_slice hk),goInt],.int _ _⟩
 ·rename_i e b n hk
  simp only[Option.some.injEq]at h
  subst h
  cases hv
  exact⟨.int .i64 n,by simp[Builtin.len_,run_underlying (kind_slice hk),goInt],.int _ _⟩
 ·rename_i e hk
  simp only[Option.some.injEq]at h
  subst h
  cases hv
  exact⟨.int .i64 0,by simp[Builtin.len_,run_underlying (kind_slice hk),goInt],.int _ _⟩
 ·rename_i k e b hk
  split at h
  ·rename_i es hb
   simp only[Option.some.injEq]at h
   subst h
   cases hv
   have ho:=hS.ok b
   rw[hb]at ho
   obtain⟨_,c,clock,hh,hsz,_⟩:=ho
   refine⟨.int .i64 c.size,?_,by rw[hsz.1];exact .int _ _⟩
   have:(getObj b).run P w=.ok (.map c clock) w:=by simp[getObj,Sem.run,hh]
   simp[Builtin.len_,run_underlying (kind_map hk),goInt,this]
  ·cases h
 ·cases h
end
section
variable {P : Program} {N : Nat} {w0 w w' : World} {G G' : Gh} {s s' : St}
theorem divmod (j sz:Nat):j / sz * sz+j % sz=j:=by
 have:=Nat.div_add_mod j sz
 rw[Nat.mul_comm]
 exact this
theorem R.row {b off len cap sz:Nat}{xs:List (List VV)}{o:Own}(hS:Sim w0 G w s)(h:R G (.slice (some ⟨b,off,none⟩) len cap) (.lst xs o))(hpos:0<sz)(hsz:∀x,x∈xs→x.length=sz)(hl:0<len) :
  xs.length=len∧∃news:List Value,news.length=len * sz∧(∀(j:Nat) (u:Value),news[j]?=some u→w.cell? ((⟨b,off,none⟩:Addr).add j)=some u)∧(∀u,u∈news→u.oneCell'=true) ∧
   (∀(j:Nat) (u:Value),news[j]?=some u→G.K b (off+j)=some u) ∧
   ∀(i j:Nat) (x:List VV) (y:VV),xs[i]?=some x→x[j]?=some y→∃v,news[i * sz+j]?=some v∧R G v y:=by
 cases h with
 |emp a cap o ho=>omega
 |lst b off len cap sz' xs o f hlen hc hz h1 hK hR ho=>
  have hne:xs≠[]:=by intro e;subst e;simp at hlen;omega
  have hs':sz'=sz:=by
   obtain⟨x,hx⟩:=List.exists_mem_of_ne_nil xs hne
   rw[← hz x hx,hsz x hx]
  subst hs'
  have hcell:∀j,j<len * sz'→G.K b (off+j)=some (f (j / sz') (j % sz')):=by
   intro j hj
   have h2:j / sz'<len:=(Nat.div_lt_iff_lt_mul hpos).2 hj
   have:=hK (j / sz') (j % sz') h2 (Nat.mod_lt _ hpos)
   rw[divmod]at this
   exact this
  refine⟨hlen,(List.range (len * sz')).map fun j=>f (j / sz') (j % sz'),by simp,fun j u hu=>?_,fun u hu=>?_,fun j u hu=>?_,fun i j x y hx hy=>?_⟩
  ·rw[List.getElem?_map]at hu
   cases hj:(List.range (len * sz'))[j]? with
   |none=>simp[hj]at hu
   |some q=>
    rw[List.getElem?_range (by have:=(List.getElem?_eq_some_iff.1 hj).1;simpa using this)]at hj
    simp only[Option.some.injEq]at hj
    subst hj
    have hlt:j<len * sz':=by
     rcases Nat.lt_or_ge j (len * sz')with h'|h'
     ·exact h'
     ·rw[List.getElem?_eq_none (by simpa using h')]at hu;cases hu
    simp[List.getElem?_range hlt]at hu
    rw[add_none,hS.K _ _ _ (hcell j hlt),hu]
  ·obtain⟨j,hj,rfl⟩:=List.mem_map.1 hu
   have hlt:j<len * sz':=by simpa using hj
   have h2:j / sz'<xs.length:=by rw[hlen];exact(Nat.div_lt_iff_lt_mul hpos).2 hlt
   have h3:j % sz'<(xs[j / sz']).length:=by rw[hz _ (List.getElem_mem h2)];exact Nat.mod_lt _ hpos
   rw[(hR (j / sz') (j % sz') _ _ (List.getElem?_eq_getElem h2) (List.getElem?_eq_getElem h3)).one]
   exact h1 _ (List.getElem_mem h2) _ (List.getElem_mem h3)
  ·have hlt:j<len * sz':=by
    have:=(List.getElem?_eq_some_iff.1 hu).1
    simpa using this
   rw[List.getElem?_map,List.getElem?_range hlt]at hu
   simp at hu
   rw[hcell j hlt,hu]
  ·have hi:i<xs.length:=(List.getElem?_eq_some_iff.1 hx).1
   have hj:j<x.length:=(List.getElem?_eq_some_iff.1 hy).1
   have hxl:=hz x (List.mem_iff_getElem?.2 ⟨i,hx⟩)
   have hlt:i * sz'+j<len * sz':=by
    have:=Nat.mul_le_mul_right sz' (show i+1≤len by omega)
    rw[Nat.succ_mul]at this
    omega
   refine⟨f i j,?_,hR i j x y hx hy⟩
   rw[List.getElem?_map,List.getElem?_range hlt]
   have e1:(i * sz'+j) / sz'=i:=by
    rw[Nat.mul_comm,Nat.mul_add_div hpos,Nat.div_eq_of_lt (by omega),Nat.add_zero]
   have e2:(i * sz'+j) % sz'=j:=by
    rw[Nat.mul_comm,Nat.mul_add_mod,Nat.mod_eq_of_lt (by omega)]
   simp[e1,e2]
def Gh.row (G:Gh)(b:Nat)(c:Array Value)(m cap sz:Nat):Gh:=
 ⟨fun x i=>if x=b then(if i<m then c[i]? else none)else G.K x i,fun x=>if x=b then some (cap,sz)else G.cap x⟩
theorem Sim.alloc_vec (hS:Sim w0 G w s)(T:TypeId)(c:Array Value)(n cap sz:Nat)(hc:c.size=cap * sz)(hn:n≤cap)(hm:cap≤maxLen) :
  Sim w0 (G.row w.heap.size c (n * sz) cap sz) (w.alloc (.cells c T)) (s.set w.heap.size (.vec T sz n))∧G.le (G.row w.heap.size c (n * sz) cap sz):=by
 have hle:G.le (G.row w.heap.size c (n * sz) cap sz):=by
  refine⟨fun b i v hv=>?_,fun b q hq=>?_⟩
  ·have:b≠w.heap.size:=by rintro rfl;rw[hS.K_fresh]at hv;cases hv
   simp[Gh.row,this,hv]
  ·have:b≠w.heap.size:=by rintro rfl;rw[hS.cap_fresh]at hq;cases hq
   simp[Gh.row,this,hq]
 refine⟨⟨hS.below.alloc hS.size_le _,fun b i v hk=>?_,fun b q hq=>?_,fun b=>?_,hS.gl,(hS.rows_new _ _ (fun _ _ _ e=>by cases e)).grow hle (fun b i hb=>by simp[Gh.row,hb]) (St.set_same _ _ _)⟩,hle⟩
 ·by_cases hb:b=w.heap.size
  ·subst hb
   simp only[Gh.row,if_true]at hk
   rw[World.cell?_alloc_new]
   split at hk
   ·exact hk
   ·cases hk
  ·simp only[Gh.row,hb,if_false]at hk
   exact cell?_alloc (hS.K b i v hk)
 ·by_cases hb:b=w.heap.size
  ·subst hb;simp
  ·simp only[Gh.row,hb,if_false]at hq
   have:=hS.cap b q hq
   simp;omega
 ·by_cases hb:b=w.heap.size
  ·subst hb
   rw[St.set_same]
   refine⟨hS.size_le,c,cap,(0,0),by simp[Gh.row],heap_alloc_new w _,Nat.zero_le _,hc,hn,hm,fun i hi=>?_⟩
   simp only[Gh.row,if_true]
   rw[if_neg (by omega)]
  ·rw[St.set_other s _ hb]
   by_cases hlt:b<w.heap.size
   ·exact(hS.ok b).keep (heap_alloc_old w _ b hlt) hle (fun i=>by simp[Gh.row,hb])
   ·have:s b=.free:=by
     cases hc:s b with
     |free=>rfl
     |_=>exact absurd (hS.lt (b:=b) (by rw[hc];simp)) hlt
    rw[this];trivial
theorem R.of_row {G:Gh}{b:Nat}{c:List Value}{zs:List (List VV)}{n cap sz:Nat}(hlen:zs.length=n)(hle:n≤cap)(hz:∀x,x∈zs→x.length=sz)(h1:∀x,x∈zs→∀y,y∈x→y.one=true)
  (hK:∀i,i<n * sz→G.K b i=c[i]?) (hcap:G.cap b=some (cap,sz)) (hc:n * sz≤c.length)
  (hR:∀(i j:Nat) (x:List VV) (y:VV),zs[i]?=some x→x[j]?=some y→∃v,c[i * sz+j]?=some v∧R G v y) :
  R G (.slice (some ⟨b,0,none⟩) n cap) (.lst zs (.at_ b)):=by
 refine .lst b 0 n cap sz zs (.at_ b) (fun i j=>(c[i * sz+j]?).getD default) hlen hle hz h1 (fun i j hi hj=>?_) (fun i j x y hx hy=>?_) (.inr (.inr ⟨rfl,rfl,hcap⟩))
 ·have hlt:i * sz+j<n * sz:=by
   have:=Nat.mul_le_mul_right sz (show i+1≤n by omega)
   rw[Nat.succ_mul]at this
   omega
  rw[Nat.zero_add,hK _ hlt]
  simp[show i * sz+j<c.length by omega]
 ·obtain⟨v,hv,hr⟩:=hR i j x y hx hy
  simp only[hv,Option.getD_some]
  exact hr
theorem append_get {xs ys:List (List VV)}{olds news:List Value}{n sz:Nat}{G:Gh}(hn:xs.length=n)(ho:olds.length=n * sz)
  (hx:∀(i j:Nat) (x:List VV) (y:VV),xs[i]?=some x→x[j]?=some y→∃v,olds[i * sz+j]?=some v∧R G v y)
  (hy:∀(i j:Nat) (x:List VV) (y:VV),ys[i]?=some x→x[j]?=some y→∃v,news[i * sz+j]?=some v∧R G v y) :
  ∀(i j:Nat) (x:List VV) (y:VV),(xs++ys)[i]?=some x→x[j]?=some y→∃v,(olds++news)[i * sz+j]?=some v∧R G v y:=by
 intro i j x y hi hj
 rcases Nat.lt_or_ge i n with h|h
 ·rw[List.getElem?_append_left (by omega)]at hi
  obtain⟨v,hv,hr⟩:=hx i j x y hi hj
  exact⟨v,by rw[List.getElem?_append_left (List.getElem?_eq_some_iff.1 hv).1];exact hv,hr⟩
 ·rw[List.getElem?_append_right (by omega),hn]at hi
  obtain⟨v,hv,hr⟩:=hy (i - n) j x y hi hj
  have e:i * sz+j=olds.length+((i - n) * sz+j):=by
   rw[ho,Nat.sub_mul]
   have:=Nat.mul_le_mul_right sz h
   omega
  exact⟨v,by rw[e,List.getElem?_append_right (by omega)];simpa using hv,hr⟩
theorem Sim.take_row (hS:Sim w0 G w s){e:TypeId}{olds news zs:List Value}{xys:List (List VV)}{n cap sz:Nat}(hlen:xys.length=n)(hsz:∀x,x∈xys→x.length=sz)(h1:∀x,x∈xys→∀y,y∈x→y.one=true)
  (hc:(olds++news++zs).length=cap * sz) (hn:n≤cap) (hm:cap≤maxLen)
  (hR:∀(i j:Nat) (x:List VV) (y:VV),xys[i]?=some x→x[j]?=some y→∃v,(olds++news)[i * sz+j]?=some v∧R G v y) :
  ∃G',G.le G'∧Sim w0 G' (w.drew.alloc (.cells (olds.toArray++news.toArray++zs.toArray) e)) (s.set w.heap.size (.vec e sz n)) ∧
   R G' (.slice (some ⟨w.heap.size,0,none⟩) n cap) (.lst xys (.at_ w.heap.size)):=by
 obtain⟨h2,h3⟩:=hS.drew.alloc_vec e (olds.toArray++news.toArray++zs.toArray) n cap sz (by simpa using hc) hn hm
 refine⟨_,h3,h2,R.of_row (c:=olds++news++zs) hlen hn hsz h1 (fun i hi=>?_) (by simp[Gh.row]) (by rw[hc];exact Nat.mul_le_mul_right _ hn) (fun i j x y hx hy=>?_)⟩
 ·simp only[Gh.row,World.size_drew,if_true]
  rw[if_pos hi]
  simp
 ·obtain⟨v,hv,hr⟩:=hR i j x y hx hy
  exact⟨v,by rw[List.getElem?_append_left (List.getElem?_eq_some_iff.1 hv).1];exact hv,hr.mono h3⟩
theorem lst_one {v:Value}{xs:List (List VV)}{o:Own}(h:R G v (.lst xs o)):∀x,x∈xs→∀y,y∈x→y.one=true:=by
 cases h with
 |emp=>intro x hx;simp at hx
 |lst b off len cap sz xs o f hl hc hz h1=>exact h1
theorem run_append_none {T T' e:TypeId}{ty:TypeId}{i:TypeInfo}(hd:P.underlying T=some (.slice e))(hi:P.info? e=some i)(base:Option Addr)(n cap:Nat)(hn:n≤cap){u:Value}(hs:Src P i.size T' u 0 [] w) :
  (Builtin.append_ #[T,T'] ty #[.slice base n cap,u]).run P w=.ok (.slice base n cap) w:=by
 rcases hs.kind with ⟨e',hk⟩|hk<;>cases base<;>simp[Builtin.append_,run_underlying hd,run_underlying hk,sizeOf,typeInfo,hi,hs.len,hn,hs.cells,storeCells]
theorem run_append_here {T T' ty e:TypeId}{i:TypeInfo}(hd:P.underlying T=some (.slice e))(hi:P.info? e=some i)(g sLen sCap:Nat)(cur:Array Value){fz:Nat×Nat}(hg:w.heap[g]?=some (.cells cur e fz))(hfz:fz.2≤sLen * i.size)
  {u:Value} {m:Nat} {news:List Value} (hs:Src P i.size T' u m news w) (hroom:sLen+m≤sCap) (hfit:sLen * i.size+news.length≤cur.size) :
  (Builtin.append_ #[T,T'] ty #[.slice (some ⟨g,0,none⟩) sLen sCap,u]).run P w =
   .ok (.slice (some ⟨g,0,none⟩) (sLen+m) sCap) (w.setRow g (cur.toList.take (sLen * i.size)++news++cur.toList.drop (sLen * i.size+news.length)).toArray):=by
 have hst:=run_storeCells_atF P g (sLen * i.size) e fz news 0 cur w hg (by simpa using hfz) (by simpa using hfit) hs.one
 simp only[Nat.add_zero]at hst
 rcases hs.kind with ⟨e',hk⟩|hk<;>simp[Builtin.append_,run_underlying hd,run_underlying hk,sizeOf,typeInfo,hi,hs.len,hroom,hs.cells,Addr.add_lit,hst]
theorem run_append_new {T T' ty e:TypeId}{i:TypeInfo}{z:Value}(hd:P.underlying T=some (.slice e))(hi:P.info? e=some i)(hz:i.zero=some z)(base:Option Addr)(sLen sCap:Nat)(olds:List Value)
  (hold:(Builtin.firstCells i.size sLen (.slice base sLen sCap)).run P w.drew=.ok olds.toArray w.drew) {u:Value} {n:Nat} {news:List Value} (hs:Src P i.size T' u n news w)
  (hg:sCap<sLen+n) (h63:((sLen+n:Nat):Int)≤9223372036854775807) (hfit:Builtin.nextslicecap (sLen+n) sCap * i.bytes≤281474976710656) :
  (Builtin.append_ #[T,T'] ty #[.slice base sLen sCap,u]).run P w =
   .ok (.slice (some ⟨w.heap.size,0,none⟩) (sLen+n) (grownCap w (sLen+n) sCap e))
    (w.drew.alloc (.cells (olds.toArray++news.toArray++Builtin.zeroCells z.cells (grownCap w (sLen+n) sCap e - (sLen+n))) e)):=by
 have h:=run_append_grow_src (P:=P) w T T' ty e i z hd hi hz base sLen sCap olds hold u n news hs hg h63 hfit
 rw[h]
 congr 3
 simp
def VSrc (P:Program)(G:Gh)(w:World)(T':TypeId)(u:Value)(ys:List (List VV))(sz:Nat):Prop:=
 ∃news,Src P sz T' u ys.length news w∧(∀x,x∈ys→∀y,y∈x→y.one=true) ∧
  ∀(i j:Nat) (x:List VV) (y:VV),ys[i]?=some x→x[j]?=some y→∃v,news[i * sz+j]?=some v∧R G v y
theorem VSrc.of_lst {T' e':TypeId}(hk:P.underlying T'=some (.slice e')){u:Value}{ys:List (List VV)}{o:Own}{sz:Nat}(hS:Sim w0 G w s)(h:R G u (.lst ys o))(hpos:0<sz)(hys:∀y,y∈ys→y.length=sz):VSrc P G w T' u ys sz:=by
 by_cases h0:ys=[]
 ·subst h0
  obtain⟨a,c,rfl⟩:∃a c,u=.slice a 0 c:=by
   cases h with
   |emp a cap o ho=>exact⟨a,cap,rfl⟩
   |lst b off len cap sz xs o f hl=>simp at hl;subst hl;exact⟨_,_,rfl⟩
  refine⟨[],?_,by simp,by simp⟩
  cases a with
  |none=>exact Src.ofNil w hk c
  |some a=>exact Src.ofSlice w hk a 0 c [] (by simp) (by simp) (by simp)
 ·have hone:=lst_one h
  have hm0:0<ys.length:=List.length_pos_iff.2 h0
  cases h with
  |emp a cap o ho=>exact absurd rfl h0
  |lst bu offu lenu capu szu ys' ou fu hlu hcu hzu h1u hKu hRu hou=>
   obtain⟨_,news,hnl,hnc,hn1,_,hnr⟩:=R.row hS (R.lst bu offu lenu capu szu ys _ fu hlu hcu hzu h1u hKu hRu hou) hpos hys (by omega)
   rw[← hlu]at hnl
   exact⟨news,by rw[← hlu];exact Src.ofSlice w hk ⟨bu,offu,none⟩ ys.length capu news hnl hnc hn1,hone,hnr⟩
theorem VSrc.of_str {T':TypeId}(hk:P.underlying T'=some .string){u:Value}{l:List UInt8}(h:R G u (.str l)):VSrc P G w T' u (bytesV l) 1:=by
 cases h with
 |str a=>
  refine⟨byteCells ⟨a⟩,?_,?_,?_⟩
  ·have:=Src.ofString (P:=P) w hk ⟨a⟩
   simpa [bytesV,ByteArray.size]using this
  ·intro x hx y hy
   simp only[bytesV,List.mem_map]at hx
   obtain⟨c,_,rfl⟩:=hx
   simp only[List.mem_singleton]at hy
   subst hy
   rfl
  ·intro i j x y hx hy
   simp only[bytesV,List.getElem?_map,Option.map_eq_some_iff]at hx
   obtain⟨c,hc,rfl⟩:=hx
   obtain⟨rfl,rfl⟩:j=0∧y=.int .u8 (c.toNat:Int):=by
    cases j with
    |zero=>simpa using hy.symm
    |succ j=>simp at hy
   exact⟨.int .u8 (c.toNat:Int),by simp only[byteCells,Nat.mul_one,Nat.add_zero,List.getElem?_map,hc];rfl,.int _ _⟩
theorem VSrc.of_str0 {T':TypeId}{sz:Nat}(hu:P.underlying T'=some .string){u:Value}(h:R G u (.str [])):VSrc P G w T' u (bytesV []) sz:=by
 generalize hl:([]:List UInt8)=l at h
 cases h with
 |str a=>
  have e1:a=#[]:=by simpa using hl.symm
  subst e1
  refine⟨[],⟨.inr hu,fun _=>rfl,by simp[Builtin.firstCells,bytesV],by simp[Builtin.firstCells,bytesV],by simp[bytesV],by simp⟩,by simp[bytesV],by simp[bytesV]⟩
theorem run_vappend {T T' e ty:TypeId}{v u:Value}{xs ys:List (List VV)}{o:Own}{k:VV→St→Prop}(hS:Sim w0 G w s)(hv:R G v (.lst xs o))
  (hu:0<(qi P e).sz→(∀y,y∈ys→y.length=(qi P e).sz)→VSrc P G w T' u ys (qi P e).sz)
  (hk:(qi P T).k=.slice e) (h:vappend k e (qi P e) xs ys o s) :
  ∃v' w' G' s' x',(Builtin.append_ #[T,T'] ty #[v,u]).run P w=.ok v' w'∧G.le G'∧Sim w0 G' w' s'∧R G' v' x'∧k x' s':=by
 obtain⟨hby,hmx,hys,hz,h⟩:=h
 have hd:=kind_slice hk
 obtain⟨d,i,z,_,hi,_,hs,hbt,hzz,hzs,hpos,_⟩:=qi_zero (P:=P) e hz
 rw[hs]at hys hu
 rw[hbt]at hby
 obtain⟨news,hsrc,hone,hnr⟩:=hu hpos hys
 have hnl:=hsrc.newsLen
 have hn1:=hsrc.one
 have hdrew:∀{b:Addr} {n c:Nat} {olds:List Value},olds.length=n * i.size→(∀(j:Nat) (v:Value),olds[j]?=some v→w.cell? (b.add j)=some v) →
   (Builtin.firstCells i.size n (.slice (some b) n c)).run P w.drew=.ok olds.toArray w.drew:=fun {b} {n} {c} {olds} h1 h2=>run_firstCells_some (P:=P) w.drew i.size n b n c olds h1 (by simpa using h2)
 have honex:=lst_one hv
 cases o with
 |no=>exact h.elim
 |full=>
  obtain⟨hxs,h0,h1⟩:=h
  rw[hs]at hxs
  by_cases hy:ys=[]
  ·subst hy
   have hnn:news=[]:=List.eq_nil_of_length_eq_zero (by simpa using hnl)
   subst hnn
   obtain⟨base,n,cap,hn,rfl⟩:∃base n cap,n≤cap∧v=.slice base n cap:=by
    cases hv with
    |emp a cap o ho=>exact⟨a,0,cap,Nat.zero_le _,rfl⟩
    |lst b off len cap sz xs o f hl hc=>exact⟨_,_,_,hc,rfl⟩
   exact⟨_,w,G,s,_,run_append_none hd hi base n cap hn hsrc,Gh.le.refl G,hS,hv,h0 rfl⟩
  ·have hk1:=h1 hy w.heap.size hS.fresh
   rw[hs]at hk1
   have hm0:0<ys.length:=List.length_pos_iff.2 hy
   ·obtain⟨lenu,hlu⟩:∃lenu,ys.length=lenu:=⟨_,rfl⟩
    rw[hlu]at hnl hsrc
    cases hv with
    |emp a cap o ho=>
     rcases ho with ho|⟨_,rfl,rfl⟩
     ·cases ho
     ·simp only[List.length_nil,Nat.zero_add,List.nil_append]at hk1 hby hmx
      have hrun:=run_append_new (P:=P) (w:=w) (ty:=ty) hd hi hzz none 0 0 [] (run_firstCells_none w.drew i.size 0 0 0) hsrc (by omega) (by omega) (by rw[Nat.zero_add,nextslicecap_zero (by omega),← hlu];omega)
      simp only[Nat.zero_add]at hrun
      have hcap:=grownCap_ge w lenu 0 e
      obtain⟨G',h2,h3,h4⟩:=hS.take_row (e:=e) (olds:=[]) (news:=news) (zs:=(Builtin.zeroCells z.cells (grownCap w lenu 0 e - lenu)).toList) (xys:=ys) (n:=lenu) (cap:=grownCap w lenu 0 e) (sz:=i.size) hlu hys hone
       (by simp only[List.nil_append,List.length_append,Array.length_toList,size_zeroCells,hzs,hnl,← Nat.add_mul];congr 1;omega) hcap (grownCap_le_maxLen w lenu 0 e (by simp only[maxLen];omega)) (by simpa using hnr)
      rw[hlu]at hk1
      exact⟨_,_,G',_,_,hrun,h2,by simpa using h3,h4,hk1⟩
    |lst b off len cap sz xs' o f hl hc hz' h1' hK hR ho=>
     rcases ho with ho|⟨_,rfl,hpl⟩|⟨ho,_⟩
     ·cases ho
     ·have hole:∃olds:List Value,olds.length=cap * i.size∧(∀(j:Nat) (u:Value),olds[j]?=some u→w.cell? ((⟨b,off,none⟩:Addr).add j)=some u) ∧
        ∀(i' j:Nat) (x:List VV) (y:VV),xs[i']?=some x→x[j]?=some y→∃v,olds[i' * i.size+j]?=some v∧R G v y:=by
       by_cases hx0:cap=0
       ·have hxe:xs=[]:=List.eq_nil_of_length_eq_zero (by omega)
        subst hxe
        exact⟨[],by simp[hx0],by simp,by simp⟩
       ·obtain⟨_,olds,hol,hoc,_,_,hor⟩:=R.row hS (R.lst b off _ _ sz xs .full f hl hc hz' h1' hK hR (.inr (.inl ⟨rfl,rfl,hpl⟩))) hpos hxs (by omega)
        exact⟨olds,hol,hoc,hor⟩
      obtain⟨olds,hol,hoc,hor⟩:=hole
      have hrun:=run_append_new (P:=P) (w:=w) (ty:=ty) hd hi hzz (some ⟨b,off,none⟩) cap cap olds (hdrew hol hoc) hsrc (by omega) (by omega) (growslice_fits (by omega) (by rw[← hlu,← hl];exact hby))
      have hge:=grownCap_ge w (cap+lenu) cap e
      obtain⟨G',h2,h3,h4⟩:=hS.take_row (e:=e) (olds:=olds) (news:=news) (zs:=(Builtin.zeroCells z.cells (grownCap w (cap+lenu) cap e - (cap+lenu))).toList) (xys:=xs++ys) (n:=cap+lenu) (cap:=grownCap w (cap+lenu) cap e) (sz:=i.size)
       (by simp;omega) (fun x hx=>(List.mem_append.1 hx).elim (hxs x) (hys x)) (fun x hx=>(List.mem_append.1 hx).elim (honex x) (hone x))
       (by simp only[List.length_append,Array.length_toList,size_zeroCells,hzs,hol,hnl,← Nat.add_mul];congr 1;omega) hge (grownCap_le_maxLen w _ cap e (by simp only[maxLen];omega))
       (append_get hl hol hor hnr)
      rw[hl,hlu]at hk1
      exact⟨_,_,G',_,_,hrun,h2,by simpa using h3,h4,hk1⟩
     ·cases ho
 |at_ b=>
  obtain⟨hb,h⟩:=h
  rw[hs]at hb h
  have ho:=hS.ok b
  rw[hb]at ho
  obtain⟨hB,c,cap,fz,hcap,hh,hfz,hcs,hnc,hcm,hKn⟩:=ho
  cases hv with
  |emp a cap o ho=>rcases ho with ho|⟨ho,_⟩<;>cases ho
  |lst b' off len cap' sz xs' o f hl hc hz' h1' hK hR ho=>
   rcases ho with ho|⟨ho,_⟩|⟨ho,rfl,hcap'⟩
   ·cases ho
   ·cases ho
   ·injection ho with ho
    subst ho
    rw[hcap]at hcap'
    injection hcap' with hcap'
    simp only[Prod.mk.injEq]at hcap'
    obtain⟨rfl,rfl⟩:=hcap'
    have hfree:∀b',b'=b∨s b'=.free→(s.set b .free).set b' (.vec e i.size (xs.length+ys.length))=(s.set b .free).set b' (.vec e i.size (xs.length+ys.length)):=fun _ _=>rfl
    by_cases hy:ys=[]
    ·subst hy
     have hnn:news=[]:=List.eq_nil_of_length_eq_zero (by simpa using hnl)
     subst hnn
     have hk1:=h b (.inl rfl)
     simp only[List.append_nil,List.length_nil,Nat.add_zero]at hk1
     rw[St.set_set,St.set_self _ _ _ hb]at hk1
     exact⟨_,w,G,s,_,run_append_none hd hi _ len cap (by omega) hsrc,Gh.le.refl G,hS,.lst b 0 len cap i.size xs (.at_ b) f hl hc hz' h1' hK hR (.inr (.inr ⟨rfl,rfl,hcap⟩)),hk1⟩
    ·have hm0:0<ys.length:=List.length_pos_iff.2 hy
     ·obtain⟨lenu,hlu⟩:∃lenu,ys.length=lenu:=⟨_,rfl⟩
      rw[hlu]at hnl hsrc
      have hole:∃olds:List Value,olds.length=len * i.size∧(∀(j:Nat) (u:Value),olds[j]?=some u→w.cell? ((⟨b,0,none⟩:Addr).add j)=some u)∧(∀(j:Nat) (u:Value),olds[j]?=some u→G.K b (0+j)=some u) ∧
        ∀(i' j:Nat) (x:List VV) (y:VV),xs[i']?=some x→x[j]?=some y→∃v,olds[i' * i.size+j]?=some v∧R G v y:=by
       by_cases hx0:len=0
       ·have hxe:xs=[]:=List.eq_nil_of_length_eq_zero (by omega)
        subst hxe
        exact⟨[],by simp[hx0],by simp,by simp,by simp⟩
       ·obtain⟨_,olds,hol,hoc,_,hok,hor⟩:=R.row hS (R.lst b 0 len cap i.size xs (.at_ b) f hl hc hz' h1' hK hR (.inr (.inr ⟨rfl,rfl,hcap⟩))) hpos hz' (by omega)
        exact⟨olds,hol,hoc,hok,hor⟩
      obtain⟨olds,hol,hoc,hok,hor⟩:=hole
      have hgr:=append_get hl hol hor hnr
      have hlen:(xs++ys).length=len+lenu:=by simp;omega
      have hall:∀x,x∈xs++ys→x.length=i.size:=fun x hx=>(List.mem_append.1 hx).elim (hz' x) (hys x)
      have hallone:∀x,x∈xs++ys→∀y,y∈x→y.one=true:=fun x hx=>(List.mem_append.1 hx).elim (h1' x) (hone x)
      by_cases hroom:len+lenu≤cap
      ·have hk1:=h b (.inl rfl)
       rw[St.set_set]at hk1
       have hmul:len * i.size+lenu * i.size≤cap * i.size:=by rw[← Nat.add_mul];exact Nat.mul_le_mul_right _ hroom
       have hfit:len * i.size+news.length≤c.size:=by rw[hnl,hcs];exact hmul
       have hrun:=run_append_here (P:=P) (w:=w) (ty:=ty) hd hi b len cap c hh (by rw[← hl];exact hfz) hsrc hroom hfit
       have hadd:(len+lenu) * i.size=len * i.size+lenu * i.size:=Nat.add_mul _ _ _
       have hcells:∀j,(c.toList.take (len * i.size)++news++c.toList.drop (len * i.size+news.length))[j]?=if j<len * i.size then c[j]? else if j<(len+lenu) * i.size then news[j - len * i.size]? else c[j]?:=by
        intro j
        have h1:(c.toList.take (len * i.size)).length=len * i.size:=by rw[List.length_take,Array.length_toList];omega
        by_cases hj:j<len * i.size
        ·rw[if_pos hj,List.getElem?_append_left (by rw[List.length_append,h1];omega),List.getElem?_append_left (by omega),List.getElem?_take,if_pos hj];simp
        ·rw[if_neg hj]
         by_cases hj2:j<(len+lenu) * i.size
         ·rw[if_pos hj2,List.getElem?_append_left (by rw[List.length_append,h1,hnl];omega),List.getElem?_append_right (by omega),h1]
         ·rw[if_neg hj2,List.getElem?_append_right (by rw[List.length_append,h1,hnl];omega),List.length_append,h1,List.getElem?_drop]
          simp only[hnl,Array.getElem?_toList]
          congr 1;omega
       generalize hrow:c.toList.take (len * i.size)++news++c.toList.drop (len * i.size+news.length)=row at hrun hcells
       have hrowlen:row.length=cap * i.size:=by
        rw[← hrow]
        simp only[List.length_append,List.length_take,List.length_drop,Array.length_toList]
        omega
       have hold:∀j v,G.K b j=some v→row[j]?=some v∧j<len * i.size:=by
        intro j v hj
        have hlt:j<len * i.size:=by
         rcases Nat.lt_or_ge j (len * i.size)with h'|h'
         ·exact h'
         ·rw[hKn j (by rw[hl];exact h')]at hj;cases hj
        have:=hS.K b j v hj
        rw[cell_of_row w b j c e fz hh]at this
        exact⟨by rw[hcells,if_pos hlt];exact this,hlt⟩
       let G':Gh:=⟨fun x j=>if x=b then(if j<(len+lenu) * i.size then row[j]? else none)else G.K x j,G.cap⟩
       have hG':G.le G':=⟨fun x j v hv=>by
        by_cases hx:x=b
        ·subst hx
         obtain⟨h2,h3⟩:=hold j v hv
         simp only[G',if_true]
         rw[if_pos (by omega),h2]
        ·simp[G',hx,hv],fun _ _ h=>h⟩
       refine⟨_,_,G',_,_,hrun,hG',⟨hS.below.trans ⟨rfl,rfl,rfl,by simp,fun k hk'=>setRow_other w b k _ (by omega)⟩,fun x j v hv=>?_,fun x q hq=>by simpa using hS.cap x q hq,fun x=>?_,hS.gl,hS.rows.keep' hG' (by simp) (fun g _ hg=>⟨?_,setRow_other w b g _ ?_,fun j=>?_⟩) (fun x T xs rs hx=>?_)⟩,?_,hk1⟩
       rotate_left 2
       ·rw[St.set_other _ _ (by rintro rfl;rw[hb]at hg;cases hg)];exact hg
       ·rintro rfl;rw[hb]at hg;cases hg
       ·have hgb:¬ g=b:=by rintro rfl;rw[hb]at hg;cases hg
        simp[G',hgb]
       ·have hxb:x≠b:=by rintro rfl;rw[St.set_same]at hx;cases hx
        rw[St.set_other _ _ hxb]at hx
        exact⟨hx,setRow_other w b x _ hxb⟩
       rotate_left 1
       ·by_cases hx:x=b
        ·subst hx
         simp only[G',if_true]at hv
         rw[cell_of_row _ x j _ e fz (setRow_heap w x c _ e _ hh)]
         split at hv
         ·simpa using hv
         ·cases hv
        ·simp only[G',hx,if_false]at hv
         exact(World.cell?_of_block (w:=w) (setRow_other w b x _ hx)).trans (hS.K x j v hv)
       ·by_cases hx:x=b
        ·subst hx
         rw[St.set_same]
         refine⟨hB,row.toArray,cap,fz,hcap,setRow_heap w x c _ e _ hh,Nat.le_trans hfz (Nat.mul_le_mul_right _ (by omega)),by simpa using hrowlen,by omega,hcm,fun j hj=>?_⟩
         simp only[G',if_true]
         rw[if_neg (by rw[← hlen,List.length_append];omega)]
        ·rw[St.set_other _ _ hx]
         exact(hS.ok x).keep (setRow_other w b x _ hx) hG' (fun j=>by simp[G',hx])
       ·refine R.of_row (c:=row) hlen hroom hall hallone (fun j hj=>by simp only[G',if_true];rw[if_pos hj]) hcap (by rw[hrowlen];exact Nat.mul_le_mul_right _ hroom) (fun a b x y hx hy=>?_)
        obtain⟨v,hv,hr⟩:=hgr a b x y hx hy
        refine⟨v,?_,hr.mono hG'⟩
        rw[hcells]
        rcases Nat.lt_or_ge (a * i.size+b) (len * i.size)with h'|h'
        ·rw[if_pos h']
         rw[List.getElem?_append_left (by omega)]at hv
         have:=hoc _ _ hv
         rw[add_none,Nat.zero_add,cell_of_row w _ _ c e fz hh]at this
         exact this
        ·rw[if_neg (by omega)]
         rw[List.getElem?_append_right (by omega),hol]at hv
         have hlt:=(List.getElem?_eq_some_iff.1 hv).1
         rw[if_pos (by omega)]
         exact hv
      ·have hk1:=h w.heap.size (.inr hS.fresh)
       have hrun:=run_append_new (P:=P) (w:=w) (ty:=ty) hd hi hzz (some ⟨b,0,none⟩) len cap olds (hdrew hol hoc) hsrc (by omega) (by omega) (growslice_fits (by omega) (by rw[← hlu,← hl];exact hby))
       have hge:=grownCap_ge w (len+lenu) cap e
       obtain⟨G',h2,h3,h4⟩:=(hS.forget (Fg.set_free s b)).take_row (e:=e) (olds:=olds) (news:=news) (zs:=(Builtin.zeroCells z.cells (grownCap w (len+lenu) cap e - (len+lenu))).toList) (xys:=xs++ys) (n:=len+lenu) (cap:=grownCap w (len+lenu) cap e) (sz:=i.size)
        hlen hall hallone
        (by simp only[List.length_append,Array.length_toList,size_zeroCells,hzs,hol,hnl,← Nat.add_mul];congr 1;omega) hge (grownCap_le_maxLen w _ cap e (by simp only[maxLen];omega)) hgr
       rw[hl,hlu]at hk1
       exact⟨_,_,G',_,_,hrun,h2,by simpa using h3,h4,hk1⟩
theorem flat_len {sz:Nat}:∀{ys:List (List VV)},(∀y,y∈ys→y.length=sz)→ys.flatten.length=ys.length * sz
 |[],_=>by simp
 |y::ys,h=>by
  rw[List.flatten_cons,List.length_append,flat_len fun z hz=>h z (by simp[hz]),h y (by simp),List.length_cons,Nat.succ_mul];omega
theorem flat_get {sz:Nat}:∀{ys:List (List VV)},(∀y,y∈ys→y.length=sz)→∀{k:Nat} {x:VV},ys.flatten[k]?=some x→∃i j z,ys[i]?=some z∧z[j]?=some x∧k=i * sz+j
 |[],_,k,x,h=>by simp at h
 |y::ys,hs,k,x,h=>by
  have hy:=hs y (by simp)
  rw[List.flatten_cons]at h
  by_cases hk:k<y.length
  ·rw[List.getElem?_append_left hk]at h
   exact⟨0,k,y,rfl,h,by omega⟩
  ·rw[List.getElem?_append_right (by omega)]at h
   obtain⟨i,j,z,h1,h2,h3⟩:=flat_get (fun z hz=>hs z (by simp[hz])) h
   exact⟨i+1,j,z,by simpa using h1,h2,by rw[Nat.succ_mul];omega⟩
theorem rowM_get {G:Gh}{xs:List VV}{ys:List (List VV)}{olds news:List Value}{sz:Nat}(ho:olds.length=xs.length)(hys:∀y,y∈ys→y.length=sz)(hone:∀x,x∈ys→∀y,y∈x→y.one=true)
  (hx:∀(i:Nat) (x:VV),xs[i]?=some x→x.one=true∧∃v,olds[i]?=some v∧R G v x)
  (hy:∀(i j:Nat) (x:List VV) (y:VV),ys[i]?=some x→x[j]?=some y→∃v,news[i * sz+j]?=some v∧R G v y) :
  ∀(i:Nat) (x:VV),(xs++ys.flatten)[i]?=some x→x.one=true∧∃v,(olds++news)[i]?=some v∧R G v x:=by
 intro i x hi
 by_cases h:i<xs.length
 ·rw[List.getElem?_append_left h]at hi
  obtain⟨h1,v,hv,hr⟩:=hx i x hi
  exact⟨h1,v,by rw[List.getElem?_append_left (List.getElem?_eq_some_iff.1 hv).1];exact hv,hr⟩
 ·rw[List.getElem?_append_right (by omega)]at hi
  obtain⟨a,b,z,h1,h2,h3⟩:=flat_get hys hi
  obtain⟨v,hv,hr⟩:=hy a b z x h1 h2
  refine⟨hone z (List.mem_iff_getElem?.2 ⟨a,h1⟩) x (List.mem_iff_getElem?.2 ⟨b,h2⟩),v,?_,hr⟩
  rw[List.getElem?_append_right (by omega),ho,h3]
  exact hv
theorem run_vappendM {T T' e ty:TypeId}{v u:Value}{b n:Nat}{ys:List (List VV)}{k:VV→St→Prop}(hS:Sim w0 G w s)(hv:R G v (.mrw b n))
  (hu:0<(qi P e).sz→(∀y,y∈ys→y.length=(qi P e).sz)→VSrc P G w T' u ys (qi P e).sz)
  (hk:(qi P T).k=.slice e) (h:vappendM k e (qi P e) b n ys s) :
  ∃v' w' G' s' x',(Builtin.append_ #[T,T'] ty #[v,u]).run P w=.ok v' w'∧G.le G'∧Sim w0 G' w' s'∧R G' v' x'∧k x' s':=by
 obtain⟨xs,hb,hxl,hby,hmx,hys,hz,h⟩:=h
 have hd:=kind_slice hk
 obtain⟨d,i,z,_,hi,_,hs,hbt,hzz,hzs,hpos,_⟩:=qi_zero (P:=P) e hz
 rw[hs]at hys hu hxl
 rw[hbt]at hby
 rw[hs]at hb h
 obtain⟨news,hsrc,hone,hnr⟩:=hu hpos hys
 have hnl:=hsrc.newsLen
 have hn1:=hsrc.one
 have hfl:=flat_len hys
 cases hv with
 |mrw b' n' cap sz' hq hn=>
  have hok:=hS.ok b
  rw[hb]at hok
  obtain⟨hB,hKn,c,cap',hc,hq',hcs,hcl,hcm,hx⟩:=hok
  rw[hq]at hq'
  injection hq' with hq'
  injection hq' with hq1 hq2
  subst hq1
  subst hq2
  have hnc:n * i.size≤c.size:=by rw[hcs];exact Nat.mul_le_mul_right _ hn
  by_cases hroom:n+ys.length≤cap
  ·have hfit:n * i.size+news.length≤c.size:=by rw[hnl,hcs,← Nat.add_mul];exact Nat.mul_le_mul_right _ hroom
   have hrun:=run_append_here (P:=P) (w:=w) (ty:=ty) hd hi b n cap c hc (by simp) hsrc hroom hfit
   have hset:=hS.set_row hb (w.setRow b (c.toList.take (n * i.size)++news++c.toList.drop (n * i.size+news.length)).toArray) c (c.toList.take (n * i.size)++news++c.toList.drop (n * i.size+news.length)).toArray hc
    (ys:=xs++ys.flatten) ⟨rfl,rfl,rfl,by simp,fun k hk=>setRow_other w b k _ (by omega)⟩ (by simp) (setRow_heap w b c _ e _ hc) (fun k hk=>setRow_other w b k _ hk)
    (by simp only[List.size_toArray,List.length_append,List.length_take,List.length_drop,Array.length_toList];omega)
    (by rw[List.length_append,hxl,hfl,hcs,← Nat.add_mul];exact Nat.mul_le_mul_right _ hroom)
    (fun j y hy=>by
     obtain⟨h1,v,hv,hr⟩:=rowM_get (G:=G) (olds:=c.toList.take (n * i.size)) (news:=news) (sz:=i.size) (by rw[List.length_take,Array.length_toList,hxl];omega) hys hone
      (fun a x ha=>by
       obtain⟨h1,v,hv,hr⟩:=hx a x ha
       have hal:=(List.getElem?_eq_some_iff.1 ha).1
       exact⟨h1,v,by rw[List.getElem?_take,if_pos (by omega)];simpa using hv,hr⟩) hnr j y hy
     refine⟨h1,v,?_,hr⟩
     rw[List.getElem?_toArray,List.getElem?_append_left (List.getElem?_eq_some_iff.1 hv).1]
     exact hv)
   refine⟨_,_,G,_,_,hrun,Gh.le.refl G,?_,R.mrw b (n+ys.length) cap i.size hq hroom,h b (.inl rfl)⟩
   rw[St.set_set]
   exact hset
  ·have holds:∀(j:Nat) (v:Value),(c.toList.take (n * i.size))[j]?=some v→w.cell? ((⟨b,0,none⟩:Addr).add j)=some v:=fun j v hj=>by
    rw[List.getElem?_take]at hj
    split at hj
    ·rw[add_none,Nat.zero_add,cell_of_row w b j c e (0,0) hc];simpa using hj
    ·cases hj
   have hol:(c.toList.take (n * i.size)).length=n * i.size:=by rw[List.length_take,Array.length_toList];omega
   have hrun:=run_append_new (P:=P) (w:=w) (ty:=ty) hd hi hzz (some ⟨b,0,none⟩) n cap (c.toList.take (n * i.size))
    (run_firstCells_some (P:=P) w.drew i.size n ⟨b,0,none⟩ n cap (c.toList.take (n * i.size)) hol (by simpa using holds)) hsrc (by omega) (by omega) (growslice_fits (by omega) hby)
   have hge:n+ys.length≤grownCap w (n+ys.length) cap e:=by
    have:=grownCap_ge w (n+ys.length) cap e
    omega
   obtain⟨G',hG,hq',hS'⟩:=hS.drew.alloc_row e ((c.toList.take (n * i.size)).toArray++news.toArray++Builtin.zeroCells z.cells (grownCap w (n+ys.length) cap e - (n+ys.length))) (xs++ys.flatten) (grownCap w (n+ys.length) cap e) i.size
    (by
     simp only[Array.size_append,List.size_toArray,hol,hnl,size_zeroCells,hzs,← Nat.add_mul]
     congr 1;omega)
    (by rw[List.length_append,hxl,hfl,← Nat.add_mul];exact Nat.mul_le_mul_right _ hge)
    (grownCap_le_maxLen w _ cap e (by simp only[maxLen];omega))
    (fun j y hy=>by
     obtain⟨h1,v,hv,hr⟩:=rowM_get (G:=G) (olds:=c.toList.take (n * i.size)) (news:=news) (sz:=i.size) (by rw[hol,hxl]) hys hone
      (fun a x ha=>by
       obtain⟨h1,v,hv,hr⟩:=hx a x ha
       have hal:=(List.getElem?_eq_some_iff.1 ha).1
       exact⟨h1,v,by rw[List.getElem?_take,if_pos (by omega)];simpa using hv,hr⟩) hnr j y hy
     refine⟨h1,v,?_,hr⟩
     rw[← Array.getElem?_toList]
     simp only[Array.toList_append]
     rw[List.getElem?_append_left (List.getElem?_eq_some_iff.1 hv).1]
     exact hv)
   refine⟨_,_,G',_,_,hrun,hG,hS'.forget ?_,R.mrw w.heap.size (n+ys.length) _ i.size (by simpa using hq') hge,h w.heap.size (.inr hS.fresh)⟩
   intro x
   by_cases h1:x=w.heap.size
   ·exact .inr (by simp[St.set,h1])
   ·by_cases h2:x=b
    ·exact .inl (by simp[St.set,h1,h2];intro e;exact absurd (e ▸ h2 ▸ rfl:x=w.heap.size) h1)
    ·exact .inr (by simp[St.set,h1,h2])
theorem run_vappend0 {T T' e ty:TypeId}{v u:Value}{ys:List (List VV)}{k:VV→St→Prop}(hS:Sim w0 G w s)(hv:R G v (.raw (.slice none 0 0)))
  (hu:0<(qi P e).sz→(∀y,y∈ys→y.length=(qi P e).sz)→VSrc P G w T' u ys (qi P e).sz)
  (hk:(qi P T).k=.slice e) (h:vappend0 k e (qi P e) ys s) :
  ∃v' w' G' s' x',(Builtin.append_ #[T,T'] ty #[v,u]).run P w=.ok v' w'∧G.le G'∧Sim w0 G' w' s'∧R G' v' x'∧k x' s':=by
 obtain⟨hne,hby,hmx,hys,hz,h⟩:=h
 have hd:=kind_slice hk
 obtain⟨d,i,z,_,hi,_,hs,hbt,hzz,hzs,hpos,_⟩:=qi_zero (P:=P) e hz
 rw[hs]at hys hu
 rw[hbt]at hby
 rw[hs]at h
 obtain⟨news,hsrc,hone,hnr⟩:=hu hpos hys
 have hnl:=hsrc.newsLen
 have hfl:=flat_len hys
 have hl0:0<ys.length:=List.length_pos_iff.2 hne
 cases hv
 have hrun:=run_append_new (P:=P) (w:=w) (ty:=ty) hd hi hzz none 0 0 [] (run_firstCells_none w.drew i.size 0 0 0) hsrc (by omega) (by omega) (by rw[Nat.zero_add,nextslicecap_zero (by omega)];omega)
 simp only[Nat.zero_add]at hrun
 have hge:ys.length≤grownCap w ys.length 0 e:=by
  have:=grownCap_ge w ys.length 0 e
  omega
 obtain⟨G',hG,hq',hS'⟩:=hS.drew.alloc_row e (([]:List Value).toArray++news.toArray++Builtin.zeroCells z.cells (grownCap w ys.length 0 e - ys.length)) ys.flatten (grownCap w ys.length 0 e) i.size
  (by
   simp only[Array.size_append,List.size_toArray,List.length_nil,Nat.zero_add,hnl,size_zeroCells,hzs,← Nat.add_mul]
   congr 1;omega)
  (by rw[hfl];exact Nat.mul_le_mul_right _ hge)
  (grownCap_le_maxLen w _ 0 e (by simp only[maxLen];omega))
  (fun j y hy=>by
   obtain⟨h1,v,hv,hr⟩:=rowM_get (G:=G) (xs:=[]) (olds:=[]) (news:=news) (sz:=i.size) rfl hys hone (fun a x ha=>by simp at ha) hnr j y (by simpa using hy)
   refine⟨h1,v,?_,hr⟩
   rw[← Array.getElem?_toList]
   simp only[Array.toList_append,List.nil_append]at hv ⊢
   rw[List.getElem?_append_left (by simpa using(List.getElem?_eq_some_iff.1 hv).1)]
   simpa using hv)
 exact⟨_,_,G',_,_,hrun,hG,hS',R.mrw w.heap.size ys.length _ i.size (by simpa using hq') hge,h w.heap.size hS.fresh⟩
end
end Go.Proofs.YtohnaepcgnbaiaaGreatDoor
set_option maxRecDepth 100000
namespace Go.Proofs.YtohnaepcgnbaiaaGreatDoor
theorem o_disable (w:World):(callFunc 209 #[]).run Tryz.prog w=.ok (.value (.tuple #[])) w:=run_call_mark0 Tryz.func209 (by kernel_rfl) (by kernel_rfl) (by kernel_rfl) .disable (by kernel_rfl) w
theorem o_enable (w:World):(callFunc 211 #[]).run Tryz.prog w=.ok (.value (.tuple #[])) w:=run_call_mark0 Tryz.func211 (by kernel_rfl) (by kernel_rfl) (by kernel_rfl) .enable (by kernel_rfl) w
theorem o_acquire (a:Addr)(w:World):(callFunc 212 #[.pointer (some a)]).run Tryz.prog w=.ok (.value (.tuple #[])) w:=run_call_marked Tryz.func212 (by kernel_rfl) (by kernel_rfl) (by kernel_rfl) .acquire (by kernel_rfl) a w
theorem o_relmerge (a:Addr)(w:World):(callFunc 214 #[.pointer (some a)]).run Tryz.prog w=.ok (.value (.tuple #[])) w:=run_call_marked Tryz.func214 (by kernel_rfl) (by kernel_rfl) (by kernel_rfl) .releaseMerge (by kernel_rfl) a w
set_option maxHeartbeats 1600000 in
theorem o_store (a:Addr)(x:Value)(u:FrameMode)(w:World)(hc:w.cell? a=some x)(hz:w.frozen? a=false) :
  CallsD Tryz.prog 202 #[.pointer (some a),.bool true] u w fun e u' w'=>u'=u∧(e=.returned (.tuple #[])∧w'=w.drew.setCell a (.int .u32 1)):=by
 have hc':w.drew.cell? a=some x:=by go_simp
 have hz':w.drew.frozen? a=false:=by go_simp
 have hst:=run_call_store (P:=Tryz.prog) Tryz.func207 (by kernel_rfl) (by kernel_rfl) (by kernel_rfl) (by kernel_rfl) (k:=.u32) (y:=1) hc' hz'
 go_enter_d Tryz.func202,Tryz.ntmps202
 go_wp2
 go_region_calls
 all_goals(go_end0;exact⟨rfl,rfl⟩)
theorem o_unlock1 (a:Addr)(w:World)(hc:w.cell? a=some (.int .i32 1))(hz:w.frozen? a=false) :
  Calls Tryz.prog 206 #[.pointer (some a)] w fun e w'=>e=.returned (.tuple #[])∧w'=w.setCell a (.int .i32 0):=by
 have hd:=o_disable
 have he:=o_enable
 have hr:=o_relmerge
 have hadd:=run_call_add (P:=Tryz.prog) Tryz.func215 (by kernel_rfl) (by kernel_rfl) (by kernel_rfl) .i32 (by kernel_rfl) (y:=-1) (s:=0) hc hz (by simp[go_sem];rfl)
 have hcv:=run_convert_to_unsafe (P:=Tryz.prog) (src:=269) (dst:=273) Tryz.underlying269 Tryz.underlying273 (by kernel_rfl) hc
 go_enter Tryz.func206,Tryz.ntmps206
 go_wp2
 go_end0
 go_wp2
 all_goals(go_end0;exact⟨rfl,rfl⟩)
theorem o_unlock (a:Addr)(u:FrameMode)(w:World)(hc:w.cell? a=some (.int .i32 1))(hz:w.frozen? a=false) :
  CallsD Tryz.prog 201 #[.pointer (some a)] u w fun e u' w'=>u'=u∧(e=.returned (.tuple #[])∧w'=w.setCell a (.int .i32 0)):=by
 go_enter_d Tryz.func201,Tryz.ntmps201
 go_wp2_with (go_at_call 206;refine(o_unlock1 a _ hc hz).mono ?_;rintro e w' ⟨rfl,rfl⟩)
 go_end0
 exact⟨rfl,rfl⟩
theorem o_lock1 (a:Addr)(w:World)(hc:w.cell? a=some (.int .i32 0))(hz:w.frozen? a=false) :
  Calls Tryz.prog 205 #[.pointer (some a)] w fun e w'=>e=.returned (.tuple #[])∧w'=w.setCell a (.int .i32 1):=by
 have hd:=o_disable
 have he:=o_enable
 have ha:=o_acquire
 have hcas:=run_call_cas_hit (P:=Tryz.prog) Tryz.func210 (by kernel_rfl) (by kernel_rfl) (by kernel_rfl) .i32 (by kernel_rfl) (y:=1) hc hz
 have hc':(w.setCell a (.int .i32 1)).cell? a=some (.int .i32 1):=World.cell?_setCell_same w a _ hc
 have hcv:=run_convert_to_unsafe (P:=Tryz.prog) (src:=269) (dst:=273) Tryz.underlying269 Tryz.underlying273 (by kernel_rfl) hc'
 go_enter Tryz.func205,Tryz.ntmps205
 go_wp2
 refine bodyPost_ret (results_none rfl _ _ _) rfl ?_
 go_wp2
 all_goals(go_end0;exact⟨rfl,rfl⟩)
theorem o_lock (a:Addr)(w:World)(hc:w.cell? a=some (.int .i32 0))(hz:w.frozen? a=false) :
  Calls Tryz.prog 200 #[.pointer (some a)] w fun e w'=>e=.returned (.tuple #[])∧w'=w.setCell a (.int .i32 1):=by
 go_enter Tryz.func200,Tryz.ntmps200
 go_wp2_with (go_at_call 205;refine(o_lock1 a _ hc hz).mono ?_;rintro e w' ⟨rfl,rfl⟩)
 go_end0
 exact⟨rfl,rfl⟩
theorem o_load (a:Addr)(n:Int)(w:World)(hc:w.cell? a=some (.int .u32 n)) :
  Calls Tryz.prog 189 #[.pointer (some a)] w fun e w'=>e=.returned (.bool (n != 0))∧w'=w:=by
 have hl:=run_call_load (P:=Tryz.prog) Tryz.func199 (by kernel_rfl) (by kernel_rfl) (by kernel_rfl) .u32 (by kernel_rfl) hc
 go_enter Tryz.func189,Tryz.ntmps189
 go_wp2
 go_ret
 exact⟨rfl,rfl⟩
set_option maxHeartbeats 1600000 in
theorem o_slow (b off:Nat)(us:Array Value)(w:World)
  (h0:w.cell? ⟨b,off,none⟩=some (.int .u32 0)) (h1:w.cell? ⟨b,off+1,none⟩=some (.int .i32 0)) (f1:w.frozen? ⟨b,off+1,none⟩=false) (Post:World→Prop)
  (hf:Calls Tryz.prog 174 us (w.setCell ⟨b,off+1,none⟩ (.int .i32 1)) fun e w'=>e=.returned (.tuple #[])∧Post w'∧w'.cell? ⟨b,off,none⟩=some (.int .u32 0)∧w'.frozen? ⟨b,off,none⟩=false∧w'.cell? ⟨b,off+1,none⟩=some (.int .i32 1)∧w'.frozen? ⟨b,off+1,none⟩=false) :
  Calls Tryz.prog 190 #[.pointer (some ⟨b,off,none⟩),.func (.func 174) #[] us] w fun e w'=>e=.returned (.tuple #[]) ∧
   ∃w1,Post w1∧w'=(w1.drew.setCell ⟨b,off,none⟩ (.int .u32 1)).setCell ⟨b,off+1,none⟩ (.int .i32 0):=by
 have h01:(w.setCell ⟨b,off+1,none⟩ (.int .i32 1)).cell? ⟨b,off,none⟩=some (.int .u32 0):=(World.cell?_setCell_other _ ⟨b,off+1,none⟩ ⟨b,off,none⟩ _ (by simp)).trans h0
 have hnot:∀(x:Bool) (w:World),(Op.unary .not (.bool x)).run Tryz.prog w=.ok (.bool (!x)) w:=fun _ _=>rfl
 go_enter_defers Tryz.func190,Tryz.ntmps190
 go_wp2_with (first|(go_at_call 200;refine(o_lock ⟨b,off+1,none⟩ _ h1 f1).mono ?_;rintro e w' ⟨rfl,rfl⟩)|(go_at_call 189;refine(o_load ⟨b,off,none⟩ 0 _ h01).mono ?_;rintro e w' ⟨rfl,rfl⟩)|(go_at_call 174;refine hf.mono ?_;rintro e w1 ⟨rfl,hP,c0,z0,c1,z1⟩))
 show Leaves _ _ _ _ _ _ _
 refine leaves_cons (f:=202) (args:=#[.pointer (some ⟨b,off,none⟩),.bool true]) (by simp) (by simp[go_sem]) ?_
 refine(o_store ⟨b,off,none⟩ (.int .u32 0) .returning _ c0 z0).mono ?_
 rintro e u' w'' ⟨rfl,rfl,rfl⟩
 refine leaves_cons (f:=201) (args:=#[.pointer (some ⟨b,off+1,none⟩)]) (by simp[settle]) (by simp[go_sem]) ?_
 refine(o_unlock ⟨b,off+1,none⟩ _ _ ?_ (by simp[z1])).mono ?_
 ·refine(World.cell?_setCell_other _ ⟨b,off,none⟩ ⟨b,off+1,none⟩ _ (by simp)).trans ?_
  rw[World.cell?_drew]
  exact c1
 rintro e u' w'' ⟨rfl,rfl,rfl⟩
 simp[Leaves,settle,results,Tryz.results190]
 exact⟨w1,hP,rfl⟩
end Go.Proofs.YtohnaepcgnbaiaaGreatDoor
