/- Walks of functions that the claim reaches, and plain facts of them. Conditions: those in the statements. -/
import Derived.Test.YtgdbgfjhenobdaaGreatDoorJmValj
import Derived.Deep.AppendSrc
import Derived.Lib.FrozenHead
import Derived.Lib.Strings
import Derived.MapKept
set_option linter.unusedSimpArgs false
set_option linter.unusedVariables false
namespace Go.Proofs.YtgdbgfjhenobdaaGreatDoor
open Go.RowKit
section
variable {P : Program} {N : Nat} {w0 w w' : World} {G G' : Gh} {s s' : St}
theorem qf_spec {T:TypeId}{j off sz:Nat}{ag:Bool}(h:qf P T j=some (off,sz,ag)) :
  ∃fs f d i,P.underlying T=some (.struct fs)∧fs[j]?=some f∧P.underlying f.type=some d∧P.info? f.type=some i∧i.size≠0∧f.offset=off∧i.size=sz∧(qkOf d).agg=ag:=by
 unfold qf at h
 split at h
 ·rename_i fs hu
  split at h
  ·rename_i f hf
   split at h
   ·rename_i d i hd hi
    split at h
    ·cases h
    ·rename_i hz
     simp only[Option.some.injEq,Prod.mk.injEq]at h
     exact⟨fs,f,d,i,hu,hf,hd,hi,hz,h.1,h.2.1,h.2.2⟩
   ·cases h
  ·cases h
 ·cases h
theorem run_fieldAt {T:TypeId}{j off sz:Nat}{ag:Bool}(h:qf P T j=some (off,sz,ag))(b o:Nat) :
  (Instr.fieldAt T (.pointer (some ⟨b,o,none⟩)) j).run P w=.ok (.pointer (some ⟨b,o+off,none⟩)) w:=by
 obtain⟨fs,f,d,i,hu,hf,hd,hi,hz,ho,hs,_⟩:=qf_spec h
 unfold Instr.fieldAt
 simp only[Sem.run_bind,run_underlying hu,Result.andThen_ok,hf,Instr.sureAddr,Sem.run_pure,fieldPlace,run_sizeOf hi,Sem.run_ite]
 rw[if_neg hz]
 simp[add_none,ho]
theorem R.eptr_drop {b o:Nat}{cs:List VV}(h:R G (.pointer (some ⟨b,o,none⟩)) (.eptr cs))(off:Nat):R G (.pointer (some ⟨b,o+off,none⟩)) (.eptr (cs.drop off)):=by
 cases h with
 |eptr b off' cs f h1 hK hR=>
  refine .eptr b (o+off) _ (fun j=>f (off+j)) (fun y hy=>h1 y (List.mem_of_mem_drop hy)) (fun j hj=>?_) (fun j y hy=>?_)
  ·rw[List.length_drop]at hj
   rw[Nat.add_assoc]
   exact hK _ (by omega)
  ·rw[List.getElem?_drop]at hy
   exact hR _ y hy
theorem run_field {T:TypeId}{j off sz:Nat}{ag:Bool}{cs:List VV}{v:Value}{x:VV}(h:qf P T j=some (off,sz,ag))(hv:R G v (.agg cs))(hx:partOf cs off sz ag=some x) :
  ∃u,(Instr.field T v j).run P w=.ok u w∧R G u x:=by
 obtain⟨fs,f,d,i,hu,hf,hd,hi,hz,ho,hs,hag⟩:=qf_spec h
 cases hv with
 |agg vs xs hsz h1 hR=>
  unfold partOf at hx
  split at hx
  ·rename_i hle
   unfold Instr.field
   simp only[Sem.run_bind,run_underlying hu,Result.andThen_ok,hf,asAgg,Sem.run_pure,part,run_isAgg hd,Sem.run_ite,run_sizeOf hi,hag,ho]
   cases ag with
   |true=>
    simp only[if_true,Option.some.injEq]at hx
    subst hx
    refine⟨_,by simp;rfl,.agg _ _ (by simp;omega) (fun y hy=>h1 y (List.mem_of_mem_drop (List.mem_of_mem_take hy))) (fun k v y hv hy=>?_)⟩
    rw[Array.getElem?_extract]at hv
    rw[List.getElem?_take]at hy
    split at hy
    ·rw[List.getElem?_drop]at hy
     split at hv
     ·exact hR _ v y hv hy
     ·cases hv
    ·cases hy
   |false=>
    simp only[Bool.false_eq_true,if_false]at hx ⊢
    split at hx
    ·have hlt:off<vs.size:=by have:=(List.getElem?_eq_some_iff.1 hx).1;omega
     refine⟨vs[off],by simp[hlt],hR off _ x (Array.getElem?_eq_getElem hlt) hx⟩
    ·cases hx
  ·cases hx
theorem kind_slice {T e:TypeId}(hk:(qi P T).k=.slice e):P.underlying T=some (.slice e):=by
 obtain⟨d,i,hd,hi,hkT,_⟩:=qi_spec (P:=P) T (.inr (.inl (by rw[hk];simp)))
 rw[hk]at hkT
 cases d<;>simp[qkOf]at hkT
 rw[hd,hkT]
theorem kind_str {T:TypeId}(hk:(qi P T).k=.str):P.underlying T=some .string:=by
 obtain⟨d,i,hd,hi,hkT,_⟩:=qi_spec (P:=P) T (.inr (.inl (by rw[hk];simp)))
 rw[hk]at hkT
 cases d<;>simp[qkOf]at hkT
 exact hd
theorem kind_arr {T e:TypeId}{m:Nat}(hk:(qi P T).k=.array m e):P.underlying T=some (.array m e):=by
 obtain⟨d,i,hd,hi,hkT,_⟩:=qi_spec (P:=P) T (.inr (.inl (by rw[hk];simp)))
 rw[hk]at hkT
 cases d<;>simp[qkOf]at hkT
 rw[hd,hkT.1,hkT.2]
theorem kind_bool {T:TypeId}(hk:(qi P T).k=.bool):P.underlying T=some .bool:=by
 obtain⟨d,i,hd,hi,hkT,_⟩:=qi_spec (P:=P) T (.inr (.inl (by rw[hk];simp)))
 rw[hk]at hkT
 cases d<;>simp[qkOf]at hkT
 exact hd
theorem kind_int {T:TypeId}{k:IntKind}(hk:(qi P T).k=.int k):P.underlying T=some (.int k):=by
 obtain⟨d,i,hd,hi,hkT,_⟩:=qi_spec (P:=P) T (.inr (.inl (by rw[hk];simp)))
 rw[hk]at hkT
 cases d<;>simp[qkOf]at hkT
 rw[hd,hkT]
theorem kind_map {T k e:TypeId}(hk:(qi P T).k=.map k e):P.underlying T=some (.map k e):=by
 obtain⟨d,i,hd,hi,hkT,_⟩:=qi_spec (P:=P) T (.inr (.inl (by rw[hk];simp)))
 rw[hk]at hkT
 cases d<;>simp[qkOf]at hkT
 rw[hd,hkT.1,hkT.2]
theorem R.elem {v:Value}{xs:List (List VV)}{o:Own}{n:Nat}{cs:List VV}(h:R G v (.lst xs o))(hx:xs[n]?=some cs) :
  ∃b off len cap sz,v=.slice (some ⟨b,off,none⟩) len cap∧n<len∧cs.length=sz∧R G (.pointer (some ⟨b,off+n * sz,none⟩)) (.eptr cs):=by
 cases h with
 |emp a cap o ho=>simp at hx
 |lst b off len cap sz xs o f hl hc hz h1 hK hR ho=>
  have hm:cs∈xs:=List.mem_iff_getElem?.2 ⟨n,hx⟩
  have hn:n<xs.length:=(List.getElem?_eq_some_iff.1 hx).1
  refine⟨b,off,len,cap,sz,rfl,by omega,hz cs hm,.eptr b _ cs (f n) (h1 cs hm) (fun j hj=>?_) (fun j y hy=>hR n j cs y hx hy)⟩
  rw[Nat.add_assoc]
  exact hK n j (by omega) (by have:=hz cs hm;omega)
theorem run_vidx {T:TypeId}{v u:Value}{x i y:VV}(hv:R G v x)(hu:R G u i)(h:vidx (qi P T) (qi P (elemT (qi P T))).sz x i=some y) :
  ∃p,(Instr.indexAt T v u).run P w=.ok p w∧R G p y:=by
 unfold vidx at h
 split at h
 ·rename_i e xs o k n hk
  split at h
  ·rename_i h0
   cases hx:xs[n.toNat]? with
   |none=>simp[hx]at h
   |some cs=>
    simp only[hx,Option.bind_some]at h
    split at h
    ·rename_i hsz
     simp only[Option.some.injEq]at h
     subst h
     cases hu
     obtain⟨b,off,len,cap,sz,rfl,hlt,hcs,hp⟩:=R.elem hv hx
     have hd:=kind_slice hk
     have he:elemT (qi P T)=e:=by simp[elemT,hk]
     rw[he]at hsz
     have hinfo:∃i,P.info? e=some i∧i.size=sz:=by
      obtain⟨d',i',_,hi',_,hs',_⟩:=qi_spec (P:=P) e (.inl (by omega))
      exact⟨i',hi',by omega⟩
     obtain⟨ie,hie,hies⟩:=hinfo
     refine⟨_,?_,hp⟩
     unfold Instr.indexAt
     simp only[asIntOf,Sem.run_bind,Sem.run_pure,Result.andThen_ok,run_underlying hd]
     rw[if_pos ⟨h0,by omega⟩]
     simp only[Sem.run_bind,run_sizeOf hie,Result.andThen_ok,Sem.run_pure,add_none,hies]
    ·cases h
  ·cases h
 ·rename_i e b m k n hk
  split at h
  ·rename_i hc
   obtain⟨h0,hlt,hsz⟩:=hc
   injection h with h
   subst h
   cases hu
   cases hv
   have hd:=kind_slice hk
   have he:elemT (qi P T)=e:=by simp[elemT,hk]
   rw[he]at hsz
   obtain⟨d',i',_,hi',_,hs',_⟩:=qi_spec (P:=P) e (.inl (by omega))
   refine⟨_,?_,.ptr b n.toNat⟩
   unfold Instr.indexAt
   simp only[asIntOf,Sem.run_bind,Sem.run_pure,Result.andThen_ok,run_underlying hd]
   rw[if_pos ⟨h0,by omega⟩]
   simp only[Sem.run_bind,run_sizeOf hi',Result.andThen_ok,Sem.run_pure,add_none]
   rw[← hs',hsz,Nat.mul_one,Nat.zero_add]
  ·cases h
 ·rename_i e b m k n hk
  split at h
  ·rename_i hc
   obtain⟨h0,hlt,hsz⟩:=hc
   injection h with h
   subst h
   cases hu
   cases hv
   have hd:=kind_slice hk
   have he:elemT (qi P T)=e:=by simp[elemT,hk]
   rw[he]at hsz ⊢
   obtain⟨d',i',_,hi',_,hs',_⟩:=qi_spec (P:=P) e (.inl (by omega))
   refine⟨_,?_,.ptr b _⟩
   unfold Instr.indexAt
   simp only[asIntOf,Sem.run_bind,Sem.run_pure,Result.andThen_ok,run_underlying hd]
   rw[if_pos ⟨h0,by omega⟩]
   simp only[Sem.run_bind,run_sizeOf hi',Result.andThen_ok,Sem.run_pure,add_none]
   rw[← hs',Nat.zero_add]
  ·cases h
 ·rename_i m e b off k n hk
  split at h
  ·rename_i hc
   obtain⟨h0,hlt,hsz⟩:=hc
   injection h with h
   subst h
   cases hu
   cases hv
   have hd:=kind_arr hk
   have he:elemT (qi P T)=e:=by simp[elemT,hk]
   rw[he]at hsz ⊢
   obtain⟨d',i',_,hi',_,hs',_⟩:=qi_spec (P:=P) e (.inl (by omega))
   refine⟨_,?_,.ptr b _⟩
   unfold Instr.indexAt
   simp only[asIntOf,Sem.run_bind,Sem.run_pure,Result.andThen_ok,run_underlying hd,Instr.sureAddr]
   rw[if_pos ⟨h0,by omega⟩]
   simp only[Sem.run_bind,run_sizeOf hi',Result.andThen_ok,Sem.run_pure,add_none]
   rw[← hs']
  ·cases h
 ·rename_i m e cs k n hk
  split at h
  ·rename_i hc
   obtain⟨h0,hlt,hsz⟩:=hc
   injection h with h
   subst h
   cases hu
   have hd:=kind_arr hk
   have he:elemT (qi P T)=e:=by simp[elemT,hk]
   rw[he]at hsz ⊢
   obtain⟨d',i',_,hi',_,hs',_⟩:=qi_spec (P:=P) e (.inl (by omega))
   have hp:∃b off,v=.pointer (some ⟨b,off,none⟩):=by cases hv with|eptr b off cs f h1 hK hR=>exact⟨b,off,rfl⟩
   obtain⟨b,off,rfl⟩:=hp
   refine⟨_,?_,hv.eptr_drop _⟩
   unfold Instr.indexAt
   simp only[asIntOf,Sem.run_bind,Sem.run_pure,Result.andThen_ok,run_underlying hd,Instr.sureAddr]
   rw[if_pos ⟨h0,by omega⟩]
   simp only[Sem.run_bind,run_sizeOf hi',Result.andThen_ok,Sem.run_pure,add_none]
   rw[← hs']
  ·cases h
 ·cases h
theorem run_vat {T:TypeId}{v u:Value}{x i y:VV}(hv:R G v x)(hu:R G u i)(h:vat (qi P T) (qi P (elemT (qi P T))) x i=some y) :
  ∃p,(Instr.index T v u).run P w=.ok p w∧R G p y:=by
 unfold vat at h
 split at h
 ·rename_i l k n hk
  split at h
  ·rename_i h0
   cases hx:l[n.toNat]? with
   |none=>simp[hx]at h
   |some c=>
    simp only[hx,Option.map_some,Option.some.injEq]at h
    subst h
    cases hu
    cases hv with
    |str a=>
     refine⟨.int .u8 c.toNat,?_,.int _ _⟩
     have hg:(⟨a⟩:ByteArray)[n.toNat]?=some c:=by
      have:=hx
      rw[Array.getElem?_toList]at this
      exact this
     unfold Instr.index
     simp only[asIntOf,Sem.run_bind,Sem.run_pure,Result.andThen_ok,run_underlying (kind_str hk),h0,if_true,hg]
  ·cases h
 ·rename_i m e xs k n hk
  split at h
  ·rename_i hc
   obtain⟨h0,hlt,hsz,hag⟩:=hc
   have he:elemT (qi P T)=e:=by simp[elemT,hk]
   rw[he]at hsz hag
   obtain⟨d',i',hd',hi',hk',hs',_⟩:=qi_spec (P:=P) e (.inl (by omega))
   cases hu
   cases hv with
   |agg vs _ hs h1 hR=>
    have hlt':n.toNat<vs.size:=by
     rw[hs]
     rcases Nat.lt_or_ge n.toNat xs.length with hx|hx
     ·exact hx
     ·rw[List.getElem?_eq_none hx]at h
      cases h
    have hg:vs[n.toNat]?=some vs[n.toNat]:=by simp[hlt']
    refine⟨vs[n.toNat],?_,hR _ _ _ hg h⟩
    unfold Instr.index
    simp only[asIntOf,Sem.run_bind,Sem.run_pure,Result.andThen_ok,run_underlying (kind_arr hk)]
    rw[if_pos ⟨h0,by omega⟩]
    have hna:(isAgg e).run P w=.ok false w:=by
     rw[hk']at hag
     unfold isAgg
     simp only[Sem.run_bind,run_underlying hd',Result.andThen_ok]
     cases d'<;>first|rfl|(simp[qkOf,QK.agg]at hag)
    have h1':i'.size=1:=by omega
    simp only[Sem.run_bind,run_sizeOf hi',Result.andThen_ok,part,hna,h1',Nat.mul_one,hg]
    rfl
  ·cases h
 ·cases h
def RO (G:Gh):Option Value→Option VV→Prop
 |none,none=>True
 |some v,some x=>R G v x
 |_,_=>False
theorem run_bound {y:VV}{v:Value}{dflt b:Nat}{c:BoundsCode}{top:Nat}(h:vbound (some y) dflt=some b)(hr:R G v y)(hb:b≤top) :
  (Instr.sliceBound v top c).run P w=.ok b w:=by
 cases y with
 |int k n=>
  cases hr
  simp only[vbound]at h
  split at h
  ·rename_i h0
   simp only[Option.some.injEq]at h
   simp only[Instr.sliceBound,asIntOf,Sem.run_bind,Sem.run_pure,Result.andThen_ok]
   rw[if_pos ⟨h0,by omega⟩]
   simp[h]
  ·cases h
 |_=>simp[vbound]at h
theorem run_bounds {isS:Bool}{len cap a b:Nat}{lo hi:Option VV}{ulo uhi:Option Value}(hlo:RO G ulo lo)(hhi:RO G uhi hi)
  (ha:vbound lo 0=some a) (hb:vbound hi len=some b) (hab:a≤b) (hbc:b≤cap) :
  (Instr.sliceBounds isS len cap ulo uhi none).run P w=.ok (a,b,cap) w:=by
 unfold Instr.sliceBounds
 cases hi with
 |none=>
  cases uhi with
  |some u=>exact hhi.elim
  |none=>
   simp only[vbound,Option.some.injEq]at hb
   subst hb
   cases lo with
   |none=>
    cases ulo with
    |some u=>exact hlo.elim
    |none=>
     simp only[vbound,Option.some.injEq]at ha
     simp[ha]
   |some y=>
    cases ulo with
    |none=>exact hlo.elim
    |some u=>simp[run_bound (P:=P) (w:=w) ha hlo hab]
 |some yh=>
  cases uhi with
  |none=>exact hhi.elim
  |some uh=>
   cases lo with
   |none=>
    cases ulo with
    |some u=>exact hlo.elim
    |none=>
     simp only[vbound,Option.some.injEq]at ha
     simp[run_bound (P:=P) (w:=w) hb hhi hbc,ha]
   |some y=>
    cases ulo with
    |none=>exact hlo.elim
    |some u=>simp[run_bound (P:=P) (w:=w) hb hhi hbc,run_bound (P:=P) (w:=w) ha hlo hab]
theorem R.sub {b off len cap lo hi sz:Nat}{xs:List (List VV)}{o:Own}(h:R G (.slice (some ⟨b,off,none⟩) len cap) (.lst xs o))(hle:lo≤hi)(hlen:hi≤xs.length)
  (hsz:∀x,x∈xs→x.length=sz):R G (.slice (if cap=lo then some ⟨b,off,none⟩else some ⟨b,off+lo * sz,none⟩) (hi - lo) (cap - lo)) (.lst ((xs.take hi).drop lo) .no):=by
 by_cases heq:hi=lo
 ·subst heq
  have:(xs.take hi).drop hi=[]:=List.drop_eq_nil_of_le (by rw[List.length_take];omega)
  rw[this,Nat.sub_self]
  exact .emp _ _ _ (.inl rfl)
 ·cases h with
  |emp a cap o ho=>simp at hlen;omega
  |lst b off len cap sz' xs o f hl hc hz h1 hK hR ho=>
   have hne:xs≠[]:=by intro e;subst e;simp at hlen;omega
   have hs':sz'=sz:=by
    obtain⟨x,hx⟩:=List.exists_mem_of_ne_nil xs hne
    rw[← hz x hx,hsz x hx]
   subst hs'
   rw[if_neg (by omega)]
   have hmem:∀x,x∈(xs.take hi).drop lo→x∈xs:=fun x hx=>List.mem_of_mem_take (List.mem_of_mem_drop hx)
   refine .lst b _ _ _ sz' _ .no (fun i j=>f (lo+i) j) (by rw[List.length_drop,List.length_take];omega) (by omega) (fun x hx=>hz x (hmem x hx)) (fun x hx=>h1 x (hmem x hx)) (fun i j hi' hj=>?_) (fun i j x y hx hy=>?_) (.inl rfl)
   ·have:=hK (lo+i) j (by omega) hj
    rw[Nat.add_mul]at this
    rw[← this]
    congr 1
    omega
   ·rw[List.getElem?_drop,List.getElem?_take]at hx
    split at hx
    ·exact hR _ j x y hx hy
    ·cases hx
theorem extract_str (a:Array UInt8)(lo hi:Nat):((⟨a⟩:ByteArray).extract lo hi)=⟨((a.toList.take hi).drop lo).toArray⟩:=by
 have:((⟨a⟩:ByteArray).extract lo hi).data=((a.toList.take hi).drop lo).toArray:=by
  rw[ByteArray.data_extract]
  apply Array.toList_inj.1
  simp[List.drop_take]
 exact congrArg ByteArray.mk this
theorem run_vslice {T:TypeId}{v:Value}{x y:VV}{lo hi:Option VV}{ulo uhi:Option Value}(hv:R G v x)(hlo:RO G ulo lo)(hhi:RO G uhi hi)
  (h:vslice (qi P T) (qi P (elemT (qi P T))) x lo hi=some y):∃p,(Instr.sliceAt T v ulo uhi none).run P w=.ok p w∧R G p y:=by
 unfold vslice at h
 split at h
 ·rename_i l hk
  split at h
  ·rename_i a b ha hb
   split at h
   ·rename_i hab
    simp only[Option.some.injEq]at h
    subst h
    cases hv with
    |str arr=>
     have hd:=kind_str hk
     have hbs:=run_bounds (P:=P) (w:=w) (isS:=false) (cap:=arr.size) hlo hhi ha hb hab.1 (by simpa using hab.2)
     refine⟨.string ⟨((arr.toList.take b).drop a).toArray⟩,?_,by simpa using R.str (G:=G) ((arr.toList.take b).drop a).toArray⟩
     have hbs':(Instr.sliceBounds false (ByteArray.mk arr).size (ByteArray.mk arr).size ulo uhi none).run P w=.ok (a,b,arr.size) w:=by
      have e:(ByteArray.mk arr).size=arr.toList.length:=by simp[ByteArray.size]
      rw[show (ByteArray.mk arr).size=arr.size from rfl]
      rw[show arr.toList.length=arr.size by simp]at hbs
      exact hbs
     unfold Instr.sliceAt
     simp only[Sem.run_bind,run_underlying hd,Result.andThen_ok]
     unfold Instr.slice
     simp only[Sem.run_bind,run_underlying hd,Result.andThen_ok,Option.isSome_none,Bool.false_eq_true,if_false,hbs',Sem.run_pure,extract_str]
   ·cases h
  ·cases h
 ·rename_i e xs o hk
  split at h
  ·rename_i a b ha hb
   split at h
   ·rename_i hab
    obtain⟨hab,hble,hpos,hall⟩:=hab
    simp only[Option.some.injEq]at h
    subst h
    have hd:=kind_slice hk
    have he:elemT (qi P T)=e:=by simp[elemT,hk]
    rw[he]at hpos hall
    obtain⟨d',i',_,hi',_,hs',_⟩:=qi_spec (P:=P) e (.inl (by omega))
    cases hv with
    |emp ad cap o ho=>
     have hbs:=run_bounds (P:=P) (w:=w) (isS:=true) (cap:=cap) hlo hhi ha hb hab (by simp at hble;omega)
     simp only[List.length_nil]at hbs hble
     refine⟨.slice (if cap=a then ad else ad.map (·.add (a * i'.size))) (b - a) (cap - a),?_,?_⟩
     ·unfold Instr.sliceAt
      simp only[Sem.run_bind,run_underlying hd,Result.andThen_ok]
      unfold Instr.slice
      simp only[Sem.run_bind,run_underlying hd,Result.andThen_ok,hbs,run_sizeOf hi',Sem.run_pure]
     ·have:b - a=0:=by omega
      rw[this]
      have:(([]:List (List VV)).take b).drop a=[]:=by simp
      rw[this]
      exact .emp _ _ _ (.inl rfl)
    |lst bb off len cap sz xs o f hl hc hz h1 hK hR ho=>
     have hbs:=run_bounds (P:=P) (w:=w) (isS:=true) (cap:=cap) hlo hhi ha hb hab (by omega)
     rw[hl]at hbs
     refine⟨_,?_,R.sub (sz:=i'.size) (R.lst bb off len cap sz xs o f hl hc hz h1 hK hR ho) hab hble (fun x hx=>by rw[← hs'];exact hall x hx)⟩
     unfold Instr.sliceAt
     simp only[Sem.run_bind,run_underlying hd,Result.andThen_ok]
     unfold Instr.slice
     simp only[Sem.run_bind,run_underlying hd,Result.andThen_ok,hbs,run_sizeOf hi',Sem.run_pure]
     congr 2
     split
     ·rfl
     ·simp[add_none]
   ·cases h
  ·cases h
 ·rename_i e g n hk
  split at h
  ·rename_i a b ha hb
   split at h
   ·rename_i hab
    obtain⟨ha0,hble,hpos⟩:=hab
    simp only[Option.some.injEq]at h
    subst h
    subst ha0
    have hd:=kind_slice hk
    have he:elemT (qi P T)=e:=by simp[elemT,hk]
    rw[he]at hpos
    obtain⟨d',i',_,hi',_,hs',_⟩:=qi_spec (P:=P) e (.inl (by omega))
    cases hv with
    |mrw b' n' cap sz hq hn=>
     have hbs:=run_bounds (P:=P) (w:=w) (isS:=true) (cap:=cap) hlo hhi ha hb (Nat.zero_le _) (by omega)
     refine⟨_,?_,R.mrw g b cap sz hq (by omega)⟩
     unfold Instr.sliceAt
     simp only[Sem.run_bind,run_underlying hd,Result.andThen_ok]
     unfold Instr.slice
     simp only[Sem.run_bind,run_underlying hd,Result.andThen_ok,hbs,run_sizeOf hi',Sem.run_pure]
     congr 2
     split
     ·rfl
     ·simp[add_none]
   ·cases h
  ·cases h
 ·cases h
theorem run_vlen {T:TypeId}{v:Value}{x y:VV}{ty:TypeId}(hS:Sim w0 G w s)(hv:R G v x)(h:vlen (qi P T) x s=some y) :
  ∃p,(Builtin.len_ #[T] ty #[v]).run P w=.ok p w∧R G p y:=by
 unfold vlen at h
 split at h
 ·rename_i l hk
  simp only[Option.some.injEq]at h
  subst h
  cases hv with
  |str a=>
   refine⟨.int .i64 a.size,?_,by simpa using R.int (G:=G) .i64 (a.size:Int)⟩
   simp only[Builtin.len_,run_underlying (kind_str hk),goInt,Sem.run_bind,Result.andThen_ok,List.getElem?_toArray,List.getElem?_cons_zero]
   rfl
 ·rename_i e xs o hk
  simp only[Option.some.injEq]at h
  subst h
  cases hv with
  |emp a cap o ho=>exact⟨.int .i64 0,by simp[Builtin.len_,run_underlying (kind_slice hk),goInt],.int _ _⟩
  |lst b off len cap sz xs o f hl hc hz h1 hK hR ho=>
   exact⟨.int .i64 len,by simp[Builtin.len_,run_underlying (kind_slice hk),goInt],by rw[hl];exact .int _ _⟩
 ·rename_i e b n hk
  simp only[Option.some.injEq]at h
  subst h
  cases hv
  exact⟨.int .i64 n,by simp[Builtin.len_,run_underlying (kind_slice hk),goInt],.int _ _⟩
 ·rename_i e b n hk
  simp only[Option.some.injEq]at h
  subst h
  cases hv
  exact⟨.int .i64 n,by simp[Builtin.len_,run_underlying (kind_slice hk),goInt],.int _ _⟩
 ·rename_i e hk
  simp only[Option.some.injEq]at h
  subst h
  cases hv
  exact⟨.int .i64 0,by simp[Builtin.len_,run_underlying (kind_slice hk),goInt],.int _ _⟩
 ·rename_i k e b hk
  split at h
  ·rename_i es hb
   simp only[Option.some.injEq]at h
   subst h
   cases hv
   have ho:=hS.ok b
   rw[hb]at ho
   obtain⟨_,c,clock,hh,hsz,_⟩:=ho
   refine⟨.int .i64 c.size,?_,by rw[hsz.1];exact .int _ _⟩
   have:(getObj b).run P w=.ok (.map c clock) w:=by simp[getObj,Sem.run,hh]
   simp[Builtin.len_,run_underlying (kind_map hk),goInt,this]
  ·cases h
 ·cases h
end
section
variable {P : Program} {N : Nat} {w0 w w' : World} {G G' : Gh} {s s' : St}
theorem divmod (j sz:Nat):j / sz * sz+j % sz=j:=by
 have:=Nat.div_add_mod j sz
 rw[Nat.mul_comm]
 exact this
theorem R.row {b off len cap sz:Nat}{xs:List (List VV)}{o:Own}(hS:Sim w0 G w s)(h:R G (.slice (some ⟨b,off,none⟩) len cap) (.lst xs o))(hpos:0<sz)(hsz:∀x,x∈xs→x.length=sz)(hl:0<len) :
  xs.length=len∧∃news:List Value,news.length=len * sz∧(∀(j:Nat) (u:Value),news[j]?=some u→w.cell? ((⟨b,off,none⟩:Addr).add j)=some u)∧(∀u,u∈news→u.oneCell'=true) ∧
   (∀(j:Nat) (u:Value),news[j]?=some u→G.K b (off+j)=some u) ∧
   ∀(i j:Nat) (x:List VV) (y:VV),xs[i]?=some x→x[j]?=some y→∃v,news[i * sz+j]?=some v∧R G v y:=by
 cases h with
 |emp a cap o ho=>omega
 |lst b off len cap sz' xs o f hlen hc hz h1 hK hR ho=>
  have hne:xs≠[]:=by intro e;subst e;simp at hlen;omega
  have hs':sz'=sz:=by
   obtain⟨x,hx⟩:=List.exists_mem_of_ne_nil xs hne
   rw[← hz x hx,hsz x hx]
  subst hs'
  have hcell:∀j,j<len * sz'→G.K b (off+j)=some (f (j / sz') (j % sz')):=by
   intro j hj
   have h2:j / sz'<len:=(Nat.div_lt_iff_lt_mul hpos).2 hj
   have:=hK (j / sz') (j % sz') h2 (Nat.mod_lt _ hpos)
   rw[divmod]at this
   exact this
  refine⟨hlen,(List.range (len * sz')).map fun j=>f (j / sz') (j % sz'),by simp,fun j u hu=>?_,fun u hu=>?_,fun j u hu=>?_,fun i j x y hx hy=>?_⟩
  ·rw[List.getElem?_map]at hu
   cases hj:(List.range (len * sz'))[j]? with
   |none=>simp[hj]at hu
   |some q=>
    rw[List.getElem?_range (by have:=(List.getElem?_eq_some_iff.1 hj).1;simpa using this)]at hj
    simp only[Option.some.injEq]at hj
    subst hj
    have hlt:j<len * sz':=by
     rcases Nat.lt_or_ge j (len * sz')with h'|h'
     ·exact h'
     ·rw[List.getElem?_eq_none (by simpa using h')]at hu;cases hu
    simp[List.getElem?_range hlt]at hu
    rw[add_none,hS.K _ _ _ (hcell j hlt),hu]
  ·obtain⟨j,hj,rfl⟩:=List.mem_map.1 hu
   have hlt:j<len * sz':=by simpa using hj
   have h2:j / sz'<xs.length:=by rw[hlen];exact(Nat.div_lt_iff_lt_mul hpos).2 hlt
   have h3:j % sz'<(xs[j / sz']).length:=by rw[hz _ (List.getElem_mem h2)];exact Nat.mod_lt _ hpos
   rw[(hR (j / sz') (j % sz') _ _ (List.getElem?_eq_getElem h2) (List.getElem?_eq_getElem h3)).one]
   exact h1 _ (List.getElem_mem h2) _ (List.getElem_mem h3)
  ·have hlt:j<len * sz':=by
    have:=(List.getElem?_eq_some_iff.1 hu).1
    simpa using this
   rw[List.getElem?_map,List.getElem?_range hlt]at hu
   simp at hu
   rw[hcell j hlt,hu]
  ·have hi:i<xs.length:=(List.getElem?_eq_some_iff.1 hx).1
   have hj:j<x.length:=(List.getElem?_eq_some_iff.1 hy).1
   have hxl:=hz x (List.mem_iff_getElem?.2 ⟨i,hx⟩)
   have hlt:i * sz'+j<len * sz':=by
    have:=Nat.mul_le_mul_right sz' (show i+1≤len by omega)
    rw[Nat.succ_mul]at this
    omega
   refine⟨f i j,?_,hR i j x y hx hy⟩
   rw[List.getElem?_map,List.getElem?_range hlt]
   have e1:(i * sz'+j) / sz'=i:=by
    rw[Nat.mul_comm,Nat.mul_add_div hpos,Nat.div_eq_of_lt (by omega),Nat.add_zero]
   have e2:(i * sz'+j) % sz'=j:=by
    rw[Nat.mul_comm,Nat.mul_add_mod,Nat.mod_eq_of_lt (by omega)]
   simp[e1,e2]
def Gh.row (G:Gh)(b:Nat)(c:Array Value)(m cap sz:Nat):Gh:=
 ⟨fun x i=>if x=b then(if i<m then c[i]? else none)else G.K x i,fun x=>if x=b then some (cap,sz)else G.cap x⟩
theorem Sim.alloc_vec (hS:Sim w0 G w s)(T:TypeId)(c:Array Value)(n cap sz:Nat)(hc:c.size=cap * sz)(hn:n≤cap)(hm:cap≤maxLen) :
  Sim w0 (G.row w.heap.size c (n * sz) cap sz) (w.alloc (.cells c T)) (s.set w.heap.size (.vec T sz n))∧G.le (G.row w.heap.size c (n * sz) cap sz):=by
 have hle:G.le (G.row w.heap.size c (n * sz) cap sz):=by
  refine⟨fun b i v hv=>?_,fun b q hq=>?_⟩
  ·have:b≠w.heap.size:=by rintro rfl;rw[hS.K_fresh]at hv;cases hv
   simp[Gh.row,this,hv]
  ·have:b≠w.heap.size:=by rintro rfl;rw[hS.cap_fresh]at hq;cases hq
   simp[Gh.row,this,hq]
 refine⟨⟨hS.below.alloc hS.size_le _,fun b i v hk=>?_,fun b q hq=>?_,fun b=>?_,hS.gl,(hS.rows_new _ _ (fun _ _ _ e=>by cases e)).grow hle (fun b i hb=>by simp[Gh.row,hb]) (St.set_same _ _ _)⟩,hle⟩
 ·by_cases hb:b=w.heap.size
  ·subst hb
   simp only[Gh.row,if_true]at hk
   rw[World.cell?_alloc_new]
   split at hk
   ·exact hk
   ·cases hk
  ·simp only[Gh.row,hb,if_false]at hk
   exact cell?_alloc (hS.K b i v hk)
 ·by_cases hb:b=w.heap.size
  ·subst hb;simp
  ·simp only[Gh.row,hb,if_false]at hq
   have:=hS.cap b q hq
   simp;omega
 ·by_cases hb:b=w.heap.size
  ·subst hb
   rw[St.set_same]
   refine⟨hS.size_le,c,cap,(0,0),by simp[Gh.row],heap_alloc_new w _,Nat.zero_le _,hc,hn,hm,fun i hi=>?_⟩
   simp only[Gh.row,if_true]
   rw[if_neg (by omega)]
  ·rw[St.set_other s _ hb]
   by_cases hlt:b<w.heap.size
   ·exact(hS.ok b).keep (heap_alloc_old w _ b hlt) hle (fun i=>by simp[Gh.row,hb])
   ·have:s b=.free:=by
     cases hc:s b with
     |free=>rfl
     |_=>exact absurd (hS.lt (b:=b) (by rw[hc];simp)) hlt
    rw[this];trivial
theorem R.of_row {G:Gh}{b:Nat}{c:List Value}{zs:List (List VV)}{n cap sz:Nat}(hlen:zs.length=n)(hle:n≤cap)(hz:∀x,x∈zs→x.length=sz)(h1:∀x,x∈zs→∀y,y∈x→y.one=true)
  (hK:∀i,i<n * sz→G.K b i=c[i]?) (hcap:G.cap b=some (cap,sz)) (hc:n * sz≤c.length)
  (hR:∀(i j:Nat) (x:List VV) (y:VV),zs[i]?=some x→x[j]?=some y→∃v,c[i * sz+j]?=some v∧R G v y) :
  R G (.slice (some ⟨b,0,none⟩) n cap) (.lst zs (.at_ b)):=by
 refine .lst b 0 n cap sz zs (.at_ b) (fun i j=>(c[i * sz+j]?).getD default) hlen hle hz h1 (fun i j hi hj=>?_) (fun i j x y hx hy=>?_) (.inr (.inr ⟨rfl,rfl,hcap⟩))
 ·have hlt:i * sz+j<n * sz:=by
   have:=Nat.mul_le_mul_right sz (show i+1≤n by omega)
   rw[Nat.succ_mul]at this
   omega
  rw[Nat.zero_add,hK _ hlt]
  simp[show i * sz+j<c.length by omega]
 ·obtain⟨v,hv,hr⟩:=hR i j x y hx hy
  simp only[hv,Option.getD_some]
  exact hr
theorem append_get {xs ys:List (List VV)}{olds news:List Value}{n sz:Nat}{G:Gh}(hn:xs.length=n)(ho:olds.length=n * sz)
  (hx:∀(i j:Nat) (x:List VV) (y:VV),xs[i]?=some x→x[j]?=some y→∃v,olds[i * sz+j]?=some v∧R G v y)
  (hy:∀(i j:Nat) (x:List VV) (y:VV),ys[i]?=some x→x[j]?=some y→∃v,news[i * sz+j]?=some v∧R G v y) :
  ∀(i j:Nat) (x:List VV) (y:VV),(xs++ys)[i]?=some x→x[j]?=some y→∃v,(olds++news)[i * sz+j]?=some v∧R G v y:=by
 intro i j x y hi hj
 rcases Nat.lt_or_ge i n with h|h
 ·rw[List.getElem?_append_left (by omega)]at hi
  obtain⟨v,hv,hr⟩:=hx i j x y hi hj
  exact⟨v,by rw[List.getElem?_append_left (List.getElem?_eq_some_iff.1 hv).1];exact hv,hr⟩
 ·rw[List.getElem?_append_right (by omega),hn]at hi
  obtain⟨v,hv,hr⟩:=hy (i - n) j x y hi hj
  have e:i * sz+j=olds.length+((i - n) * sz+j):=by
   rw[ho,Nat.sub_mul]
   have:=Nat.mul_le_mul_right sz h
   omega
  exact⟨v,by rw[e,List.getElem?_append_right (by omega)];simpa using hv,hr⟩
theorem Sim.take_row (hS:Sim w0 G w s){e:TypeId}{olds news zs:List Value}{xys:List (List VV)}{n cap sz:Nat}(hlen:xys.length=n)(hsz:∀x,x∈xys→x.length=sz)(h1:∀x,x∈xys→∀y,y∈x→y.one=true)
  (hc:(olds++news++zs).length=cap * sz) (hn:n≤cap) (hm:cap≤maxLen)
  (hR:∀(i j:Nat) (x:List VV) (y:VV),xys[i]?=some x→x[j]?=some y→∃v,(olds++news)[i * sz+j]?=some v∧R G v y) :
  ∃G',G.le G'∧Sim w0 G' (w.drew.alloc (.cells (olds.toArray++news.toArray++zs.toArray) e)) (s.set w.heap.size (.vec e sz n)) ∧
   R G' (.slice (some ⟨w.heap.size,0,none⟩) n cap) (.lst xys (.at_ w.heap.size)):=by
 obtain⟨h2,h3⟩:=hS.drew.alloc_vec e (olds.toArray++news.toArray++zs.toArray) n cap sz (by simpa using hc) hn hm
 refine⟨_,h3,h2,R.of_row (c:=olds++news++zs) hlen hn hsz h1 (fun i hi=>?_) (by simp[Gh.row]) (by rw[hc];exact Nat.mul_le_mul_right _ hn) (fun i j x y hx hy=>?_)⟩
 ·simp only[Gh.row,World.size_drew,if_true]
  rw[if_pos hi]
  simp
 ·obtain⟨v,hv,hr⟩:=hR i j x y hx hy
  exact⟨v,by rw[List.getElem?_append_left (List.getElem?_eq_some_iff.1 hv).1];exact hv,hr.mono h3⟩
theorem lst_one {v:Value}{xs:List (List VV)}{o:Own}(h:R G v (.lst xs o)):∀x,x∈xs→∀y,y∈x→y.one=true:=by
 cases h with
 |emp=>intro x hx;simp at hx
 |lst b off len cap sz xs o f hl hc hz h1=>exact h1
theorem run_append_none {T T' e:TypeId}{ty:TypeId}{i:TypeInfo}(hd:P.underlying T=some (.slice e))(hi:P.info? e=some i)(base:Option Addr)(n cap:Nat)(hn:n≤cap){u:Value}(hs:Src P i.size T' u 0 [] w) :
  (Builtin.append_ #[T,T'] ty #[.slice base n cap,u]).run P w=.ok (.slice base n cap) w:=by
 rcases hs.kind with ⟨e',hk⟩|hk<;>cases base<;>simp[Builtin.append_,run_underlying hd,run_underlying hk,sizeOf,typeInfo,hi,hs.len,hn,hs.cells,storeCells]
theorem run_append_here {T T' ty e:TypeId}{i:TypeInfo}(hd:P.underlying T=some (.slice e))(hi:P.info? e=some i)(g sLen sCap:Nat)(cur:Array Value){fz:Nat×Nat}(hg:w.heap[g]?=some (.cells cur e fz))(hfz:fz.2≤sLen * i.size)
  {u:Value} {m:Nat} {news:List Value} (hs:Src P i.size T' u m news w) (hroom:sLen+m≤sCap) (hfit:sLen * i.size+news.length≤cur.size) :
  (Builtin.append_ #[T,T'] ty #[.slice (some ⟨g,0,none⟩) sLen sCap,u]).run P w =
   .ok (.slice (some ⟨g,0,none⟩) (sLen+m) sCap) (w.setRow g (cur.toList.take (sLen * i.size)++news++cur.toList.drop (sLen * i.size+news.length)).toArray):=by
 have hst:=run_storeCells_atF P g (sLen * i.size) e fz news 0 cur w hg (by simpa using hfz) (by simpa using hfit) hs.one
 simp only[Nat.add_zero]at hst
 rcases hs.kind with ⟨e',hk⟩|hk<;>simp[Builtin.append_,run_underlying hd,run_underlying hk,sizeOf,typeInfo,hi,hs.len,hroom,hs.cells,Addr.add_lit,hst]
theorem run_append_new {T T' ty e:TypeId}{i:TypeInfo}{z:Value}(hd:P.underlying T=some (.slice e))(hi:P.info? e=some i)(hz:i.zero=some z)(base:Option Addr)(sLen sCap:Nat)(olds:List Value)
  (hold:(Builtin.firstCells i.size sLen (.slice base sLen sCap)).run P w.drew=.ok olds.toArray w.drew) {u:Value} {n:Nat} {news:List Value} (hs:Src P i.size T' u n news w)
  (hg:sCap<sLen+n) (h63:((sLen+n:Nat):Int)≤9223372036854775807) (hfit:Builtin.nextslicecap (sLen+n) sCap * i.bytes≤281474976710656) :
  (Builtin.append_ #[T,T'] ty #[.slice base sLen sCap,u]).run P w =
   .ok (.slice (some ⟨w.heap.size,0,none⟩) (sLen+n) (grownCap w (sLen+n) sCap e))
    (w.drew.alloc (.cells (olds.toArray++news.toArray++Builtin.zeroCells z.cells (grownCap w (sLen+n) sCap e - (sLen+n))) e)):=by
 have h:=run_append_grow_src (P:=P) w T T' ty e i z hd hi hz base sLen sCap olds hold u n news hs hg h63 hfit
 rw[h]
 congr 3
 simp
def VSrc (P:Program)(G:Gh)(w:World)(T':TypeId)(u:Value)(ys:List (List VV))(sz:Nat):Prop:=
 ∃news,Src P sz T' u ys.length news w∧(∀x,x∈ys→∀y,y∈x→y.one=true) ∧
  ∀(i j:Nat) (x:List VV) (y:VV),ys[i]?=some x→x[j]?=some y→∃v,news[i * sz+j]?=some v∧R G v y
theorem VSrc.of_lst {T' e':TypeId}(hk:P.underlying T'=some (.slice e')){u:Value}{ys:List (List VV)}{o:Own}{sz:Nat}(hS:Sim w0 G w s)(h:R G u (.lst ys o))(hpos:0<sz)(hys:∀y,y∈ys→y.length=sz):VSrc P G w T' u ys sz:=by
 by_cases h0:ys=[]
 ·subst h0
  obtain⟨a,c,rfl⟩:∃a c,u=.slice a 0 c:=by
   cases h with
   |emp a cap o ho=>exact⟨a,cap,rfl⟩
   |lst b off len cap sz xs o f hl=>simp at hl;subst hl;exact⟨_,_,rfl⟩
  refine⟨[],?_,by simp,by simp⟩
  cases a with
  |none=>exact Src.ofNil w hk c
  |some a=>exact Src.ofSlice w hk a 0 c [] (by simp) (by simp) (by simp)
 ·have hone:=lst_one h
  have hm0:0<ys.length:=List.length_pos_iff.2 h0
  cases h with
  |emp a cap o ho=>exact absurd rfl h0
  |lst bu offu lenu capu szu ys' ou fu hlu hcu hzu h1u hKu hRu hou=>
   obtain⟨_,news,hnl,hnc,hn1,_,hnr⟩:=R.row hS (R.lst bu offu lenu capu szu ys _ fu hlu hcu hzu h1u hKu hRu hou) hpos hys (by omega)
   rw[← hlu]at hnl
   exact⟨news,by rw[← hlu];exact Src.ofSlice w hk ⟨bu,offu,none⟩ ys.length capu news hnl hnc hn1,hone,hnr⟩
theorem VSrc.of_str {T':TypeId}(hk:P.underlying T'=some .string){u:Value}{l:List UInt8}(h:R G u (.str l)):VSrc P G w T' u (bytesV l) 1:=by
 cases h with
 |str a=>
  refine⟨byteCells ⟨a⟩,?_,?_,?_⟩
  ·have:=Src.ofString (P:=P) w hk ⟨a⟩
   simpa [bytesV,ByteArray.size]using this
  ·intro x hx y hy
   simp only[bytesV,List.mem_map]at hx
   obtain⟨c,_,rfl⟩:=hx
   simp only[List.mem_singleton]at hy
   subst hy
   rfl
  ·intro i j x y hx hy
   simp only[bytesV,List.getElem?_map,Option.map_eq_some_iff]at hx
   obtain⟨c,hc,rfl⟩:=hx
   obtain⟨rfl,rfl⟩:j=0∧y=.int .u8 (c.toNat:Int):=by
    cases j with
    |zero=>simpa using hy.symm
    |succ j=>simp at hy
   exact⟨.int .u8 (c.toNat:Int),by simp only[byteCells,Nat.mul_one,Nat.add_zero,List.getElem?_map,hc];rfl,.int _ _⟩
theorem VSrc.of_str0 {T':TypeId}{sz:Nat}(hu:P.underlying T'=some .string){u:Value}(h:R G u (.str [])):VSrc P G w T' u (bytesV []) sz:=by
 generalize hl:([]:List UInt8)=l at h
 cases h with
 |str a=>
  have e1:a=#[]:=by simpa using hl.symm
  subst e1
  refine⟨[],⟨.inr hu,fun _=>rfl,by simp[Builtin.firstCells,bytesV],by simp[Builtin.firstCells,bytesV],by simp[bytesV],by simp⟩,by simp[bytesV],by simp[bytesV]⟩
theorem run_vappend {T T' e ty:TypeId}{v u:Value}{xs ys:List (List VV)}{o:Own}{k:VV→St→Prop}(hS:Sim w0 G w s)(hv:R G v (.lst xs o))
  (hu:0<(qi P e).sz→(∀y,y∈ys→y.length=(qi P e).sz)→VSrc P G w T' u ys (qi P e).sz)
  (hk:(qi P T).k=.slice e) (h:vappend k e (qi P e) xs ys o s) :
  ∃v' w' G' s' x',(Builtin.append_ #[T,T'] ty #[v,u]).run P w=.ok v' w'∧G.le G'∧Sim w0 G' w' s'∧R G' v' x'∧k x' s':=by
 obtain⟨hby,hmx,hys,hz,h⟩:=h
 have hd:=kind_slice hk
 obtain⟨d,i,z,_,hi,_,hs,hbt,hzz,hzs,hpos,_⟩:=qi_zero (P:=P) e hz
 rw[hs]at hys hu
 rw[hbt]at hby
 obtain⟨news,hsrc,hone,hnr⟩:=hu hpos hys
 have hnl:=hsrc.newsLen
 have hn1:=hsrc.one
 have hdrew:∀{b:Addr} {n c:Nat} {olds:List Value},olds.length=n * i.size→(∀(j:Nat) (v:Value),olds[j]?=some v→w.cell? (b.add j)=some v) →
   (Builtin.firstCells i.size n (.slice (some b) n c)).run P w.drew=.ok olds.toArray w.drew:=fun {b} {n} {c} {olds} h1 h2=>run_firstCells_some (P:=P) w.drew i.size n b n c olds h1 (by simpa using h2)
 have honex:=lst_one hv
 cases o with
 |no=>exact h.elim
 |full=>
  obtain⟨hxs,h0,h1⟩:=h
  rw[hs]at hxs
  by_cases hy:ys=[]
  ·subst hy
   have hnn:news=[]:=List.eq_nil_of_length_eq_zero (by simpa using hnl)
   subst hnn
   obtain⟨base,n,cap,hn,rfl⟩:∃base n cap,n≤cap∧v=.slice base n cap:=by
    cases hv with
    |emp a cap o ho=>exact⟨a,0,cap,Nat.zero_le _,rfl⟩
    |lst b off len cap sz xs o f hl hc=>exact⟨_,_,_,hc,rfl⟩
   exact⟨_,w,G,s,_,run_append_none hd hi base n cap hn hsrc,Gh.le.refl G,hS,hv,h0 rfl⟩
  ·have hk1:=h1 hy w.heap.size hS.fresh
   rw[hs]at hk1
   have hm0:0<ys.length:=List.length_pos_iff.2 hy
   ·obtain⟨lenu,hlu⟩:∃lenu,ys.length=lenu:=⟨_,rfl⟩
    rw[hlu]at hnl hsrc
    cases hv with
    |emp a cap o ho=>
     rcases ho with ho|⟨_,rfl,rfl⟩
     ·cases ho
     ·simp only[List.length_nil,Nat.zero_add,List.nil_append]at hk1 hby hmx
      have hrun:=run_append_new (P:=P) (w:=w) (ty:=ty) hd hi hzz none 0 0 [] (run_firstCells_none w.drew i.size 0 0 0) hsrc (by omega) (by omega) (by rw[Nat.zero_add,nextslicecap_zero (by omega),← hlu];omega)
      simp only[Nat.zero_add]at hrun
      have hcap:=grownCap_ge w lenu 0 e
      obtain⟨G',h2,h3,h4⟩:=hS.take_row (e:=e) (olds:=[]) (news:=news) (zs:=(Builtin.zeroCells z.cells (grownCap w lenu 0 e - lenu)).toList) (xys:=ys) (n:=lenu) (cap:=grownCap w lenu 0 e) (sz:=i.size) hlu hys hone
       (by simp only[List.nil_append,List.length_append,Array.length_toList,size_zeroCells,hzs,hnl,← Nat.add_mul];congr 1;omega) hcap (grownCap_le_maxLen w lenu 0 e (by simp only[maxLen];omega)) (by simpa using hnr)
      rw[hlu]at hk1
      exact⟨_,_,G',_,_,hrun,h2,by simpa using h3,h4,hk1⟩
    |lst b off len cap sz xs' o f hl hc hz' h1' hK hR ho=>
     rcases ho with ho|⟨_,rfl,hpl⟩|⟨ho,_⟩
     ·cases ho
     ·have hole:∃olds:List Value,olds.length=cap * i.size∧(∀(j:Nat) (u:Value),olds[j]?=some u→w.cell? ((⟨b,off,none⟩:Addr).add j)=some u) ∧
        ∀(i' j:Nat) (x:List VV) (y:VV),xs[i']?=some x→x[j]?=some y→∃v,olds[i' * i.size+j]?=some v∧R G v y:=by
       by_cases hx0:cap=0
       ·have hxe:xs=[]:=List.eq_nil_of_length_eq_zero (by omega)
        subst hxe
        exact⟨[],by simp[hx0],by simp,by simp⟩
       ·obtain⟨_,olds,hol,hoc,_,_,hor⟩:=R.row hS (R.lst b off _ _ sz xs .full f hl hc hz' h1' hK hR (.inr (.inl ⟨rfl,rfl,hpl⟩))) hpos hxs (by omega)
        exact⟨olds,hol,hoc,hor⟩
      obtain⟨olds,hol,hoc,hor⟩:=hole
      have hrun:=run_append_new (P:=P) (w:=w) (ty:=ty) hd hi hzz (some ⟨b,off,none⟩) cap cap olds (hdrew hol hoc) hsrc (by omega) (by omega) (growslice_fits (by omega) (by rw[← hlu,← hl];exact hby))
      have hge:=grownCap_ge w (cap+lenu) cap e
      obtain⟨G',h2,h3,h4⟩:=hS.take_row (e:=e) (olds:=olds) (news:=news) (zs:=(Builtin.zeroCells z.cells (grownCap w (cap+lenu) cap e - (cap+lenu))).toList) (xys:=xs++ys) (n:=cap+lenu) (cap:=grownCap w (cap+lenu) cap e) (sz:=i.size)
       (by simp;omega) (fun x hx=>(List.mem_append.1 hx).elim (hxs x) (hys x)) (fun x hx=>(List.mem_append.1 hx).elim (honex x) (hone x))
       (by simp only[List.length_append,Array.length_toList,size_zeroCells,hzs,hol,hnl,← Nat.add_mul];congr 1;omega) hge (grownCap_le_maxLen w _ cap e (by simp only[maxLen];omega))
       (append_get hl hol hor hnr)
      rw[hl,hlu]at hk1
      exact⟨_,_,G',_,_,hrun,h2,by simpa using h3,h4,hk1⟩
     ·cases ho
 |at_ b=>
  obtain⟨hb,h⟩:=h
  rw[hs]at hb h
  have ho:=hS.ok b
  rw[hb]at ho
  obtain⟨hB,c,cap,fz,hcap,hh,hfz,hcs,hnc,hcm,hKn⟩:=ho
  cases hv with
  |emp a cap o ho=>rcases ho with ho|⟨ho,_⟩<;>cases ho
  |lst b' off len cap' sz xs' o f hl hc hz' h1' hK hR ho=>
   rcases ho with ho|⟨ho,_⟩|⟨ho,rfl,hcap'⟩
   ·cases ho
   ·cases ho
   ·injection ho with ho
    subst ho
    rw[hcap]at hcap'
    injection hcap' with hcap'
    simp only[Prod.mk.injEq]at hcap'
    obtain⟨rfl,rfl⟩:=hcap'
    have hfree:∀b',b'=b∨s b'=.free→(s.set b .free).set b' (.vec e i.size (xs.length+ys.length))=(s.set b .free).set b' (.vec e i.size (xs.length+ys.length)):=fun _ _=>rfl
    by_cases hy:ys=[]
    ·subst hy
     have hnn:news=[]:=List.eq_nil_of_length_eq_zero (by simpa using hnl)
     subst hnn
     have hk1:=h b (.inl rfl)
     simp only[List.append_nil,List.length_nil,Nat.add_zero]at hk1
     rw[St.set_set,St.set_self _ _ _ hb]at hk1
     exact⟨_,w,G,s,_,run_append_none hd hi _ len cap (by omega) hsrc,Gh.le.refl G,hS,.lst b 0 len cap i.size xs (.at_ b) f hl hc hz' h1' hK hR (.inr (.inr ⟨rfl,rfl,hcap⟩)),hk1⟩
    ·have hm0:0<ys.length:=List.length_pos_iff.2 hy
     ·obtain⟨lenu,hlu⟩:∃lenu,ys.length=lenu:=⟨_,rfl⟩
      rw[hlu]at hnl hsrc
      have hole:∃olds:List Value,olds.length=len * i.size∧(∀(j:Nat) (u:Value),olds[j]?=some u→w.cell? ((⟨b,0,none⟩:Addr).add j)=some u)∧(∀(j:Nat) (u:Value),olds[j]?=some u→G.K b (0+j)=some u) ∧
        ∀(i' j:Nat) (x:List VV) (y:VV),xs[i']?=some x→x[j]?=some y→∃v,olds[i' * i.size+j]?=some v∧R G v y:=by
       by_cases hx0:len=0
       ·have hxe:xs=[]:=List.eq_nil_of_length_eq_zero (by omega)
        subst hxe
        exact⟨[],by simp[hx0],by simp,by simp,by simp⟩
       ·obtain⟨_,olds,hol,hoc,_,hok,hor⟩:=R.row hS (R.lst b 0 len cap i.size xs (.at_ b) f hl hc hz' h1' hK hR (.inr (.inr ⟨rfl,rfl,hcap⟩))) hpos hz' (by omega)
        exact⟨olds,hol,hoc,hok,hor⟩
      obtain⟨olds,hol,hoc,hok,hor⟩:=hole
      have hgr:=append_get hl hol hor hnr
      have hlen:(xs++ys).length=len+lenu:=by simp;omega
      have hall:∀x,x∈xs++ys→x.length=i.size:=fun x hx=>(List.mem_append.1 hx).elim (hz' x) (hys x)
      have hallone:∀x,x∈xs++ys→∀y,y∈x→y.one=true:=fun x hx=>(List.mem_append.1 hx).elim (h1' x) (hone x)
      by_cases hroom:len+lenu≤cap
      ·have hk1:=h b (.inl rfl)
       rw[St.set_set]at hk1
       have hmul:len * i.size+lenu * i.size≤cap * i.size:=by rw[← Nat.add_mul];exact Nat.mul_le_mul_right _ hroom
       have hfit:len * i.size+news.length≤c.size:=by rw[hnl,hcs];exact hmul
       have hrun:=run_append_here (P:=P) (w:=w) (ty:=ty) hd hi b len cap c hh (by rw[← hl];exact hfz) hsrc hroom hfit
       have hadd:(len+lenu) * i.size=len * i.size+lenu * i.size:=Nat.add_mul _ _ _
       have hcells:∀j,(c.toList.take (len * i.size)++news++c.toList.drop (len * i.size+news.length))[j]?=if j<len * i.size then c[j]? else if j<(len+lenu) * i.size then news[j - len * i.size]? else c[j]?:=by
        intro j
        have h1:(c.toList.take (len * i.size)).length=len * i.size:=by rw[List.length_take,Array.length_toList];omega
        by_cases hj:j<len * i.size
        ·rw[if_pos hj,List.getElem?_append_left (by rw[List.length_append,h1];omega),List.getElem?_append_left (by omega),List.getElem?_take,if_pos hj];simp
        ·rw[if_neg hj]
         by_cases hj2:j<(len+lenu) * i.size
         ·rw[if_pos hj2,List.getElem?_append_left (by rw[List.length_append,h1,hnl];omega),List.getElem?_append_right (by omega),h1]
         ·rw[if_neg hj2,List.getElem?_append_right (by rw[List.length_append,h1,hnl];omega),List.length_append,h1,List.getElem?_drop]
          simp only[hnl,Array.getElem?_toList]
          congr 1;omega
       generalize hrow:c.toList.take (len * i.size)++news++c.toList.drop (len * i.size+news.length)=row at hrun hcells
       have hrowlen:row.length=cap * i.size:=by
        rw[← hrow]
        simp only[List.length_append,List.length_take,List.length_drop,Array.length_toList]
        omega
       have hold:∀j v,G.K b j=some v→row[j]?=some v∧j<len * i.size:=by
        intro j v hj
        have hlt:j<len * i.size:=by
         rcases Nat.lt_or_ge j (len * i.size)with h'|h'
         ·exact h'
         ·rw[hKn j (by rw[hl];exact h')]at hj;cases hj
        have:=hS.K b j v hj
        rw[cell_of_row w b j c e fz hh]at this
        exact⟨by rw[hcells,if_pos hlt];exact this,hlt⟩
       let G':Gh:=⟨fun x j=>if x=b then(if j<(len+lenu) * i.size then row[j]? else none)else G.K x j,G.cap⟩
       have hG':G.le G':=⟨fun x j v hv=>by
        by_cases hx:x=b
        ·subst hx
         obtain⟨h2,h3⟩:=hold j v hv
         simp only[G',if_true]
         rw[if_pos (by omega),h2]
        ·simp[G',hx,hv],fun _ _ h=>h⟩
       refine⟨_,_,G',_,_,hrun,hG',⟨hS.below.trans ⟨rfl,rfl,rfl,by simp,fun k hk'=>setRow_other w b k _ (by omega)⟩,fun x j v hv=>?_,fun x q hq=>by simpa using hS.cap x q hq,fun x=>?_,hS.gl,hS.rows.keep' hG' (by simp) (fun g _ hg=>⟨?_,setRow_other w b g _ ?_,fun j=>?_⟩) (fun x T xs rs hx=>?_)⟩,?_,hk1⟩
       rotate_left 2
       ·rw[St.set_other _ _ (by rintro rfl;rw[hb]at hg;cases hg)];exact hg
       ·rintro rfl;rw[hb]at hg;cases hg
       ·have hgb:¬ g=b:=by rintro rfl;rw[hb]at hg;cases hg
        simp[G',hgb]
       ·have hxb:x≠b:=by rintro rfl;rw[St.set_same]at hx;cases hx
        rw[St.set_other _ _ hxb]at hx
        exact⟨hx,setRow_other w b x _ hxb⟩
       rotate_left 1
       ·by_cases hx:x=b
        ·subst hx
         simp only[G',if_true]at hv
         rw[cell_of_row _ x j _ e fz (setRow_heap w x c _ e _ hh)]
         split at hv
         ·simpa using hv
         ·cases hv
        ·simp only[G',hx,if_false]at hv
         exact(World.cell?_of_block (w:=w) (setRow_other w b x _ hx)).trans (hS.K x j v hv)
       ·by_cases hx:x=b
        ·subst hx
         rw[St.set_same]
         refine⟨hB,row.toArray,cap,fz,hcap,setRow_heap w x c _ e _ hh,Nat.le_trans hfz (Nat.mul_le_mul_right _ (by omega)),by simpa using hrowlen,by omega,hcm,fun j hj=>?_⟩
         simp only[G',if_true]
         rw[if_neg (by rw[← hlen,List.length_append];omega)]
        ·rw[St.set_other _ _ hx]
         exact(hS.ok x).keep (setRow_other w b x _ hx) hG' (fun j=>by simp[G',hx])
       ·refine R.of_row (c:=row) hlen hroom hall hallone (fun j hj=>by simp only[G',if_true];rw[if_pos hj]) hcap (by rw[hrowlen];exact Nat.mul_le_mul_right _ hroom) (fun a b x y hx hy=>?_)
        obtain⟨v,hv,hr⟩:=hgr a b x y hx hy
        refine⟨v,?_,hr.mono hG'⟩
        rw[hcells]
        rcases Nat.lt_or_ge (a * i.size+b) (len * i.size)with h'|h'
        ·rw[if_pos h']
         rw[List.getElem?_append_left (by omega)]at hv
         have:=hoc _ _ hv
         rw[add_none,Nat.zero_add,cell_of_row w _ _ c e fz hh]at this
         exact this
        ·rw[if_neg (by omega)]
         rw[List.getElem?_append_right (by omega),hol]at hv
         have hlt:=(List.getElem?_eq_some_iff.1 hv).1
         rw[if_pos (by omega)]
         exact hv
      ·have hk1:=h w.heap.size (.inr hS.fresh)
       have hrun:=run_append_new (P:=P) (w:=w) (ty:=ty) hd hi hzz (some ⟨b,0,none⟩) len cap olds (hdrew hol hoc) hsrc (by omega) (by omega) (growslice_fits (by omega) (by rw[← hlu,← hl];exact hby))
       have hge:=grownCap_ge w (len+lenu) cap e
       obtain⟨G',h2,h3,h4⟩:=(hS.forget (Fg.set_free s b)).take_row (e:=e) (olds:=olds) (news:=news) (zs:=(Builtin.zeroCells z.cells (grownCap w (len+lenu) cap e - (len+lenu))).toList) (xys:=xs++ys) (n:=len+lenu) (cap:=grownCap w (len+lenu) cap e) (sz:=i.size)
        hlen hall hallone
        (by simp only[List.length_append,Array.length_toList,size_zeroCells,hzs,hol,hnl,← Nat.add_mul];congr 1;omega) hge (grownCap_le_maxLen w _ cap e (by simp only[maxLen];omega)) hgr
       rw[hl,hlu]at hk1
       exact⟨_,_,G',_,_,hrun,h2,by simpa using h3,h4,hk1⟩
theorem flat_len {sz:Nat}:∀{ys:List (List VV)},(∀y,y∈ys→y.length=sz)→ys.flatten.length=ys.length * sz
 |[],_=>by simp
 |y::ys,h=>by
  rw[List.flatten_cons,List.length_append,flat_len fun z hz=>h z (by simp[hz]),h y (by simp),List.length_cons,Nat.succ_mul];omega
theorem flat_get {sz:Nat}:∀{ys:List (List VV)},(∀y,y∈ys→y.length=sz)→∀{k:Nat} {x:VV},ys.flatten[k]?=some x→∃i j z,ys[i]?=some z∧z[j]?=some x∧k=i * sz+j
 |[],_,k,x,h=>by simp at h
 |y::ys,hs,k,x,h=>by
  have hy:=hs y (by simp)
  rw[List.flatten_cons]at h
  by_cases hk:k<y.length
  ·rw[List.getElem?_append_left hk]at h
   exact⟨0,k,y,rfl,h,by omega⟩
  ·rw[List.getElem?_append_right (by omega)]at h
   obtain⟨i,j,z,h1,h2,h3⟩:=flat_get (fun z hz=>hs z (by simp[hz])) h
   exact⟨i+1,j,z,by simpa using h1,h2,by rw[Nat.succ_mul];omega⟩
theorem rowM_get {G:Gh}{xs:List VV}{ys:List (List VV)}{olds news:List Value}{sz:Nat}(ho:olds.length=xs.length)(hys:∀y,y∈ys→y.length=sz)(hone:∀x,x∈ys→∀y,y∈x→y.one=true)
  (hx:∀(i:Nat) (x:VV),xs[i]?=some x→x.one=true∧∃v,olds[i]?=some v∧R G v x)
  (hy:∀(i j:Nat) (x:List VV) (y:VV),ys[i]?=some x→x[j]?=some y→∃v,news[i * sz+j]?=some v∧R G v y) :
  ∀(i:Nat) (x:VV),(xs++ys.flatten)[i]?=some x→x.one=true∧∃v,(olds++news)[i]?=some v∧R G v x:=by
 intro i x hi
 by_cases h:i<xs.length
 ·rw[List.getElem?_append_left h]at hi
  obtain⟨h1,v,hv,hr⟩:=hx i x hi
  exact⟨h1,v,by rw[List.getElem?_append_left (List.getElem?_eq_some_iff.1 hv).1];exact hv,hr⟩
 ·rw[List.getElem?_append_right (by omega)]at hi
  obtain⟨a,b,z,h1,h2,h3⟩:=flat_get hys hi
  obtain⟨v,hv,hr⟩:=hy a b z x h1 h2
  refine⟨hone z (List.mem_iff_getElem?.2 ⟨a,h1⟩) x (List.mem_iff_getElem?.2 ⟨b,h2⟩),v,?_,hr⟩
  rw[List.getElem?_append_right (by omega),ho,h3]
  exact hv
theorem run_vappendM {T T' e ty:TypeId}{v u:Value}{b n:Nat}{ys:List (List VV)}{k:VV→St→Prop}(hS:Sim w0 G w s)(hv:R G v (.mrw b n))
  (hu:0<(qi P e).sz→(∀y,y∈ys→y.length=(qi P e).sz)→VSrc P G w T' u ys (qi P e).sz)
  (hk:(qi P T).k=.slice e) (h:vappendM k e (qi P e) b n ys s) :
  ∃v' w' G' s' x',(Builtin.append_ #[T,T'] ty #[v,u]).run P w=.ok v' w'∧G.le G'∧Sim w0 G' w' s'∧R G' v' x'∧k x' s':=by
 obtain⟨xs,hb,hxl,hby,hmx,hys,hz,h⟩:=h
 have hd:=kind_slice hk
 obtain⟨d,i,z,_,hi,_,hs,hbt,hzz,hzs,hpos,_⟩:=qi_zero (P:=P) e hz
 rw[hs]at hys hu hxl
 rw[hbt]at hby
 rw[hs]at hb h
 obtain⟨news,hsrc,hone,hnr⟩:=hu hpos hys
 have hnl:=hsrc.newsLen
 have hn1:=hsrc.one
 have hfl:=flat_len hys
 cases hv with
 |mrw b' n' cap sz' hq hn=>
  have hok:=hS.ok b
  rw[hb]at hok
  obtain⟨hB,hKn,c,cap',hc,hq',hcs,hcl,hcm,hx⟩:=hok
  rw[hq]at hq'
  injection hq' with hq'
  injection hq' with hq1 hq2
  subst hq1
  subst hq2
  have hnc:n * i.size≤c.size:=by rw[hcs];exact Nat.mul_le_mul_right _ hn
  by_cases hroom:n+ys.length≤cap
  ·have hfit:n * i.size+news.length≤c.size:=by rw[hnl,hcs,← Nat.add_mul];exact Nat.mul_le_mul_right _ hroom
   have hrun:=run_append_here (P:=P) (w:=w) (ty:=ty) hd hi b n cap c hc (by simp) hsrc hroom hfit
   have hset:=hS.set_row hb (w.setRow b (c.toList.take (n * i.size)++news++c.toList.drop (n * i.size+news.length)).toArray) c (c.toList.take (n * i.size)++news++c.toList.drop (n * i.size+news.length)).toArray hc
    (ys:=xs++ys.flatten) ⟨rfl,rfl,rfl,by simp,fun k hk=>setRow_other w b k _ (by omega)⟩ (by simp) (setRow_heap w b c _ e _ hc) (fun k hk=>setRow_other w b k _ hk)
    (by simp only[List.size_toArray,List.length_append,List.length_take,List.length_drop,Array.length_toList];omega)
    (by rw[List.length_append,hxl,hfl,hcs,← Nat.add_mul];exact Nat.mul_le_mul_right _ hroom)
    (fun j y hy=>by
     obtain⟨h1,v,hv,hr⟩:=rowM_get (G:=G) (olds:=c.toList.take (n * i.size)) (news:=news) (sz:=i.size) (by rw[List.length_take,Array.length_toList,hxl];omega) hys hone
      (fun a x ha=>by
       obtain⟨h1,v,hv,hr⟩:=hx a x ha
       have hal:=(List.getElem?_eq_some_iff.1 ha).1
       exact⟨h1,v,by rw[List.getElem?_take,if_pos (by omega)];simpa using hv,hr⟩) hnr j y hy
     refine⟨h1,v,?_,hr⟩
     rw[List.getElem?_toArray,List.getElem?_append_left (List.getElem?_eq_some_iff.1 hv).1]
     exact hv)
   refine⟨_,_,G,_,_,hrun,Gh.le.refl G,?_,R.mrw b (n+ys.length) cap i.size hq hroom,h b (.inl rfl)⟩
   rw[St.set_set]
   exact hset
  ·have holds:∀(j:Nat) (v:Value),(c.toList.take (n * i.size))[j]?=some v→w.cell? ((⟨b,0,none⟩:Addr).add j)=some v:=fun j v hj=>by
    rw[List.getElem?_take]at hj
    split at hj
    ·rw[add_none,Nat.zero_add,cell_of_row w b j c e (0,0) hc];simpa using hj
    ·cases hj
   have hol:(c.toList.take (n * i.size)).length=n * i.size:=by rw[List.length_take,Array.length_toList];omega
   have hrun:=run_append_new (P:=P) (w:=w) (ty:=ty) hd hi hzz (some ⟨b,0,none⟩) n cap (c.toList.take (n * i.size))
    (run_firstCells_some (P:=P) w.drew i.size n ⟨b,0,none⟩ n cap (c.toList.take (n * i.size)) hol (by simpa using holds)) hsrc (by omega) (by omega) (growslice_fits (by omega) hby)
   have hge:n+ys.length≤grownCap w (n+ys.length) cap e:=by
    have:=grownCap_ge w (n+ys.length) cap e
    omega
   obtain⟨G',hG,hq',hS'⟩:=hS.drew.alloc_row e ((c.toList.take (n * i.size)).toArray++news.toArray++Builtin.zeroCells z.cells (grownCap w (n+ys.length) cap e - (n+ys.length))) (xs++ys.flatten) (grownCap w (n+ys.length) cap e) i.size
    (by
     simp only[Array.size_append,List.size_toArray,hol,hnl,size_zeroCells,hzs,← Nat.add_mul]
     congr 1;omega)
    (by rw[List.length_append,hxl,hfl,← Nat.add_mul];exact Nat.mul_le_mul_right _ hge)
    (grownCap_le_maxLen w _ cap e (by simp only[maxLen];omega))
    (fun j y hy=>by
     obtain⟨h1,v,hv,hr⟩:=rowM_get (G:=G) (olds:=c.toList.take (n * i.size)) (news:=news) (sz:=i.size) (by rw[hol,hxl]) hys hone
      (fun a x ha=>by
       obtain⟨h1,v,hv,hr⟩:=hx a x ha
       have hal:=(List.getElem?_eq_some_iff.1 ha).1
       exact⟨h1,v,by rw[List.getElem?_take,if_pos (by omega)];simpa using hv,hr⟩) hnr j y hy
     refine⟨h1,v,?_,hr⟩
     rw[← Array.getElem?_toList]
     simp only[Array.toList_append]
     rw[List.getElem?_append_left (List.getElem?_eq_some_iff.1 hv).1]
     exact hv)
   refine⟨_,_,G',_,_,hrun,hG,hS'.forget ?_,R.mrw w.heap.size (n+ys.length) _ i.size (by simpa using hq') hge,h w.heap.size (.inr hS.fresh)⟩
   intro x
   by_cases h1:x=w.heap.size
   ·exact .inr (by simp[St.set,h1])
   ·by_cases h2:x=b
    ·exact .inl (by simp[St.set,h1,h2];intro e;exact absurd (e ▸ h2 ▸ rfl:x=w.heap.size) h1)
    ·exact .inr (by simp[St.set,h1,h2])
theorem run_vappend0 {T T' e ty:TypeId}{v u:Value}{ys:List (List VV)}{k:VV→St→Prop}(hS:Sim w0 G w s)(hv:R G v (.raw (.slice none 0 0)))
  (hu:0<(qi P e).sz→(∀y,y∈ys→y.length=(qi P e).sz)→VSrc P G w T' u ys (qi P e).sz)
  (hk:(qi P T).k=.slice e) (h:vappend0 k e (qi P e) ys s) :
  ∃v' w' G' s' x',(Builtin.append_ #[T,T'] ty #[v,u]).run P w=.ok v' w'∧G.le G'∧Sim w0 G' w' s'∧R G' v' x'∧k x' s':=by
 obtain⟨hne,hby,hmx,hys,hz,h⟩:=h
 have hd:=kind_slice hk
 obtain⟨d,i,z,_,hi,_,hs,hbt,hzz,hzs,hpos,_⟩:=qi_zero (P:=P) e hz
 rw[hs]at hys hu
 rw[hbt]at hby
 rw[hs]at h
 obtain⟨news,hsrc,hone,hnr⟩:=hu hpos hys
 have hnl:=hsrc.newsLen
 have hfl:=flat_len hys
 have hl0:0<ys.length:=List.length_pos_iff.2 hne
 cases hv
 have hrun:=run_append_new (P:=P) (w:=w) (ty:=ty) hd hi hzz none 0 0 [] (run_firstCells_none w.drew i.size 0 0 0) hsrc (by omega) (by omega) (by rw[Nat.zero_add,nextslicecap_zero (by omega)];omega)
 simp only[Nat.zero_add]at hrun
 have hge:ys.length≤grownCap w ys.length 0 e:=by
  have:=grownCap_ge w ys.length 0 e
  omega
 obtain⟨G',hG,hq',hS'⟩:=hS.drew.alloc_row e (([]:List Value).toArray++news.toArray++Builtin.zeroCells z.cells (grownCap w ys.length 0 e - ys.length)) ys.flatten (grownCap w ys.length 0 e) i.size
  (by
   simp only[Array.size_append,List.size_toArray,List.length_nil,Nat.zero_add,hnl,size_zeroCells,hzs,← Nat.add_mul]
   congr 1;omega)
  (by rw[hfl];exact Nat.mul_le_mul_right _ hge)
  (grownCap_le_maxLen w _ 0 e (by simp only[maxLen];omega))
  (fun j y hy=>by
   obtain⟨h1,v,hv,hr⟩:=rowM_get (G:=G) (xs:=[]) (olds:=[]) (news:=news) (sz:=i.size) rfl hys hone (fun a x ha=>by simp at ha) hnr j y (by simpa using hy)
   refine⟨h1,v,?_,hr⟩
   rw[← Array.getElem?_toList]
   simp only[Array.toList_append,List.nil_append]at hv ⊢
   rw[List.getElem?_append_left (by simpa using(List.getElem?_eq_some_iff.1 hv).1)]
   simpa using hv)
 exact⟨_,_,G',_,_,hrun,hG,hS',R.mrw w.heap.size ys.length _ i.size (by simpa using hq') hge,h w.heap.size hS.fresh⟩
end
section
variable {P : Program} {N : Nat} {w0 w w' : World} {G G' : Gh} {s s' : St}
theorem keyEq_now {kd:TypeDesc}{a b:Value}{x y:VV}{t:Bool}(hk:kfit (qkOf kd) x=true)(ha:R G a x)(hb:R G b y)(h:keyEq x y=some t) :
  Instr.sameNow kd a b=some t:=by
 unfold keyEq at h
 split at h
 ·simp only[Option.some.injEq]at h
  subst h
  cases ha with
  |str a=>
   cases hb with
   |str b=>
    cases kd<;>simp[qkOf,kfit]at hk
    simp only[Instr.sameNow,Option.some.injEq]
    rw[Bool.eq_iff_iff,MapKept.bytes_beq,decide_eq_true_eq]
    constructor
    ·intro e;injection e with e;rw[e]
    ·intro e;rw[Array.toList_inj.1 e]
 ·rename_i k x k' y
  split at h
  ·rename_i e
   subst e
   simp only[Option.some.injEq]at h
   subst h
   cases ha
   cases hb
   cases kd<;>simp[qkOf,kfit]at hk
   simp only[Instr.sameNow,if_true,Option.some.injEq]
   rw[Bool.eq_iff_iff,beq_iff_eq,decide_eq_true_eq]
  ·cases h
 ·cases h
def RM (G:Gh)(es:List MapEntry)(xs:List (VV×VV)):Prop:=
 es.length=xs.length∧∀(i:Nat) (k x:VV),xs[i]?=some (k,x)→∃e,es[i]?=some e∧R G e.key k∧R G e.val x
theorem RM.tail {e:MapEntry}{es:List MapEntry}{x:VV×VV}{xs:List (VV×VV)}(h:RM G (e::es) (x::xs)):RM G es xs:=
 ⟨by have:=h.1;simpa using this,fun i k y hi=>by simpa using h.2 (i+1) k y (by simpa using hi)⟩
theorem RM.head {e:MapEntry}{es:List MapEntry}{k x:VV}{xs:List (VV×VV)}(h:RM G (e::es) ((k,x)::xs)):R G e.key k∧R G e.val x:=by
 obtain⟨e',he,h1,h2⟩:=h.2 0 k x rfl
 simp at he
 subst he
 exact⟨h1,h2⟩
theorem run_mget {kd:TypeDesc}{a:Value}{x:VV}(hk:kfit (qkOf kd) x=true)(ha:R G a x) :
  ∀(xs:List (VV×VV)) (es:List MapEntry) (n:Nat) (r:Option VV),RM G es xs→mget x xs=some r →
   ∃q,Instr.findNow kd a es n=some q∧(match r,q with|some y,some (_,v)=>R G v y|none,none=>True|_,_=>False)
 |[],[],n,r,_,h=>by
  simp only[mget,Option.some.injEq]at h
  subst h
  exact⟨none,rfl,trivial⟩
 |[],e::es,n,r,hm,_=>by have:=hm.1;simp at this
 |y::xs,[],n,r,hm,_=>by have:=hm.1;simp at this
 |(k,y)::xs,e::es,n,r,hm,h=>by
  obtain⟨h1,h2⟩:=hm.head
  simp only[mget]at h
  cases hq:keyEq x k with
  |none=>simp[hq]at h
  |some t=>
   have hn:=keyEq_now hk ha h1 hq
   cases t with
   |true=>
    simp only[hq,Option.some.injEq]at h
    subst h
    exact⟨some (n,e.val),by simp[Instr.findNow,hn],h2⟩
   |false=>
    simp only[hq]at h
    obtain⟨q,hq',hr⟩:=run_mget hk ha xs es (n+1) r hm.tail h
    exact⟨q,by simp[Instr.findNow,hn,hq'],hr⟩
theorem run_checkKey {T:TypeId}{kd:TypeDesc}{x:VV}{a:Value}(hd:P.underlying T=some kd)(hk:kfit (qkOf kd) x=true)(b:Bool)(n:Nat) :
  (Instr.checkKey b (n+1) T a).run P w=.ok () w:=by
 cases kd<;>simp[qkOf,kfit]at hk<;>simp[Instr.checkKey,run_underlying hd]
theorem kind_key {T:TypeId}{x:VV}(hk:kfit (qi P T).k x=true) :
  ∃kd,P.underlying T=some kd∧kfit (qkOf kd) x=true:=by
 obtain⟨d,i,hd,hi,hkT,_⟩:=qi_spec (P:=P) T (.inr (.inl (by intro e;rw[e]at hk;cases x<;>simp[kfit]at hk)))
 exact⟨d,hd,by rw[hkT]at hk;exact hk⟩
theorem run_vlookup {T:TypeId}{m key:Value}{x k y:VV}{ok:Bool}(hS:Sim w0 G w s)(hm:R G m x)(hkey:R G key k)
  (h:vlookup (qi P T) (qi P (elemT (qi P T))) (qi P (keyT (qi P T))) x k ok s=some y):∃v,(Instr.lookup T m key ok).run P w=.ok v w∧R G v y:=by
 unfold vlookup at h
 split at h
 ·rename_i kt et b hk
  split at h
  ·rename_i es hb hkk
   have ho:=hS.ok b
   rw[hb]at ho
   obtain⟨_,c,clock,hh,hsz,hrel⟩:=ho
   have hd:=kind_map hk
   have hek:elemT (qi P T)=et:=by simp[elemT,hk]
   have hkt:keyT (qi P T)=kt:=by simp[keyT,hk]
   rw[hek]at h
   rw[hkt]at hkk
   obtain⟨kd,hkd,hkk'⟩:=kind_key (P:=P) hkk
   cases hm
   have hRM:RM G c.toList es:=⟨by simpa using hsz.1,fun i k x hi=>by simpa using hrel i k x hi⟩
   have hget:(getObj b).run P w=.ok (.map c clock) w:=by simp[getObj,Sem.run,hh]
   cases hg:mget k es with
   |none=>simp[hg]at h
   |some r=>
    obtain⟨q,hq,hr⟩:=run_mget hkk' hkey es c.toList 0 r hRM hg
    cases r with
    |some z=>
     simp only[hg,Option.some.injEq]at h
     cases q with
     |none=>exact hr.elim
     |some q=>
      obtain⟨n,v⟩:=q
      subst h
      refine⟨if ok then .tuple #[v,.bool true] else v,?_,?_⟩
      ·unfold Instr.lookup
       simp only[Sem.run_bind,run_underlying hd,Result.andThen_ok,hget,Sem.run_pure,run_checkKey hkd hkk',Instr.findKey,run_underlying hkd,hq]
      ·cases ok with
       |true=>exact .tup _ _ rfl (fun j v y hv hy=>by
         match j with
         |0=>simp at hv hy;subst hv;subst hy;exact hr
         |1=>simp at hv hy;subst hv;subst hy;exact .bool _
         |j+2=>simp at hv)
       |false=>exact hr
    |none=>
     cases q with
     |some q=>exact hr.elim
     |none=>
      simp only[hg]at h
      cases hz:vzero (qi P et)with
      |none=>simp[hz]at h
      |some z=>
       simp only[hz,Option.map_some,Option.some.injEq]at h
       subst h
       unfold vzero at hz
       split at hz
       ·rename_i hzok
        obtain⟨zv,i,d,hi,hde,hke,hs,hzz,hpos,hzs,⟨hag,hnt⟩,hrl⟩:=RLs.zero (P:=P) (G:=G) hzok
        have hzr:R G zv z:=by
         rw[hke]at hz
         cases hd':(qkOf d).agg with
         |true=>
          rw[hd']at hz hag
          simp only[if_true,Option.some.injEq]at hz
          subst hz
          have hone:zv.oneCell'=false:=by cases h:zv.oneCell'<;>simp[h]at hag ⊢
          cases zv with
          |agg cs=>exact .agg cs _ hrl.1 hrl.2.1 hrl.2.2
          |tuple vs=>simp[notTup]at hnt
          |_=>simp[Value.oneCell']at hone
         |false=>
          rw[hd']at hz hag
          simp only[Bool.false_eq_true,if_false]at hz
          have hone:zv.oneCell'=true:=by cases h:zv.oneCell'<;>simp[h]at hag ⊢
          have hc:zv.cells=#[zv]:=by cases zv<;>first|rfl|(simp[Value.oneCell']at hone)
          exact hrl.2.2 0 zv z (by rw[hc];rfl) hz
        refine⟨if ok then .tuple #[zv,.bool false] else zv,?_,?_⟩
        ·unfold Instr.lookup
         simp only[Sem.run_bind,run_underlying hd,Result.andThen_ok,hget,Sem.run_pure,run_checkKey hkd hkk',Instr.findKey,run_underlying hkd,hq,zeroValue,typeInfo,run_program,hi,hzz]
        ·cases ok with
         |true=>exact .tup _ _ rfl (fun j v y hv hy=>by
           match j with
           |0=>simp at hv hy;subst hv;subst hy;exact hzr
           |1=>simp at hv hy;subst hv;subst hy;exact .bool _
           |j+2=>simp at hv)
         |false=>exact hzr
       ·cases hz
  ·cases h
 ·cases h
theorem key_diff {x k:VV}{a b:Value}(hq:keyEq x k=some false)(ha:R G a x)(hb:R G b k):b≠a:=by
 rintro rfl
 unfold keyEq at hq
 split at hq
 ·rename_i s t
  simp only[Option.some.injEq,decide_eq_false_iff_not]at hq
  generalize h1:VV.str s=u at ha
  cases ha<;>cases h1
  generalize h2:VV.str t=u2 at hb
  cases hb<;>first|(cases h2;exact hq rfl)|cases h2
 ·rename_i k1 m k2 m2
  split at hq
  ·simp only[Option.some.injEq,decide_eq_false_iff_not]at hq
   generalize h1:VV.int k1 m=u at ha
   cases ha<;>cases h1
   cases hb
   exact hq rfl
  ·cases hq
 ·cases hq
theorem key_one {x:VV}{a b:Value}{kd:TypeDesc}(hk:kfit (qkOf kd) x=true)(ha:R G a x)(hb:R G b x):a=b:=by
 cases x with
 |int k n=>cases ha;cases hb;rfl
 |str l=>
  generalize hl:l=l' at hb
  cases ha with
  |str a=>
   cases hb with
   |str b=>
    obtain rfl:a=b:=Array.toList_inj.1 hl
    rfl
 |_=>cases kd<;>simp[qkOf,kfit]at hk
theorem run_mput {kd:TypeDesc}{a v:Value}{x y:VV}(hk:kfit (qkOf kd) x=true)(ha:R G a x)(hv:R G v y) :
  ∀(xs:List (VV×VV)) (es:List MapEntry) (n:Nat) (zs:List (VV×VV)),RM G es xs→mput x y xs=some zs →
   (∃i u,Instr.findNow kd a es n=some (some (n+i,u))∧∃e,es[i]?=some e∧R G e.key x∧∀born,RM G (es.set i ⟨a,v,born⟩) zs)∨(Instr.findNow kd a es n=some none∧(∀e,e∈es→e.key≠a)∧∀born,RM G (es++[⟨a,v,born⟩]) zs)
 |[],[],n,zs,_,h=>by
  simp only[mput,Option.some.injEq]at h
  subst h
  refine .inr ⟨rfl,(fun e he=>by cases he),fun born=>⟨rfl,fun i k z hi=>?_⟩⟩
  cases i with
  |zero=>simp at hi;obtain⟨rfl,rfl⟩:=hi;exact⟨_,rfl,ha,hv⟩
  |succ i=>simp at hi
 |[],e::es,n,r,hm,_=>by have:=hm.1;simp at this
 |y::xs,[],n,r,hm,_=>by have:=hm.1;simp at this
 |(k,z)::xs,e::es,n,zs,hm,h=>by
  obtain⟨h1,h2⟩:=hm.head
  simp only[mput]at h
  cases hq:keyEq x k with
  |none=>simp[hq]at h
  |some t=>
   have hn:=keyEq_now hk ha h1 hq
   cases t with
   |true=>
    simp only[hq,Option.some.injEq]at h
    subst h
    have hxk:R G e.key x:=by
     unfold keyEq at hq
     split at hq
     ·simp at hq;subst hq;exact h1
     ·split at hq
      ·rename_i e';subst e';simp at hq;subst hq;exact h1
      ·cases hq
     ·cases hq
    refine .inl ⟨0,e.val,by simp[Instr.findNow,hn],e,rfl,hxk,fun born=>⟨by simpa using hm.tail.1,fun i k' z' hi=>?_⟩⟩
    cases i with
    |zero=>simp at hi;obtain⟨rfl,rfl⟩:=hi;exact⟨_,rfl,ha,hv⟩
    |succ i=>simpa using hm.tail.2 i k' z' (by simpa using hi)
   |false=>
    simp only[hq]at h
    cases hr:mput x y xs with
    |none=>simp[hr]at h
    |some ys=>
     simp only[hr,Option.map_some,Option.some.injEq]at h
     subst h
     have cons:∀es',RM G es' ys→RM G (e::es') ((k,z)::ys):=fun es' he=>⟨by simpa using he.1,fun i k' z' hi=>by
      cases i with
      |zero=>simp at hi;obtain⟨rfl,rfl⟩:=hi;exact⟨e,rfl,h1,h2⟩
      |succ i=>simpa using he.2 i k' z' (by simpa using hi)⟩
     rcases run_mput hk ha hv xs es (n+1) ys hm.tail hr with ⟨i,u,hf,e',he',hke,hall⟩|⟨hf,hno,hall⟩
     ·exact .inl ⟨i+1,u,by simp only[Instr.findNow,hn,hf];congr 3;omega,e',by simpa using he',hke,fun born=>by simpa using cons _ (hall born)⟩
     ·exact .inr ⟨by simp[Instr.findNow,hn,hf],fun e2 he2=>by
       rcases List.mem_cons.1 he2 with rfl|he2
       ·exact key_diff hq ha h1
       ·exact hno e2 he2,fun born=>by simpa using cons _ (hall born)⟩
theorem key_same {x:VV}{a b:Value}{kd:TypeDesc}(hk:kfit (qkOf kd) x=true)(ha:R G a x)(hb:R G b x):(Instr.keyThatStays b a).run P w=.ok a w:=by
 cases x with
 |int k n=>
  cases ha;cases hb
  simp[Instr.keyThatStays,Instr.sameBits]
 |str l=>
  generalize hl:l=l' at hb
  cases ha with
  |str a=>
   cases hb with
   |str b=>
    obtain rfl:a=b:=Array.toList_inj.1 hl
    have:(Instr.sameBits 10000 (.string ⟨a⟩) (.string ⟨a⟩))=true:=by
     rw[Instr.sameBits]
     exact(MapKept.bytes_beq _ _).2 rfl
    simp[Instr.keyThatStays,this]
 |_=>cases kd<;>simp[qkOf,kfit]at hk
theorem Sim.set_map (h:Sim w0 G w s){b:Nat}{xs ys:List (VV×VV)}(hb:s b=.map xs)(c':Array MapEntry)(clock:Nat)(hm:RM G c'.toList ys)(hst:MapKept.Stamped c' clock) :
  Sim w0 G { w with heap:=w.heap.setIfInBounds b (.map c' clock) } (s.set b (.map ys)):=by
 have ho:=h.ok b
 rw[hb]at ho
 obtain⟨hB,c,cl,hh,hsz,_⟩:=ho
 have hlt:b<w.heap.size:=(Array.getElem?_eq_some_iff.1 hh).1
 have hother:∀k,k≠b→(w.heap.setIfInBounds b (.map c' clock))[k]?=w.heap[k]?:=fun k hk=>Array.getElem?_setIfInBounds_ne (Ne.symm hk)
 have hn:∀i,G.K b i=none:=fun i=>by
  cases hk:G.K b i with
  |none=>rfl
  |some v=>
   have:=h.K b i v hk
   simp[World.cell?,hh]at this
 refine⟨h.below.trans ⟨rfl,rfl,rfl,by simp,fun k hk=>hother k (by omega)⟩,fun x i v hk=>?_,fun x q hq=>by simpa using h.cap x q hq,fun x=>?_,h.gl,h.rows.keep' (Gh.le.refl G) (by simp) (fun g _ hg=>⟨?_,hother g ?_,fun _=>rfl⟩) (fun x T xs rs hx=>?_)⟩
 rotate_left 2
 ·rw[St.set_other _ _ (by rintro rfl;rw[hb]at hg;cases hg)];exact hg
 ·rintro rfl;rw[hb]at hg;cases hg
 ·have hxb:x≠b:=by rintro rfl;rw[St.set_same]at hx;cases hx
  rw[St.set_other _ _ hxb]at hx
  exact⟨hx,hother x hxb⟩
 ·have hne:x≠b:=by rintro rfl;rw[hn]at hk;cases hk
  exact(World.cell?_of_block (w:=w) (hother x hne)).trans (h.K x i v hk)
 ·by_cases hx:x=b
  ·subst hx
   rw[St.set_same]
   exact⟨hB,c',clock,by simp[hlt],⟨by simpa using hm.1,hst⟩,fun i k y hi=>by simpa using hm.2 i k y hi⟩
  ·rw[St.set_other s _ hx]
   exact(h.ok x).keep (hother x hx) (Gh.le.refl G) (fun _=>rfl)
theorem run_vupdate {T:TypeId}{m key v:Value}{x k y:VV}{s':St}(hS:Sim w0 G w s)(hm:R G m x)(hkey:R G key k)(hv:R G v y)
  (h:vupdate (qi P T) (qi P (keyT (qi P T))) x k y s=some s'):∃w',(Instr.mapUpdate T m key v).run P w=.ok () w'∧Sim w0 G w' s':=by
 unfold vupdate at h
 split at h
 ·rename_i kt et b hk
  split at h
  ·rename_i es hb hkk
   have ho:=hS.ok b
   rw[hb]at ho
   obtain⟨_,c,clock,hh,hsz,hrel⟩:=ho
   have hd:=kind_map hk
   have hkt:keyT (qi P T)=kt:=by simp[keyT,hk]
   rw[hkt]at hkk
   obtain⟨kd,hkd,hkk'⟩:=kind_key (P:=P) hkk
   cases hm
   have hRM:RM G c.toList es:=⟨by simpa using hsz.1,fun i k x hi=>by simpa using hrel i k x hi⟩
   have hget:(getObj b).run P w=.ok (.map c clock) w:=by simp[getObj,Sem.run,hh]
   have hset:∀o,(setObj b o).run P w=.ok () { w with heap:=w.heap.setIfInBounds b o }:=fun o=>by simp[setObj,Sem.run,hh]
   cases hp:mput k y es with
   |none=>simp[hp]at h
   |some zs=>
    simp only[hp,Option.map_some,Option.some.injEq]at h
    subst h
    rcases run_mput hkk' hkey hv es c.toList 0 zs hRM hp with ⟨i,u,hf,e,he,hke,hall⟩|⟨hf,hno,hall⟩
    ·rw[Nat.zero_add]at hf
     have he':c[i]?=some e:=by simpa using he
     have hce:(c.modify i fun e=>{ e with key:=key,val:=v })=(c.toList.set i ⟨key,v,e.born⟩).toArray:=by
      apply Array.ext_getElem?
      intro j
      have hta:((c.toList.set i ⟨key,v,e.born⟩).toArray)[j]?=(c.toList.set i ⟨key,v,e.born⟩)[j]?:=by simp
      rw[Array.getElem?_modify,hta,List.getElem?_set]
      by_cases hj:i=j
      ·subst hj
       have:i<c.size:=(Array.getElem?_eq_some_iff.1 he').1
       simp only[this,Array.length_toList,if_true]
       rw[he']
       rfl
      ·simp[hj]
     refine⟨_,?_,hS.set_map hb (c.modify i fun e=>{ e with key:=key,val:=v }) clock (by rw[hce];exact hall e.born) (MapKept.stamped_modify hsz.2 i _ (fun _ _=>rfl) (fun e2 _ he2=>by rw[he']at he2;injection he2 with he2;subst he2;exact key_one hkk' hkey hke))⟩
     unfold Instr.mapUpdate
     simp only[Sem.run_bind,run_underlying hd,Result.andThen_ok,hget,Sem.run_pure,run_checkKey hkd hkk',Instr.findKey,run_underlying hkd,hf,he',Option.map_some,Option.getD_some,key_same (P:=P) hkk' hkey hke,hset]
    ·refine⟨_,?_,hS.set_map hb (c.push ⟨key,v,clock⟩) (clock+1) (by simpa using hall clock) (MapKept.stamped_push hsz.2 hno)⟩
     unfold Instr.mapUpdate
     simp only[Sem.run_bind,run_underlying hd,Result.andThen_ok,hget,Sem.run_pure,run_checkKey hkd hkk',Instr.findKey,run_underlying hkd,hf,hset]
  ·cases h
 ·cases h
end
section
variable {P : Program} {w0 w : World} {G : Gh} {s : St}
theorem run_buildSliceM {T e:TypeId}{len:Nat}{parts:List (Nat×VV)}{vps:Array (Nat×Value)}{xs:List (List VV)}(hS:Sim w0 G w s)
  (hk:(qi P T).k=.slice e) (hz:(qi P e).zok=true) (hlen:parts.length=len) (h0:0<len) (hbig:len * (qi P e).sz≤16777216)
  (hl:vps.size=parts.length) (hp:∀(i:Nat) (p:Nat×VV) (q:Nat×Value),parts[i]?=some p→vps[i]?=some q→p.1=q.1∧R G q.2 p.2)
  (h:vrow (qi P e).sz 0 parts=some xs) :
  ∃v w' G',(Instr.buildSlice T len vps).run P w=.ok v w'∧G.le G'∧s w.heap.size=.free∧Sim w0 G' w' (s.set w.heap.size (.row e (qi P e).sz xs.flatten))∧R G' v (.mrw w.heap.size len):=by
 obtain⟨dT,iT,hdT,hiT,hkT,_⟩:=qi_spec (P:=P) T (.inr (.inl (by rw[hk];simp)))
 have hdT':dT=.slice e:=by
  rw[hk]at hkT
  cases dT<;>simp[qkOf]at hkT
  rw[hkT]
 subst hdT'
 obtain⟨z,i,d,hi,hd,hke,hs,hzz,hpos,hzs,hag,hrl⟩:=RLs.zero (P:=P) (G:=G) hz
 obtain⟨hxl,hx2,hx3,_⟩:=vrow_spec parts 0 xs h
 have hzne:len * i.size≠0:=by
  have:=Nat.mul_pos h0 hpos
  omega
 obtain⟨vs,hf,hvs,_,hall⟩:=run_fillRow (G:=G) parts vps.toList 0 xs ((Array.range (len * i.size)).map fun q=>z.cells[q % z.cells.size]!) h
  (by simpa using hl) (fun i p q hpi hqi=>hp i p q hpi (by simpa using hqi)) (by simp[hlen,hs])
 have hvsz:vs.size=len * i.size:=by rw[hvs];simp
 obtain⟨G',hG,hq,hS'⟩:=hS.alloc_row e vs xs.flatten len i.size hvsz (by rw[flat_len hx2,hxl,hlen,hs];exact Nat.le_refl _) (by
   have:len≤len * i.size:=Nat.le_mul_of_pos_right _ hpos
   have hb2:=hbig
   rw[hs]at hb2
   simp only[maxLen];omega) (fun j y hy=>by
  obtain⟨a,b,x,h1,h2,h3⟩:=flat_get hx2 hy
  obtain⟨v,hv,hr⟩:=hall a b x y h1 h2
  rw[Nat.zero_add]at hv
  refine⟨hx3 x (List.mem_of_getElem? h1) y (List.mem_of_getElem? h2),v,?_,hr⟩
  rw[h3];exact hv)
 rw[hs]
 refine⟨.slice (some ⟨w.heap.size,0,none⟩) len len,_,G',?_,hG,hS.fresh,hS',R.mrw w.heap.size len len i.size (by simpa using hq) (Nat.le_refl _)⟩
 unfold Instr.buildSlice
 simp only[Sem.run_bind,run_underlying hdT,Result.andThen_ok,run_sizeOf hi,Sem.run_ite]
 rw[if_neg (by rw[hs]at hbig;omega)]
 simp only[hzne,if_false,Sem.run_bind,zeroValue,typeInfo,run_program,hi,Result.andThen_ok,hzz,Sem.run_pure]
 rw[hs]at hf
 rw[hf]
 simp only[newRow,Sem.run_bind,run_newObj,Result.andThen_ok,Sem.run_pure]
 rfl
end
end Go.Proofs.YtgdbgfjhenobdaaGreatDoor
