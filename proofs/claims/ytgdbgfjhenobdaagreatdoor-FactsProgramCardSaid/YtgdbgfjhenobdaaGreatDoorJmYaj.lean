/- Walks of functions that the claim reaches, and plain facts of them. Conditions: those in the statements. -/
import Derived.Test.YtgdbgfjhenobdaaGreatDoorJmGpj
set_option linter.unusedSimpArgs false
set_option linter.unusedVariables false
set_option maxRecDepth 100000
namespace Go.Proofs.YtgdbgfjhenobdaaGreatDoor
open Go.RowKit
def lkA {α:Type}(k:List UInt8):List (List UInt8×α)→Option α
 |[]=>none
 |(a,v)::r=>if k=a then some v else lkA k r
def ptA {α:Type}(k:List UInt8)(v:α):List (List UInt8×α)→List (List UInt8×α)
 |[]=>[(k,v)]
 |(a,w)::r=>if k=a then(k,v)::r else(a,w)::ptA k v r
def mpV {α:Type}(enc:α→VV)(l:List (List UInt8×α)):List (VV×VV):=l.map fun p=>(VV.str p.1,enc p.2)
def encI (n:Int):VV:=.int .i64 n
def encB (b:Bool):VV:=.bool b
theorem mget_mpV {α:Type}{enc:α→VV}(k:List UInt8):∀l:List (List UInt8×α),mget (.str k) (mpV enc l)=some ((lkA k l).map enc)
 |[]=>rfl
 |(a,v)::r=>by
  have ih:=mget_mpV (enc:=enc) k r
  simp only[mpV,List.map_cons,mget,keyEq,lkA]at ih ⊢
  by_cases h:k=a
  ·simp[h]
  ·simp only[h,decide_false,if_false];exact ih
theorem mput_mpV {α:Type}{enc:α→VV}(k:List UInt8)(v:α):∀l:List (List UInt8×α),mput (.str k) (enc v) (mpV enc l)=some (mpV enc (ptA k v l))
 |[]=>rfl
 |(a,w)::r=>by
  have ih:=mput_mpV (enc:=enc) k v r
  simp only[mpV,List.map_cons,mput,keyEq,ptA]at ih ⊢
  by_cases h:k=a
  ·simp[h]
  ·simp only[h,decide_false,if_false,ih,Option.map_some,List.map_cons]
section
variable {q qe qk : QI} {s : St} {b : Nat} {k x : VV} {ok : Bool}
def vlkC (q qe qk:QI)(k:VV)(ok:Bool)(c:Cell):Option VV:=
 match q.k with
 |.map _ _=>
  match c,kfit qk.k k with
  |.map es,true=>
   match mget k es with
   |some (some x)=>some (if ok then .tup [x,.bool true] else x)
   |some none=>(vzero qe).map fun z=>if ok then .tup [z,.bool false] else z
   |none=>none
  |_,_=>none
 |_=>none
theorem p_lk:vlookup q qe qk (.mp b) k ok s=vlkC q qe qk k ok (s b):=by
 unfold vlookup vlkC
 cases q.k<;>rfl
theorem p_lkI {a e sz bt sz2 bt2:Nat}{zo:Bool}{zz z2:List VV}{zo2:Bool}{t:List UInt8}{l:List (List UInt8×Int)} :
  vlkC ⟨.map a e,sz,bt,zo,zz⟩ ⟨.int .i64,1,8,true,[.int .i64 0]⟩ ⟨.str,sz2,bt2,zo2,z2⟩ (.str t) ok (.map (mpV encI l))=some (if ok then .tup [.int .i64 ((lkA t l).getD 0),.bool (lkA t l).isSome] else .int .i64 ((lkA t l).getD 0)):=by
 simp only[vlkC,kfit,mget_mpV]
 cases lkA t l with
 |none=>cases ok<;>rfl
 |some n=>cases ok<;>rfl
theorem p_lkB {a e sz bt sz2 bt2:Nat}{zo:Bool}{zz z2:List VV}{zo2:Bool}{t:List UInt8}{l:List (List UInt8×Bool)} :
  vlkC ⟨.map a e,sz,bt,zo,zz⟩ ⟨.bool,1,1,true,[.bool false]⟩ ⟨.str,sz2,bt2,zo2,z2⟩ (.str t) ok (.map (mpV encB l))=some (if ok then .tup [.bool ((lkA t l).getD false),.bool (lkA t l).isSome] else .bool ((lkA t l).getD false)):=by
 simp only[vlkC,kfit,mget_mpV]
 cases lkA t l with
 |none=>cases ok<;>rfl
 |some n=>cases ok<;>rfl
def vlenC (q:QI)(c:Cell):Option VV:=
 match q.k,c with
 |.map _ _,.map es=>some (.int .i64 es.length)
 |_,_=>none
theorem p_lenM {a e sz bt:Nat}{zo:Bool}{zz:List VV}:vlen ⟨.map a e,sz,bt,zo,zz⟩ (.mp b) s=vlenC ⟨.map a e,sz,bt,zo,zz⟩ (s b):=by
 simp only[vlen,vlenC]
 cases s b<;>rfl
theorem p_lenM2 {α:Type}{enc:α→VV}{a e sz bt:Nat}{zo:Bool}{zz:List VV}{l:List (List UInt8×α)}:vlenC ⟨.map a e,sz,bt,zo,zz⟩ (.map (mpV enc l))=some (.int .i64 l.length):=by simp[vlenC,mpV]
def vupC (q qk:QI)(b:Nat)(k x:VV)(s:St)(c:Cell):Option St:=
 match q.k with
 |.map _ _=>
  match c,kfit qk.k k with
  |.map es,true=>(mput k x es).map fun es'=>s.set b (.map es')
  |_,_=>none
 |_=>none
theorem p_up:vupdate q qk (.mp b) k x s=vupC q qk b k x s (s b):=by
 unfold vupdate vupC
 cases q.k<;>rfl
theorem p_upI {a e sz bt sz2 bt2:Nat}{zo:Bool}{zz z2:List VV}{zo2:Bool}{t:List UInt8}{n:Int}{l:List (List UInt8×Int)} :
  vupC ⟨.map a e,sz,bt,zo,zz⟩ ⟨.str,sz2,bt2,zo2,z2⟩ b (.str t) (.int .i64 n) s (.map (mpV encI l))=some (s.set b (.map (mpV encI (ptA t n l)))):=by
 have:=mput_mpV (enc:=encI) t n l
 simp only[encI]at this
 simp only[vupC,kfit]
 show (mput (.str t) (.int .i64 n) (mpV encI l)).map _=_
 rw[show (VV.int .i64 n)=encI n from rfl,mput_mpV]
 rfl
theorem p_upB {a e sz bt sz2 bt2:Nat}{zo:Bool}{zz z2:List VV}{zo2:Bool}{t:List UInt8}{n:Bool}{l:List (List UInt8×Bool)} :
  vupC ⟨.map a e,sz,bt,zo,zz⟩ ⟨.str,sz2,bt2,zo2,z2⟩ b (.str t) (.bool n) s (.map (mpV encB l))=some (s.set b (.map (mpV encB (ptA t n l)))):=by
 simp only[vupC,kfit]
 show (mput (.str t) (.bool n) (mpV encB l)).map _=_
 rw[show (VV.bool n)=encB n from rfl,mput_mpV]
 rfl
end
attribute [go_sem] p_lk p_lkI p_lkB p_lenM p_lenM2 p_up p_upI p_upB
def ixT (k:List UInt8):List (List UInt8)→Option Nat
 |[]=>none
 |a::r=>if k=a then some 0 else(ixT k r).map (·+1)
theorem disown_fl {s:St}:s.disown .full=s:=rfl
theorem owned_fl {s:St}{T sz n:Nat}:Owned s .full T sz n=(n=0):=rfl
theorem own_fl {s:St}{T sz n:Nat}:s.own .full T sz n=s:=rfl
theorem uget {α:Type}{l:List α}{i:Nat}(h:i<l.length):∃x,l[i]?=some x:=⟨_,List.getElem?_eq_getElem h⟩
theorem utake {α:Type}{l:List α}{i:Nat}{x:α}(h:l[i]?=some x):l.take (i+1)=l.take i++[x]:=by rw[List.take_add_one,h];rfl
theorem ixT_lt {k:List UInt8}:∀{l:List (List UInt8)} {i:Nat},ixT k l=some i→l[i]?=some k
 |[],i,h=>by cases h
 |a::r,i,h=>by
  simp only[ixT]at h
  split at h
  ·rename_i e;injection h with h;subst h;simp[e]
  ·obtain⟨j,hj,rfl⟩:=Option.map_eq_some_iff.1 h
   simpa using ixT_lt hj
theorem ixT_none {k:List UInt8}:∀{l:List (List UInt8)},ixT k l=none↔k∉l
 |[]=>by simp[ixT]
 |a::r=>by
  have ih:=ixT_none (k:=k) (l:=r)
  simp only[ixT]
  by_cases e:k=a
  ·simp[e]
  ·rw[if_neg e,Option.map_eq_none_iff,ih,List.mem_cons]
   simp[e]
theorem ptA_new {α:Type}{k:List UInt8}{v:α}:∀{l:List (List UInt8×α)},k∉l.map (·.1)→ptA k v l=l++[(k,v)]
 |[],_=>rfl
 |(b,w)::r,h=>by
  simp only[List.map_cons,List.mem_cons,not_or]at h
  simp only[ptA]
  rw[if_neg h.1,ptA_new h.2]
  rfl
theorem ptA_old {α:Type}{k:List UInt8}{v:α}:∀{l:List (List UInt8×α)},k∈l.map (·.1)→(ptA k v l).map (·.1)=l.map (·.1)
 |[],h=>by cases h
 |(b,w)::r,h=>by
  simp only[List.map_cons,List.mem_cons]at h
  simp only[ptA]
  by_cases e:k=b
  ·subst e;rw[if_pos rfl];rfl
  ·rw[if_neg e]
   simp only[List.map_cons]
   rw[ptA_old (h.resolve_left e)]
def putsA {α β:Type}(nm:α→List UInt8)(v:Nat→α→β):Nat→List α→List (List UInt8×β)→List (List UInt8×β)
 |_,[],m=>m
 |i,x::l,m=>putsA nm v (i+1) l (ptA (nm x) (v i x) m)
def pairsA {α β:Type}(nm:α→List UInt8)(v:Nat→α→β):Nat→List α→List (List UInt8×β)
 |_,[]=>[]
 |i,x::l=>(nm x,v i x)::pairsA nm v (i+1) l
section
variable {α β : Type} {nm : α → List UInt8} {v : Nat → α → β}
theorem pairsA_keys:∀(i:Nat) (l:List α),(pairsA nm v i l).map (·.1)=l.map nm
 |_,[]=>rfl
 |i,x::l=>by simp[pairsA,pairsA_keys (i+1) l]
theorem pairsA_len (i:Nat)(l:List α):(pairsA nm v i l).length=l.length:=by
 have:=congrArg List.length (pairsA_keys (nm:=nm) (v:=v) i l);simpa using this
theorem putsA_app:∀(i:Nat) (l:List α) (x:α) (m:List (List UInt8×β)),putsA nm v i (l++[x]) m=ptA (nm x) (v (i+l.length) x) (putsA nm v i l m)
 |i,[],x,m=>rfl
 |i,y::l,x,m=>by
  simp only[List.cons_append,putsA,putsA_app (i+1) l x]
  rw[show i+1+l.length=i+(y::l).length by simp;omega]
theorem putsA_nodup:∀(i:Nat) (l:List α) (m:List (List UInt8×β)),(m.map (·.1)++l.map nm).Nodup→putsA nm v i l m=m++pairsA nm v i l
 |i,[],m,_=>by simp[putsA,pairsA]
 |i,x::l,m,h=>by
  simp only[putsA,pairsA]
  have hx:nm x∉m.map (·.1):=by
   intro hm
   rw[List.nodup_append]at h
   exact h.2.2 _ hm _ (by simp) rfl
  rw[ptA_new hx,putsA_nodup (i+1) l]
  ·simp
  ·simpa using h
theorem putsA_le:∀(i:Nat) (l:List α) (m:List (List UInt8×β)),(putsA nm v i l m).length≤m.length+l.length∧(¬ (m.map (·.1)++l.map nm).Nodup→(m.map (·.1)).Nodup→(putsA nm v i l m).length<m.length+l.length)
 |i,[],m=>by simp only[putsA,List.map_nil,List.append_nil,List.length_nil];exact⟨by omega,fun h k=>absurd k h⟩
 |i,x::l,m=>by
  simp only[putsA,List.length_cons]
  by_cases hx:nm x∈m.map (·.1)
  ·have hk:=ptA_old (v:=v i x) hx
   have hl:(ptA (nm x) (v i x) m).length=m.length:=by have:=congrArg List.length hk;simpa using this
   have ih:=putsA_le (i+1) l (ptA (nm x) (v i x) m)
   rw[hl]at ih
   exact⟨by omega,fun _ _=>by omega⟩
  ·have hk:=ptA_new (v:=v i x) hx
   rw[hk]
   have ih:=putsA_le (i+1) l (m++[(nm x,v i x)])
   simp only[List.length_append,List.length_cons,List.length_nil,List.map_append,List.map_cons,List.map_nil]at ih
   refine⟨by omega,fun h k=>?_⟩
   have:=ih.2 (by simpa using h) (by
    rw[List.nodup_append]
    exact⟨k,by simp,fun a ha b hb=>by rw[List.mem_singleton]at hb;subst hb;rintro rfl;exact hx ha⟩)
   omega
theorem putsA_len (l:List α):(putsA nm v 0 l []).length=l.length↔(l.map nm).Nodup:=by
 constructor
 ·intro h
  apply Classical.byContradiction
  intro hn
  have:=(putsA_le (nm:=nm) (v:=v) 0 l []).2 (by simpa using hn) (by simp)
  simp only[List.length_nil,Nat.zero_add]at this
  omega
 ·intro h
  rw[putsA_nodup 0 l [] (by simpa using h),List.nil_append,pairsA_len]
theorem lkA_pairs {k:List UInt8}:∀(i:Nat) (l:List α),lkA k (pairsA nm v i l)=match ixT k (l.map nm)with|some j=>(l[j]?).map (v (i+j))|none=>none
 |i,[]=>rfl
 |i,x::l=>by
  simp only[pairsA,lkA,List.map_cons,ixT]
  by_cases e:k=nm x
  ·simp[e]
  ·rw[if_neg e,if_neg e,lkA_pairs (i+1) l]
   cases ixT k (l.map nm)with
   |none=>rfl
   |some j=>simp[Nat.add_assoc,Nat.add_comm 1 j]
end
end Go.Proofs.YtgdbgfjhenobdaaGreatDoor
