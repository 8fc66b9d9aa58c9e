/- Walks of functions that the claim reaches, and plain facts of them. Conditions: those in the statements. -/
import Derived.Test.YtohnaepcgnbaiaaGreatDoorJjGpj
set_option linter.unusedSimpArgs false
set_option linter.unusedVariables false
set_option maxRecDepth 100000
namespace Go.Proofs.YtohnaepcgnbaiaaGreatDoor
open Go.RowKit
def lkA {α:Type}(k:List UInt8):List (List UInt8×α)→Option α
 |[]=>none
 |(a,v)::r=>if k=a then some v else lkA k r
def ptA {α:Type}(k:List UInt8)(v:α):List (List UInt8×α)→List (List UInt8×α)
 |[]=>[(k,v)]
 |(a,w)::r=>if k=a then(k,v)::r else(a,w)::ptA k v r
def mpV {α:Type}(enc:α→VV)(l:List (List UInt8×α)):List (VV×VV):=l.map fun p=>(VV.str p.1,enc p.2)
def encI (n:Int):VV:=.int .i64 n
def encB (b:Bool):VV:=.bool b
theorem mget_mpV {α:Type}{enc:α→VV}(k:List UInt8):∀l:List (List UInt8×α),mget (.str k) (mpV enc l)=some ((lkA k l).map enc)
 |[]=>rfl
 |(a,v)::r=>by
  have ih:=mget_mpV (enc:=enc) k r
  simp only[mpV,List.map_cons,mget,keyEq,lkA]at ih ⊢
  by_cases h:k=a
  ·simp[h]
  ·simp only[h,decide_false,if_false];exact ih
theorem mput_mpV {α:Type}{enc:α→VV}(k:List UInt8)(v:α):∀l:List (List UInt8×α),mput (.str k) (enc v) (mpV enc l)=some (mpV enc (ptA k v l))
 |[]=>rfl
 |(a,w)::r=>by
  have ih:=mput_mpV (enc:=enc) k v r
  simp only[mpV,List.map_cons,mput,keyEq,ptA]at ih ⊢
  by_cases h:k=a
  ·simp[h]
  ·simp only[h,decide_false,if_false,ih,Option.map_some,List.map_cons]
section
variable {q qe qk : QI} {s : St} {b : Nat} {k x : VV} {ok : Bool}
def vlkC (q qe qk:QI)(k:VV)(ok:Bool)(c:Cell):Option VV:=
 match q.k with
 |.map _ _=>
  match c,kfit qk.k k with
  |.map es,true=>
   match mget k es with
   |some (some x)=>some (if ok then .tup [x,.bool true] else x)
   |some none=>(vzero qe).map fun z=>if ok then .tup [z,.bool false] else z
   |none=>none
  |_,_=>none
 |_=>none
theorem p_lk:vlookup q qe qk (.mp b) k ok s=vlkC q qe qk k ok (s b):=by
 unfold vlookup vlkC
 cases q.k<;>rfl
theorem p_lkI {a e sz bt sz2 bt2:Nat}{zo:Bool}{zz z2:List VV}{zo2:Bool}{t:List UInt8}{l:List (List UInt8×Int)} :
  vlkC ⟨.map a e,sz,bt,zo,zz⟩ ⟨.int .i64,1,8,true,[.int .i64 0]⟩ ⟨.str,sz2,bt2,zo2,z2⟩ (.str t) ok (.map (mpV encI l))=some (if ok then .tup [.int .i64 ((lkA t l).getD 0),.bool (lkA t l).isSome] else .int .i64 ((lkA t l).getD 0)):=by
 simp only[vlkC,kfit,mget_mpV]
 cases lkA t l with
 |none=>cases ok<;>rfl
 |some n=>cases ok<;>rfl
theorem p_lkB {a e sz bt sz2 bt2:Nat}{zo:Bool}{zz z2:List VV}{zo2:Bool}{t:List UInt8}{l:List (List UInt8×Bool)} :
  vlkC ⟨.map a e,sz,bt,zo,zz⟩ ⟨.bool,1,1,true,[.bool false]⟩ ⟨.str,sz2,bt2,zo2,z2⟩ (.str t) ok (.map (mpV encB l))=some (if ok then .tup [.bool ((lkA t l).getD false),.bool (lkA t l).isSome] else .bool ((lkA t l).getD false)):=by
 simp only[vlkC,kfit,mget_mpV]
 cases lkA t l with
 |none=>cases ok<;>rfl
 |some n=>cases ok<;>rfl
def vlenC (q:QI)(c:Cell):Option VV:=
 match q.k,c with
 |.map _ _,.map es=>some (.int .i64 es.length)
 |_,_=>none
theorem p_lenM {a e sz bt:Nat}{zo:Bool}{zz:List VV}:vlen ⟨.map a e,sz,bt,zo,zz⟩ (.mp b) s=vlenC ⟨.map a e,sz,bt,zo,zz⟩ (s b):=by
 simp only[vlen,vlenC]
 cases s b<;>rfl
def vupC (q qk:QI)(b:Nat)(k x:VV)(s:St)(c:Cell):Option St:=
 match q.k with
 |.map _ _=>
  match c,kfit qk.k k with
  |.map es,true=>(mput k x es).map fun es'=>s.set b (.map es')
  |_,_=>none
 |_=>none
theorem p_up:vupdate q qk (.mp b) k x s=vupC q qk b k x s (s b):=by
 unfold vupdate vupC
 cases q.k<;>rfl
theorem p_upI {a e sz bt sz2 bt2:Nat}{zo:Bool}{zz z2:List VV}{zo2:Bool}{t:List UInt8}{n:Int}{l:List (List UInt8×Int)} :
  vupC ⟨.map a e,sz,bt,zo,zz⟩ ⟨.str,sz2,bt2,zo2,z2⟩ b (.str t) (.int .i64 n) s (.map (mpV encI l))=some (s.set b (.map (mpV encI (ptA t n l)))):=by
 have:=mput_mpV (enc:=encI) t n l
 simp only[encI]at this
 simp only[vupC,kfit]
 show (mput (.str t) (.int .i64 n) (mpV encI l)).map _=_
 rw[show (VV.int .i64 n)=encI n from rfl,mput_mpV]
 rfl
theorem p_upB {a e sz bt sz2 bt2:Nat}{zo:Bool}{zz z2:List VV}{zo2:Bool}{t:List UInt8}{n:Bool}{l:List (List UInt8×Bool)} :
  vupC ⟨.map a e,sz,bt,zo,zz⟩ ⟨.str,sz2,bt2,zo2,z2⟩ b (.str t) (.bool n) s (.map (mpV encB l))=some (s.set b (.map (mpV encB (ptA t n l)))):=by
 simp only[vupC,kfit]
 show (mput (.str t) (.bool n) (mpV encB l)).map _=_
 rw[show (VV.bool n)=encB n from rfl,mput_mpV]
 rfl
end
attribute [go_sem] p_lk p_lkI p_lkB p_lenM p_up p_upI p_upB
end Go.Proofs.YtohnaepcgnbaiaaGreatDoor
