/- Walks. Conditions: in the statements. -/
import Derived.Test.YtohnaepcgnbaiaaGreatDoorJlGpj
set_option linter.unusedSimpArgs false
set_option linter.unusedVariables false
set_option maxRecDepth 100000
namespace Go.Proofs.YtohnaepcgnbaiaaGreatDoor
open Go.RowKit
def lkA {α:Type}(k:TT):List (TT×α)->Option α
 |[]=>none
 |(a,v)::r=>if k=a then some v else lkA k r
def ptA {α:Type}(k:TT)(v:α):List (TT×α)->List (TT×α)
 |[]=>[(k,v)]
 |(a,w)::r=>if k=a then(k,v)::r else(a,w)::ptA k v r
def mpV {α:Type}(enc:α->VV)(l:List (TT×α)):Tc:=l.map fun p=>(VV.str p.1,enc p.2)
def cL (n:Int):VV:=.int .i64 n
def bP (b:Bool):VV:=.bool b
theorem nW {α:Type}{enc:α->VV}(k:TT):∀l:List (TT×α),nX (.str k) (mpV enc l)=some ((lkA k l).map enc)
 |[]=>rfl
 |(a,v)::r=>by
  have ih:=nW (enc:=enc) k r
  simp only[mpV,List.map_cons,nX,fW,lkA]at ih ⊢
  by_cases h:k=a
  ·simp[h]
  ·simp only[h,decide_false,if_false];exact ih
theorem jQ {α:Type}{enc:α->VV}(k:TT)(v:α):∀l:List (TT×α),im (.str k) (enc v) (mpV enc l)=some (mpV enc (ptA k v l))
 |[]=>rfl
 |(a,w)::r=>by
  have ih:=jQ (enc:=enc) k v r
  simp only[mpV,List.map_cons,im,fW,ptA]at ih ⊢
  by_cases h:k=a
  ·simp[h]
  ·simp only[h,decide_false,if_false,ih,Option.map_some,List.map_cons]
section
variable {q qe qk : QI} {s : St} {b : Nat} {k x : VV} {ok : Bool}
def lZ (q qe qk:QI)(k:VV)(ok:Bool)(c:Cell):Option VV:=
 match q.k with
 |.map _ _=>
  match c,dN qk.k k with
  |.map es,true=>
   match nX k es with
   |some (some x)=>some (if ok then .tup [x,.bool true] else x)
   |some none=>(wg qe).map fun z=>if ok then .tup [z,.bool false] else z
   |none=>none
  |_,_=>none
 |_=>none
theorem p_lk:ez q qe qk (.mp b) k ok s=lZ q qe qk k ok (s b):=by
 unfold ez lZ
 cases q.k<;>rfl
theorem ON {a e sz bt sz2 bt2:Nat}{zo:Bool}{zz z2:Tb}{zo2:Bool}{t:TT}{l:List (TT×Int)} :
  lZ ⟨.map a e,sz,bt,zo,zz⟩ ⟨.int .i64,1,8,true,[.int .i64 0]⟩ ⟨.str,sz2,bt2,zo2,z2⟩ (.str t) ok (.map (mpV cL l))=some (if ok then .tup [.int .i64 ((lkA t l).getD 0),.bool (lkA t l).isSome] else .int .i64 ((lkA t l).getD 0)):=by
 simp only[lZ,dN,nW]
 cases lkA t l with
 |none=>cases ok<;>rfl
 |some n=>cases ok<;>rfl
theorem OO {a e sz bt sz2 bt2:Nat}{zo:Bool}{zz z2:Tb}{zo2:Bool}{t:TT}{l:List (TT×Bool)} :
  lZ ⟨.map a e,sz,bt,zo,zz⟩ ⟨.bool,1,1,true,[.bool false]⟩ ⟨.str,sz2,bt2,zo2,z2⟩ (.str t) ok (.map (mpV bP l))=some (if ok then .tup [.bool ((lkA t l).getD false),.bool (lkA t l).isSome] else .bool ((lkA t l).getD false)):=by
 simp only[lZ,dN,nW]
 cases lkA t l with
 |none=>cases ok<;>rfl
 |some n=>cases ok<;>rfl
def wB (q:QI)(c:Cell):Option VV:=
 match q.k,c with
 |.map _ _,.map es=>some (.int .i64 es.length)
 |_,_=>none
theorem KO {a e sz bt:Nat}{zo:Bool}{zz:Tb}:db ⟨.map a e,sz,bt,zo,zz⟩ (.mp b) s=wB ⟨.map a e,sz,bt,zo,zz⟩ (s b):=by
 simp only[db,wB]
 cases s b<;>rfl
def lX (q qk:QI)(b:Nat)(k x:VV)(s:St)(c:Cell):Option St:=
 match q.k with
 |.map _ _=>
  match c,dN qk.k k with
  |.map es,true=>(im k x es).map fun es'=>s.set b (.map es')
  |_,_=>none
 |_=>none
theorem p_up:gi q qk (.mp b) k x s=lX q qk b k x s (s b):=by
 unfold gi lX
 cases q.k<;>rfl
theorem Ob {a e sz bt sz2 bt2:Nat}{zo:Bool}{zz z2:Tb}{zo2:Bool}{t:TT}{n:Int}{l:List (TT×Int)} :
  lX ⟨.map a e,sz,bt,zo,zz⟩ ⟨.str,sz2,bt2,zo2,z2⟩ b (.str t) (.int .i64 n) s (.map (mpV cL l))=some (s.set b (.map (mpV cL (ptA t n l)))):=by
 have:=jQ (enc:=cL) t n l
 simp only[cL]at this
 simp only[lX,dN]
 show (im (.str t) (.int .i64 n) (mpV cL l)).map _=_
 rw[show (VV.int .i64 n)=cL n from rfl,jQ]
 rfl
theorem Oc {a e sz bt sz2 bt2:Nat}{zo:Bool}{zz z2:Tb}{zo2:Bool}{t:TT}{n:Bool}{l:List (TT×Bool)} :
  lX ⟨.map a e,sz,bt,zo,zz⟩ ⟨.str,sz2,bt2,zo2,z2⟩ b (.str t) (.bool n) s (.map (mpV bP l))=some (s.set b (.map (mpV bP (ptA t n l)))):=by
 simp only[lX,dN]
 show (im (.str t) (.bool n) (mpV bP l)).map _=_
 rw[show (VV.bool n)=bP n from rfl,jQ]
 rfl
end
attribute [go_sem] p_lk ON OO KO p_up Ob Oc
end Go.Proofs.YtohnaepcgnbaiaaGreatDoor
