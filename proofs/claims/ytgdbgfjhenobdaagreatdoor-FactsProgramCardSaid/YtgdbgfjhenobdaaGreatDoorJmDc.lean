/- Walks of functions that the claim reaches, and plain facts of them. Conditions: those in the statements. -/
import Derived.Test.YtgdbgfjhenobdaaGreatDoorJmYaj
set_option linter.unusedSimpArgs false
set_option linter.unusedVariables false
set_option maxRecDepth 100000
namespace Go.Proofs.YtgdbgfjhenobdaaGreatDoor
open Go.RowKit
def lkU (k:Int):List (Int×Int)→Option Int
 |[]=>none
 |(a,v)::r=>if k=a then some v else lkU k r
def ptU (k v:Int):List (Int×Int)→List (Int×Int)
 |[]=>[(k,v)]
 |(a,w)::r=>if k=a then(k,v)::r else(a,w)::ptU k v r
def mpU (l:List (Int×Int)):List (VV×VV):=l.map fun p=>(VV.int .u8 p.1,encI p.2)
theorem mget_mpU (k:Int):∀l:List (Int×Int),mget (.int .u8 k) (mpU l)=some ((lkU k l).map encI)
 |[]=>rfl
 |(a,v)::r=>by
  have ih:=mget_mpU k r
  simp only[mpU,List.map_cons,mget,keyEq,lkU,if_true]at ih ⊢
  by_cases h:k=a
  ·simp[h]
  ·simp only[h,decide_false,if_false];exact ih
theorem mput_mpU (k v:Int):∀l:List (Int×Int),mput (.int .u8 k) (encI v) (mpU l)=some (mpU (ptU k v l))
 |[]=>rfl
 |(a,w)::r=>by
  have ih:=mput_mpU k v r
  simp only[mpU,List.map_cons,mput,keyEq,ptU,if_true]at ih ⊢
  by_cases h:k=a
  ·simp[h]
  ·simp only[h,decide_false,if_false,ih,Option.map_some,List.map_cons]
section
variable {s : St} {b : Nat} {ok : Bool}
theorem p_luI {a e sz bt sz2 bt2:Nat}{zo:Bool}{zz z2:List VV}{zo2:Bool}{t:Int}{l:List (Int×Int)} :
  vlkC ⟨.map a e,sz,bt,zo,zz⟩ ⟨.int .i64,1,8,true,[.int .i64 0]⟩ ⟨.int .u8,sz2,bt2,zo2,z2⟩ (.int .u8 t) ok (.map (mpU l))=some (if ok then .tup [.int .i64 ((lkU t l).getD 0),.bool (lkU t l).isSome] else .int .i64 ((lkU t l).getD 0)):=by
 simp only[vlkC,kfit,mget_mpU]
 cases lkU t l with
 |none=>cases ok<;>rfl
 |some n=>cases ok<;>rfl
theorem p_uuI {a e sz bt sz2 bt2:Nat}{zo:Bool}{zz z2:List VV}{zo2:Bool}{t:Int}{n:Int}{l:List (Int×Int)} :
  vupC ⟨.map a e,sz,bt,zo,zz⟩ ⟨.int .u8,sz2,bt2,zo2,z2⟩ b (.int .u8 t) (.int .i64 n) s (.map (mpU l))=some (s.set b (.map (mpU (ptU t n l)))):=by
 simp only[vupC,kfit]
 show (mput (.int .u8 t) (.int .i64 n) (mpU l)).map _=_
 rw[show (VV.int .i64 n)=encI n from rfl,mput_mpU]
 rfl
end
attribute [go_sem] p_luI p_uuI
end Go.Proofs.YtgdbgfjhenobdaaGreatDoor
