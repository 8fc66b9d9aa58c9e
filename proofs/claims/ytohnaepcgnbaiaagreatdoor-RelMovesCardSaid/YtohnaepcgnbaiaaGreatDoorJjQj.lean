/- Walks of functions that the claim reaches, and plain facts of them. Conditions: those in the statements. -/
import Derived.Test.YtohnaepcgnbaiaaGreatDoorJjYa
set_option linter.unusedSimpArgs false
set_option linter.unusedVariables false
set_option maxRecDepth 100000
namespace Go.Proofs.YtohnaepcgnbaiaaGreatDoor
open Go.RowKit
def lkZ {α:Type}(k:Int):List (Int×α)→Option α
 |[]=>none
 |(a,v)::r=>if k=a then some v else lkZ k r
def ptZ {α:Type}(k:Int)(v:α):List (Int×α)→List (Int×α)
 |[]=>[(k,v)]
 |(a,w)::r=>if k=a then(k,v)::r else(a,w)::ptZ k v r
def mpZ {α:Type}(enc:α→VV)(l:List (Int×α)):List (VV×VV):=l.map fun p=>(VV.int .i64 p.1,enc p.2)
theorem mget_mpZ {α:Type}{enc:α→VV}(k:Int):∀l:List (Int×α),mget (.int .i64 k) (mpZ enc l)=some ((lkZ k l).map enc)
 |[]=>rfl
 |(a,v)::r=>by
  have ih:=mget_mpZ (enc:=enc) k r
  simp only[mpZ,List.map_cons,mget,keyEq,lkZ,if_true]at ih ⊢
  by_cases h:k=a
  ·simp[h]
  ·simp only[h,decide_false,if_false];exact ih
theorem mput_mpZ {α:Type}{enc:α→VV}(k:Int)(v:α):∀l:List (Int×α),mput (.int .i64 k) (enc v) (mpZ enc l)=some (mpZ enc (ptZ k v l))
 |[]=>rfl
 |(a,w)::r=>by
  have ih:=mput_mpZ (enc:=enc) k v r
  simp only[mpZ,List.map_cons,mput,keyEq,ptZ,if_true]at ih ⊢
  by_cases h:k=a
  ·simp[h]
  ·simp only[h,decide_false,if_false,ih,Option.map_some,List.map_cons]
theorem mpZ_len {α:Type}{enc:α→VV}{l:List (Int×α)}:(mpZ enc l).length=l.length:=by simp[mpZ]
theorem lkZ_pt {α:Type}{k k':Int}{v:α}:∀{l:List (Int×α)},lkZ k (ptZ k' v l)=if k=k' then some v else lkZ k l
 |[]=>rfl
 |(a,w)::r=>by
  have ih:=lkZ_pt (k:=k) (k':=k') (v:=v) (l:=r)
  simp only[ptZ]
  by_cases h:k'=a
  ·subst h
   simp only[if_true,lkZ]
   split<;>rfl
  ·rw[if_neg h]
   simp only[lkZ]
   by_cases h2:k=a
   ·rw[if_pos h2,if_pos h2,if_neg (by rw[h2];exact fun e=>h e.symm)]
   ·rw[if_neg h2,if_neg h2,ih]
theorem ptZ_new {α:Type}{k:Int}{v:α}:∀{l:List (Int×α)},lkZ k l=none→ptZ k v l=l++[(k,v)]
 |[],_=>rfl
 |(a,w)::r,h=>by
  simp only[lkZ]at h
  split at h
  ·cases h
  ·rename_i h2
   rw[ptZ,if_neg h2,ptZ_new h]
   rfl
theorem lkZ_none {α:Type}{k:Int}:∀{l:List (Int×α)},lkZ k l=none↔k∉l.map (·.1)
 |[]=>by simp[lkZ]
 |(a,v)::r=>by
  have ih:=lkZ_none (k:=k) (l:=r)
  simp only[lkZ,List.map_cons,List.mem_cons,not_or]
  by_cases h:k=a
  ·simp[h]
  ·simp only[h,if_false,ih,not_false_eq_true,true_and]
section
variable {q qe qk : QI} {s : St} {b : Nat} {k x : VV} {ok : Bool}
theorem p_lzI {a e sz bt sz2 bt2:Nat}{zo:Bool}{zz z2:List VV}{zo2:Bool}{t:Int}{l:List (Int×Int)} :
  vlkC ⟨.map a e,sz,bt,zo,zz⟩ ⟨.int .i64,1,8,true,[.int .i64 0]⟩ ⟨.int .i64,sz2,bt2,zo2,z2⟩ (.int .i64 t) ok (.map (mpZ encI l))=some (if ok then .tup [.int .i64 ((lkZ t l).getD 0),.bool (lkZ t l).isSome] else .int .i64 ((lkZ t l).getD 0)):=by
 simp only[vlkC,kfit,mget_mpZ]
 cases lkZ t l with
 |none=>cases ok<;>rfl
 |some n=>cases ok<;>rfl
theorem p_lzB {a e sz bt sz2 bt2:Nat}{zo:Bool}{zz z2:List VV}{zo2:Bool}{t:Int}{l:List (Int×Bool)} :
  vlkC ⟨.map a e,sz,bt,zo,zz⟩ ⟨.bool,1,1,true,[.bool false]⟩ ⟨.int .i64,sz2,bt2,zo2,z2⟩ (.int .i64 t) ok (.map (mpZ encB l))=some (if ok then .tup [.bool ((lkZ t l).getD false),.bool (lkZ t l).isSome] else .bool ((lkZ t l).getD false)):=by
 simp only[vlkC,kfit,mget_mpZ]
 cases lkZ t l with
 |none=>cases ok<;>rfl
 |some n=>cases ok<;>rfl
theorem p_lenZ {α:Type}{enc:α→VV}{a e sz bt:Nat}{zo:Bool}{zz:List VV}{l:List (Int×α)}:vlenC ⟨.map a e,sz,bt,zo,zz⟩ (.map (mpZ enc l))=some (.int .i64 l.length):=by simp[vlenC,mpZ]
theorem p_uzI {a e sz bt sz2 bt2:Nat}{zo:Bool}{zz z2:List VV}{zo2:Bool}{t:Int}{n:Int}{l:List (Int×Int)} :
  vupC ⟨.map a e,sz,bt,zo,zz⟩ ⟨.int .i64,sz2,bt2,zo2,z2⟩ b (.int .i64 t) (.int .i64 n) s (.map (mpZ encI l))=some (s.set b (.map (mpZ encI (ptZ t n l)))):=by
 simp only[vupC,kfit]
 show (mput (.int .i64 t) (.int .i64 n) (mpZ encI l)).map _=_
 rw[show (VV.int .i64 n)=encI n from rfl,mput_mpZ]
 rfl
theorem p_uzB {a e sz bt sz2 bt2:Nat}{zo:Bool}{zz z2:List VV}{zo2:Bool}{t:Int}{n:Bool}{l:List (Int×Bool)} :
  vupC ⟨.map a e,sz,bt,zo,zz⟩ ⟨.int .i64,sz2,bt2,zo2,z2⟩ b (.int .i64 t) (.bool n) s (.map (mpZ encB l))=some (s.set b (.map (mpZ encB (ptZ t n l)))):=by
 simp only[vupC,kfit]
 show (mput (.int .i64 t) (.bool n) (mpZ encB l)).map _=_
 rw[show (VV.bool n)=encB n from rfl,mput_mpZ]
 rfl
end
attribute [go_sem] p_lzI p_lzB p_lenZ p_uzI p_uzB
end Go.Proofs.YtohnaepcgnbaiaaGreatDoor
