/- Walks. Conditions: in the statements. -/
import Derived.Test.YtohnaepcgnbaiaaGreatDoorJlYa
set_option linter.unusedSimpArgs false
set_option linter.unusedVariables false
set_option maxRecDepth 100000
namespace Go.Proofs.YtohnaepcgnbaiaaGreatDoor
open Go.RowKit
def lkZ {α:Type}(k:Int):List (Int×α)->Option α
 |[]=>none
 |(a,v)::r=>if k=a then some v else lkZ k r
def ptZ {α:Type}(k:Int)(v:α):List (Int×α)->List (Int×α)
 |[]=>[(k,v)]
 |(a,w)::r=>if k=a then(k,v)::r else(a,w)::ptZ k v r
def mpZ {α:Type}(enc:α->VV)(l:List (Int×α)):Tc:=l.map fun p=>(VV.int .i64 p.1,enc p.2)
theorem jR {α:Type}{enc:α->VV}(k:Int):∀l:List (Int×α),nX (.int .i64 k) (mpZ enc l)=some ((lkZ k l).map enc)
 |[]=>rfl
 |(a,v)::r=>by
  have ih:=jR (enc:=enc) k r
  simp only[mpZ,List.map_cons,nX,fW,lkZ,if_true]at ih ⊢
  by_cases h:k=a
  ·simp[h]
  ·simp only[h,decide_false,if_false];exact ih
theorem jP {α:Type}{enc:α->VV}(k:Int)(v:α):∀l:List (Int×α),im (.int .i64 k) (enc v) (mpZ enc l)=some (mpZ enc (ptZ k v l))
 |[]=>rfl
 |(a,w)::r=>by
  have ih:=jP (enc:=enc) k v r
  simp only[mpZ,List.map_cons,im,fW,ptZ,if_true]at ih ⊢
  by_cases h:k=a
  ·simp[h]
  ·simp only[h,decide_false,if_false,ih,Option.map_some,List.map_cons]
theorem ED {α:Type}{enc:α->VV}{l:List (Int×α)}:(mpZ enc l).length=l.length:=by simp[mpZ]
theorem nZ {α:Type}{k k':Int}{v:α}:∀{l:List (Int×α)},lkZ k (ptZ k' v l)=if k=k' then some v else lkZ k l
 |[]=>rfl
 |(a,w)::r=>by
  have ih:=nZ (k:=k) (k':=k') (v:=v) (l:=r)
  simp only[ptZ]
  by_cases h:k'=a
  ·subst h
   simp only[if_true,lkZ]
   split<;>rfl
  ·rw[if_neg h]
   simp only[lkZ]
   by_cases h2:k=a
   ·rw[if_pos h2,if_pos h2,if_neg (by rw[h2];exact fun e=>h e.symm)]
   ·rw[if_neg h2,if_neg h2,ih]
theorem jI {α:Type}{k:Int}{v:α}:∀{l:List (Int×α)},lkZ k l=none->ptZ k v l=l++[(k,v)]
 |[],_=>rfl
 |(a,w)::r,h=>by
  simp only[lkZ]at h
  split at h
  ·cases h
  ·rename_i h2
   rw[ptZ,if_neg h2,jI h]
   rfl
theorem fV {α:Type}{k:Int}:∀{l:List (Int×α)},lkZ k l=none↔k∉l.map (·.1)
 |[]=>by simp[lkZ]
 |(a,v)::r=>by
  have ih:=fV (k:=k) (l:=r)
  simp only[lkZ,List.map_cons,AT,not_or]
  by_cases h:k=a
  ·simp[h]
  ·simp only[h,if_false,ih,not_false_eq_true,true_and]
section
variable {q qe qk : QI} {s : St} {b : Nat} {k x : VV} {ok : Bool}
theorem OJ {a e sz bt sz2 bt2:Nat}{zo:Bool}{zz z2:Tb}{zo2:Bool}{t:Int}{l:TY} :
  lZ ⟨.map a e,sz,bt,zo,zz⟩ ⟨.int .i64,1,8,true,[.int .i64 0]⟩ ⟨.int .i64,sz2,bt2,zo2,z2⟩ (.int .i64 t) ok (.map (mpZ cL l))=some (if ok then .tup [.int .i64 ((lkZ t l).getD 0),.bool (lkZ t l).isSome] else .int .i64 ((lkZ t l).getD 0)):=by
 simp only[lZ,dN,jR]
 cases lkZ t l with
 |none=>cases ok<;>rfl
 |some n=>cases ok<;>rfl
theorem OK {a e sz bt sz2 bt2:Nat}{zo:Bool}{zz z2:Tb}{zo2:Bool}{t:Int}{l:List (Int×Bool)} :
  lZ ⟨.map a e,sz,bt,zo,zz⟩ ⟨.bool,1,1,true,[.bool false]⟩ ⟨.int .i64,sz2,bt2,zo2,z2⟩ (.int .i64 t) ok (.map (mpZ bP l))=some (if ok then .tup [.bool ((lkZ t l).getD false),.bool (lkZ t l).isSome] else .bool ((lkZ t l).getD false)):=by
 simp only[lZ,dN,jR]
 cases lkZ t l with
 |none=>cases ok<;>rfl
 |some n=>cases ok<;>rfl
theorem KN {α:Type}{enc:α->VV}{a e sz bt:Nat}{zo:Bool}{zz:Tb}{l:List (Int×α)}:wB ⟨.map a e,sz,bt,zo,zz⟩ (.map (mpZ enc l))=some (.int .i64 l.length):=by simp[wB,mpZ]
theorem N7 {a e sz bt sz2 bt2:Nat}{zo:Bool}{zz z2:Tb}{zo2:Bool}{t:Int}{n:Int}{l:TY} :
  lX ⟨.map a e,sz,bt,zo,zz⟩ ⟨.int .i64,sz2,bt2,zo2,z2⟩ b (.int .i64 t) (.int .i64 n) s (.map (mpZ cL l))=some (s.set b (.map (mpZ cL (ptZ t n l)))):=by
 simp only[lX,dN]
 show (im (.int .i64 t) (.int .i64 n) (mpZ cL l)).map _=_
 rw[show (VV.int .i64 n)=cL n from rfl,jP]
 rfl
theorem N8 {a e sz bt sz2 bt2:Nat}{zo:Bool}{zz z2:Tb}{zo2:Bool}{t:Int}{n:Bool}{l:List (Int×Bool)} :
  lX ⟨.map a e,sz,bt,zo,zz⟩ ⟨.int .i64,sz2,bt2,zo2,z2⟩ b (.int .i64 t) (.bool n) s (.map (mpZ bP l))=some (s.set b (.map (mpZ bP (ptZ t n l)))):=by
 simp only[lX,dN]
 show (im (.int .i64 t) (.bool n) (mpZ bP l)).map _=_
 rw[show (VV.bool n)=bP n from rfl,jP]
 rfl
end
attribute [go_sem] OJ OK KN N7 N8
end Go.Proofs.YtohnaepcgnbaiaaGreatDoor
