/- Walks of functions, and plain facts. Conditions: those in the statements. -/
import Derived.Test.YteldpmgepfaiiaaGreatDoorQsGpj
set_option linter.unusedSimpArgs false
set_option linter.unusedVariables false
set_option maxRecDepth 100000
namespace Go.Proofs.YteldpmgepfaiiaaGreatDoor
open Go.RowKit
def lkA {α:Type}(k:List UInt8):List (List UInt8×α)->Option α
 |[]=>none
 |(a,v)::r=>if k=a then some v else lkA k r
def ptA {α:Type}(k:List UInt8)(v:α):List (List UInt8×α)->List (List UInt8×α)
 |[]=>[(k,v)]
 |(a,w)::r=>if k=a then(k,v)::r else(a,w)::ptA k v r
def mpV {α:Type}(enc:α->VV)(l:List (List UInt8×α)):List (VV×VV):=l.map fun p=>(VV.str p.1,enc p.2)
def bL (n:Int):VV:=.int .i64 n
def cW (b:Bool):VV:=.bool b
theorem nW {α:Type}{enc:α->VV}(k:List UInt8):∀l:List (List UInt8×α),rm (.str k) (mpV enc l)=some ((lkA k l).map enc)
 |[]=>rfl
 |(a,v)::r=>by
  have ih:=nW (enc:=enc) k r
  simp only[mpV,List.map_cons,rm,kN,lkA]at ih ⊢
  by_cases h:k=a
  ·simp[h]
  ·simp only[h,decide_false,if_false];exact ih
theorem kJ {α:Type}{enc:α->VV}(k:List UInt8)(v:α):∀l:List (List UInt8×α),mF (.str k) (enc v) (mpV enc l)=some (mpV enc (ptA k v l))
 |[]=>rfl
 |(a,w)::r=>by
  have ih:=kJ (enc:=enc) k v r
  simp only[mpV,List.map_cons,mF,kN,ptA]at ih ⊢
  by_cases h:k=a
  ·simp[h]
  ·simp only[h,decide_false,if_false,ih,Option.map_some,List.map_cons]
section
variable {q qe qk : QI} {s : St} {b : Nat} {k x : VV} {ok : Bool}
def yu (q qe qk:QI)(k:VV)(ok:Bool)(c:Cell):Option VV:=
 match q.k with
 |.map _ _=>
  match c,gP qk.k k with
  |.map es,true=>
   match rm k es with
   |some (some x)=>some (if ok then .tup [x,.bool true] else x)
   |some none=>(wn qe).map fun z=>if ok then .tup [z,.bool false] else z
   |none=>none
  |_,_=>none
 |_=>none
theorem p_lk:fB q qe qk (.mp b) k ok s=yu q qe qk k ok (s b):=by
 unfold fB yu
 cases q.k<;>rfl
theorem Ln {a e sz bt sz2 bt2:Nat}{zo:Bool}{zz z2:List VV}{zo2:Bool}{t:List UInt8}{l:List (List UInt8×Int)} :
  yu ⟨.map a e,sz,bt,zo,zz⟩ ⟨.int .i64,1,8,true,[.int .i64 0]⟩ ⟨.str,sz2,bt2,zo2,z2⟩ (.str t) ok (.map (mpV bL l))=some (if ok then .tup [.int .i64 ((lkA t l).getD 0),.bool (lkA t l).isSome] else .int .i64 ((lkA t l).getD 0)):=by
 simp only[yu,gP,nW]
 cases lkA t l with
 |none=>cases ok<;>rfl
 |some n=>cases ok<;>rfl
theorem Lo {a e sz bt sz2 bt2:Nat}{zo:Bool}{zz z2:List VV}{zo2:Bool}{t:List UInt8}{l:List (List UInt8×Bool)} :
  yu ⟨.map a e,sz,bt,zo,zz⟩ ⟨.bool,1,1,true,[.bool false]⟩ ⟨.str,sz2,bt2,zo2,z2⟩ (.str t) ok (.map (mpV cW l))=some (if ok then .tup [.bool ((lkA t l).getD false),.bool (lkA t l).isSome] else .bool ((lkA t l).getD false)):=by
 simp only[yu,gP,nW]
 cases lkA t l with
 |none=>cases ok<;>rfl
 |some n=>cases ok<;>rfl
def wq (q:QI)(c:Cell):Option VV:=
 match q.k,c with
 |.map _ _,.map es=>some (.int .i64 es.length)
 |_,_=>none
theorem ID {a e sz bt:Nat}{zo:Bool}{zz:List VV}:jT ⟨.map a e,sz,bt,zo,zz⟩ (.mp b) s=wq ⟨.map a e,sz,bt,zo,zz⟩ (s b):=by
 simp only[jT,wq]
 cases s b<;>rfl
theorem DI {α:Type}{enc:α->VV}{a e sz bt:Nat}{zo:Bool}{zz:List VV}{l:List (List UInt8×α)}:wq ⟨.map a e,sz,bt,zo,zz⟩ (.map (mpV enc l))=some (.int .i64 l.length):=by simp[wq,mpV]
def yq (q qk:QI)(b:Nat)(k x:VV)(s:St)(c:Cell):Option St:=
 match q.k with
 |.map _ _=>
  match c,gP qk.k k with
  |.map es,true=>(mF k x es).map fun es'=>s.set b (.map es')
  |_,_=>none
 |_=>none
theorem p_up:gX q qk (.mp b) k x s=yq q qk b k x s (s b):=by
 unfold gX yq
 cases q.k<;>rfl
theorem KN {a e sz bt sz2 bt2:Nat}{zo:Bool}{zz z2:List VV}{zo2:Bool}{t:List UInt8}{n:Int}{l:List (List UInt8×Int)} :
  yq ⟨.map a e,sz,bt,zo,zz⟩ ⟨.str,sz2,bt2,zo2,z2⟩ b (.str t) (.int .i64 n) s (.map (mpV bL l))=some (s.set b (.map (mpV bL (ptA t n l)))):=by
 have:=kJ (enc:=bL) t n l
 simp only[bL]at this
 simp only[yq,gP]
 show (mF (.str t) (.int .i64 n) (mpV bL l)).map _=_
 rw[show (VV.int .i64 n)=bL n from rfl,kJ]
 rfl
theorem KO {a e sz bt sz2 bt2:Nat}{zo:Bool}{zz z2:List VV}{zo2:Bool}{t:List UInt8}{n:Bool}{l:List (List UInt8×Bool)} :
  yq ⟨.map a e,sz,bt,zo,zz⟩ ⟨.str,sz2,bt2,zo2,z2⟩ b (.str t) (.bool n) s (.map (mpV cW l))=some (s.set b (.map (mpV cW (ptA t n l)))):=by
 simp only[yq,gP]
 show (mF (.str t) (.bool n) (mpV cW l)).map _=_
 rw[show (VV.bool n)=cW n from rfl,kJ]
 rfl
end
attribute [go_sem] p_lk Ln Lo ID DI p_up KN KO
def ixT (k:List UInt8):List (List UInt8)->Option Nat
 |[]=>none
 |a::r=>if k=a then some 0 else(ixT k r).map (·+1)
structure Edg where
 h:Nat
 b:Nat
 w:Nat
def Sol (E:List Edg)(f:Nat->Nat):Prop:=∀e,e∈E->f e.b+e.w<=f e.h
def InE (n:Nat)(E:List Edg):Prop:=∀e,e∈E->e.h<n/\e.b<n
def gt (l:List Nat)(i:Nat):Nat:=l[i]?.getD 0
def fA (E:List Edg)(l:List Nat):Prop:=∀f,Sol E f->∀i,gt l i<=f i
def gU (n:Nat)(E:List Edg)(l:List Nat):Prop:=l.length=n/\Sol E (gt l)/\fA E l/\∀i,i<n->gt l i<n
def FA (n:Nat)(E:List Edg):Prop:=∀f,Sol E f->∃i,i<n/\n<=f i
theorem mu {l:List Nat}{i:Nat}(h:i<l.length):l[i]?=some (gt l i):=by
 unfold gt;rw[b_ h];rfl
theorem Ja {l:List Nat}{i:Nat}(h:l.length<=i):gt l i=0:=by
 unfold gt;rw[C_ h];rfl
theorem i8 {l:List Nat}{i j v:Nat}(h:i<l.length):gt (l.set i v) j=if j=i then v else gt l j:=by
 unfold gt
 rw[List.getElem?_set]
 by_cases e:i=j
 ·subst e;rw[if_pos rfl,if_pos rfl,if_pos h];rfl
 ·rw[if_neg e,if_neg (fun x=>e x.symm)]
theorem zi {n:Nat}{E:List Edg}{l m:List Nat}(h:gU n E l)(k:gU n E m):l=m:=by
 apply List.ext_getElem?
 intro i
 by_cases hi:i<n
 ·rw[mu (by rw[h.1];exact hi),mu (by rw[k.1];exact hi)]
  have h1:=h.2.2.1 _ k.2.1 i
  have h2:=k.2.2.1 _ h.2.1 i
  congr 1;omega
 ·rw[C_ (by rw[h.1];omega),C_ (by rw[k.1];omega)]
open Classical in
noncomputable def stg (n:Nat)(E:List Edg):Option (List Nat):=if h:∃l,gU n E l then some h.choose else none
theorem iP {n:Nat}{E:List Edg}{l:List Nat}(h:gU n E l):stg n E=some l:=by
 unfold stg
 rw[dif_pos ⟨l,h⟩]
 congr 1
 exact zi (Exists.choose_spec (p:=fun l=>gU n E l) ⟨l,h⟩) h
theorem jp {n:Nat}{E:List Edg}{l:List Nat}(h:stg n E=some l):gU n E l:=by
 unfold stg at h
 split at h
 ·rename_i hx
  injection h with h
  rw[<- h]
  exact hx.choose_spec
 ·cases h
theorem sm {n:Nat}{E:List Edg}(h:FA n E):stg n E=none:=by
 unfold stg
 rw[dif_neg]
 rintro⟨l,hl⟩
 obtain⟨i,hi,hn⟩:=h _ hl.2.1
 have:=hl.2.2.2 i hi
 omega
theorem nh (E:List Edg)(n:Nat):fA E (List.replicate n 0):=fun f _ i=>by
 have:gt (List.replicate n 0) i=0:=by
  unfold gt
  rw[List.getElem?_replicate]
  split<;>rfl
 omega
theorem yx {E:List Edg}{l:List Nat}{e:Edg}(h:fA E l)(he:e∈E)(hl:e.h<l.length):fA E (l.set e.h (gt l e.b+e.w)):=fun f hf i=>by
 rw[i8 hl]
 split
 ·rename_i hi
  subst hi
  have h1:=h f hf e.b
  have h2:=hf e he
  omega
 ·exact h f hf i
theorem lZ {n:Nat}{E:List Edg}{l:List Nat}{i:Nat}(h:fA E l)(hi:i<n)(hn:n<=gt l i):FA n E:=fun f hf=>⟨i,hi,Nat.le_trans hn (h f hf i)⟩
theorem Ad {n m:Nat}:∀(l:List Nat),l.length=n->(∀i,i<n->gt l i<=m)->l.sum<=n*m:=by
 induction n with
 |zero=>intro l hl _;have:=t_ hl;subst this;simp
 |succ n ih=>
  intro l hl h
  cases l with
  |nil=>simp at hl
  |cons x l=>
   have h0:=h 0 (by omega)
   have h1:=ih l (by simpa using hl) (fun i hi=>by have:=h (i+1) (by omega);simpa [gt]using this)
   simp only[gt,List.getElem?_cons_zero,Option.getD_some]at h0
   rw[List.sum_cons,Nat.succ_mul]
   omega
theorem wA:∀(l:List Nat) (i v:Nat),i<l.length->(l.set i v).sum+gt l i=l.sum+v
 |[],i,v,h=>by simp at h
 |x::l,0,v,h=>by simp[gt];omega
 |x::l,i+1,v,h=>by
  have:=wA l i v (by simpa using h)
  simp only[List.set_cons_succ,List.sum_cons,gt,List.getElem?_cons_succ]at this ⊢
  omega
theorem aH {s:St}:s.disown .full=s:=rfl
theorem aV {s:St}{T sz n:Nat}:eB s .full T sz n=(n=0):=rfl
theorem cH {s:St}{T sz n:Nat}:s.own .full T sz n=s:=rfl
theorem aN {α:Type}{l:List α}{i:Nat}(h:i<l.length):∃x,l[i]?=some x:=⟨_,b_ h⟩
theorem bY {α:Type}{l:List α}{i:Nat}{x:α}(h:l[i]?=some x):l.take (i+1)=l.take i++[x]:=by rw[List.take_add_one,h];rfl
theorem bE {α:Type}{l:List α}{p:α->Bool}{i:Nat}{x:α}(h:(l.take i).all p=true)(hx:l[i]?=some x)(hp:p x=true):(l.take (i+1)).all p=true:=by
 rw[bY hx,List.all_append,h];simp[hp]
theorem bO {α:Type}{l:List α}{p:α->Bool}{i:Nat}{x:α}(hx:l[i]?=some x)(hp:p x=false):l.all p=false:=by
 cases h:l.all p with
 |false=>rfl
 |true=>rw[List.all_eq_true.1 h x (p_ hx)]at hp;cases hp
theorem cI {k:List UInt8}:∀{l:List (List UInt8)} {i:Nat},ixT k l=some i->l[i]?=some k
 |[],i,h=>by cases h
 |a::r,i,h=>by
  simp only[ixT]at h
  split at h
  ·rename_i e;injection h with h;subst h;simp[e]
  ·obtain⟨j,hj,rfl⟩:=Option.map_eq_some_iff.1 h
   simpa using cI hj
theorem eN {k:List UInt8}:∀{l:List (List UInt8)},ixT k l=none↔k∉l
 |[]=>by simp[ixT]
 |a::r=>by
  have ih:=eN (k:=k) (l:=r)
  simp only[ixT]
  by_cases e:k=a
  ·simp[e]
  ·rw[if_neg e,Option.map_eq_none_iff,ih,F_]
   simp[e]
theorem xr {k:List UInt8}:∀{l m:List (List UInt8)},ixT k (l++m)=match ixT k l with|some i=>some i|none=>(ixT k m).map (·+l.length)
 |[],m=>by simp[ixT]
 |a::r,m=>by
  simp only[List.cons_append,ixT]
  by_cases e:k=a
  ·simp[e]
  ·rw[if_neg e,if_neg e,xr]
   cases ixT k r with
   |some i=>rfl
   |none=>cases ixT k m<;>simp[Nat.add_assoc]
theorem xo {α:Type}{k a:List UInt8}{v:α}:∀{l:List (List UInt8×α)},lkA a (ptA k v l)=if a=k then some v else lkA a l
 |[]=>by simp[ptA,lkA]
 |(b,w)::r=>by
  have ih:=xo (k:=k) (a:=a) (v:=v) (l:=r)
  simp only[ptA]
  by_cases e:k=b
  ·subst e
   rw[if_pos rfl]
   simp only[lkA]
   by_cases e2:a=k<;>simp[e2]
  ·rw[if_neg e]
   simp only[lkA]
   by_cases e2:a=b
   ·subst e2
    rw[if_pos rfl,if_pos rfl,if_neg (fun x=>e x.symm)]
   ·rw[if_neg e2,if_neg e2,ih]
theorem mM {α:Type}{k:List UInt8}{v:α}:∀{l:List (List UInt8×α)},k∉l.map (·.1)->ptA k v l=l++[(k,v)]
 |[],_=>rfl
 |(b,w)::r,h=>by
  simp only[List.map_cons,F_,not_or]at h
  simp only[ptA]
  rw[if_neg h.1,mM h.2]
  rfl
theorem wY {α:Type}{k:List UInt8}{v:α}:∀{l:List (List UInt8×α)},k∈l.map (·.1)->(ptA k v l).map (·.1)=l.map (·.1)
 |[],h=>by cases h
 |(b,w)::r,h=>by
  simp only[List.map_cons,F_]at h
  simp only[ptA]
  by_cases e:k=b
  ·subst e;rw[if_pos rfl];rfl
  ·rw[if_neg e]
   simp only[List.map_cons]
   rw[wY (h.resolve_left e)]
def fS {α β:Type}(nm:α->List UInt8)(v:Nat->α->β):Nat->List α->List (List UInt8×β)->List (List UInt8×β)
 |_,[],m=>m
 |i,x::l,m=>fS nm v (i+1) l (ptA (nm x) (v i x) m)
def dO {α β:Type}(nm:α->List UInt8)(v:Nat->α->β):Nat->List α->List (List UInt8×β)
 |_,[]=>[]
 |i,x::l=>(nm x,v i x)::dO nm v (i+1) l
section
variable {α β : Type} {nm : α -> List UInt8} {v : Nat -> α -> β}
theorem iV:∀(i:Nat) (l:List α),(dO nm v i l).map (·.1)=l.map nm
 |_,[]=>rfl
 |i,x::l=>by simp[dO,iV (i+1) l]
theorem ve (i:Nat)(l:List α):(dO nm v i l).length=l.length:=by
 have:=congrArg List.length (iV (nm:=nm) (v:=v) i l);simpa using this
theorem ju:∀(i:Nat) (l:List α) (x:α) (m:List (List UInt8×β)),fS nm v i (l++[x]) m=ptA (nm x) (v (i+l.length) x) (fS nm v i l m)
 |i,[],x,m=>rfl
 |i,y::l,x,m=>by
  simp only[List.cons_append,fS,ju (i+1) l x]
  rw[show i+1+l.length=i+(y::l).length by simp;omega]
theorem fj:∀(i:Nat) (l:List α) (m:List (List UInt8×β)),(m.map (·.1)++l.map nm).Nodup->fS nm v i l m=m++dO nm v i l
 |i,[],m,_=>by simp[fS,dO]
 |i,x::l,m,h=>by
  simp only[fS,dO]
  have hx:nm x∉m.map (·.1):=by
   intro hm
   rw[List.nodup_append]at h
   exact h.2.2 _ hm _ (by simp) rfl
  rw[mM hx,fj (i+1) l]
  ·simp
  ·simpa using h
theorem nN:∀(i:Nat) (l:List α) (m:List (List UInt8×β)),(fS nm v i l m).length<=m.length+l.length/\(¬ (m.map (·.1)++l.map nm).Nodup->(m.map (·.1)).Nodup->(fS nm v i l m).length<m.length+l.length)
 |i,[],m=>by simp only[fS,List.map_nil,List.append_nil,List.length_nil];exact⟨by omega,fun h k=>absurd k h⟩
 |i,x::l,m=>by
  simp only[fS,List.length_cons]
  by_cases hx:nm x∈m.map (·.1)
  ·have hk:=wY (v:=v i x) hx
   have hl:(ptA (nm x) (v i x) m).length=m.length:=by have:=congrArg List.length hk;simpa using this
   have ih:=nN (i+1) l (ptA (nm x) (v i x) m)
   rw[hl]at ih
   exact⟨by omega,fun _ _=>by omega⟩
  ·have hk:=mM (v:=v i x) hx
   rw[hk]
   have ih:=nN (i+1) l (m++[(nm x,v i x)])
   simp only[d_,List.length_cons,List.length_nil,List.map_append,List.map_cons,List.map_nil]at ih
   refine⟨by omega,fun h k=>?_⟩
   have:=ih.2 (by simpa using h) (by
    rw[List.nodup_append]
    exact⟨k,by simp,fun a ha b hb=>by rw[e_]at hb;subst hb;rintro rfl;exact hx ha⟩)
   omega
theorem pU (l:List α):(fS nm v 0 l []).length=l.length↔(l.map nm).Nodup:=by
 constructor
 ·intro h
  apply Classical.byContradiction
  intro hn
  have:=(nN (nm:=nm) (v:=v) 0 l []).2 (by simpa using hn) (by simp)
  simp only[List.length_nil,Nat.zero_add]at this
  omega
 ·intro h
  rw[fj 0 l [] (by simpa using h),List.nil_append,ve]
theorem jw {k:List UInt8}:∀(i:Nat) (l:List α),lkA k (dO nm v i l)=match ixT k (l.map nm)with|some j=>(l[j]?).map (v (i+j))|none=>none
 |i,[]=>rfl
 |i,x::l=>by
  simp only[dO,lkA,List.map_cons,ixT]
  by_cases e:k=nm x
  ·simp[e]
  ·rw[if_neg e,if_neg e,jw (i+1) l]
   cases ixT k (l.map nm)with
   |none=>rfl
   |some j=>simp[Nat.add_assoc,Nat.add_comm 1 j]
end
def fR (l:List Nat)(e:Edg):List Nat:=l.set e.h (max (gt l e.h) (gt l e.b+e.w))
def cG (E:List Edg)(l:List Nat):List Nat:=E.foldl fR l
def jO (n:Nat)(l:List Nat):Bool:=l.any fun v=>decide (n<=v)
def qI (n:Nat)(E:List Edg):Nat->List Nat->Option (List Nat)
 |0,_=>none
 |f+1,l=>if jO n (cG E l)=true then none else if cG E l=l then some l else qI n E f (cG E l)
theorem lx {l:List Nat}{e:Edg}:(fR l e).length=l.length:=by simp[fR]
theorem risesL_len {E:List Edg}:∀{l:List Nat},(cG E l).length=l.length:=by
 unfold cG
 induction E with
 |nil=>intro l;rfl
 |cons e E ih=>intro l;rw[List.foldl_cons,ih,lx]
theorem sN {l:List Nat}{e:Edg}(i:Nat):gt l i<=gt (fR l e) i:=by
 unfold fR
 by_cases h:e.h<l.length
 ·rw[i8 h]
  split
  ·rename_i h2;subst h2;exact Nat.le_max_left _ _
  ·exact Nat.le_refl _
 ·rw[List.set_eq_of_length_le (by omega)];exact Nat.le_refl _
theorem pN {E:List Edg}:∀{l:List Nat} (i:Nat),gt l i<=gt (cG E l) i:=by
 unfold cG
 induction E with
 |nil=>intro l i;exact Nat.le_refl _
 |cons e E ih=>intro l i;rw[List.foldl_cons];exact Nat.le_trans (sN i) (ih i)
theorem sM {E:List Edg}{l:List Nat}{e:Edg}(h:fA E l)(he:e∈E)(hl:e.h<l.length):fA E (fR l e):=fun f hf i=>by
 unfold fR
 rw[i8 hl]
 split
 ·rename_i hi
  subst hi
  have h1:=h f hf e.b
  have h2:=hf e he
  have h3:=h f hf e.h
  omega
 ·exact h f hf i
theorem ml {E:List Edg}{n:Nat}(hE:InE n E):∀(F:List Edg) {l:List Nat},(∀e,e∈F->e∈E)->l.length=n->fA E l->fA E (cG F l)
 |[],l,_,_,h=>h
 |e::F,l,hs,hl,h=>by
  show fA E (cG F (fR l e))
  have he:=hs e (by simp)
  exact ml hE F (fun x hx=>hs x (by simp[hx])) (by rw[lx];exact hl) (sM h he (by rw[hl];exact(hE e he).1))
theorem vv {l m:List Nat}(hl:l.length=m.length)(h:∀i,i<l.length->gt l i=gt m i):l=m:=by
 apply List.ext_getElem?
 intro i
 by_cases hi:i<l.length
 ·rw[mu hi,mu (by omega),h i hi]
 ·rw[C_ (by omega),C_ (by omega)]
theorem pM:∀(E:List Edg) {l:List Nat},(∀e,e∈E->e.h<l.length)->cG E l=l->Sol E (gt l)
 |[],l,_,_=>fun e he=>by cases he
 |e::E,l,hh,h=>by
  have h0:cG E (fR l e)=l:=h
  have hr:fR l e=l:=by
   refine vv lx fun i _=>?_
   have h1:=sN (l:=l) (e:=e) i
   have h2:=pN (E:=E) (l:=fR l e) i
   rw[h0]at h2
   omega
  rw[hr]at h0
  have ih:=pM E (fun x hx=>hh x (by simp[hx])) h0
  intro x hx
  rcases F_.1 hx with rfl|hx
  ·have h3:=i8 (l:=l) (i:=x.h) (j:=x.h) (v:=max (gt l x.h) (gt l x.b+x.w)) (hh x (by simp))
   rw[if_pos rfl]at h3
   have h4:gt (fR l x) x.h=max (gt l x.h) (gt l x.b+x.w):=h3
   rw[hr]at h4
   omega
  ·exact ih x hx
theorem Ac:∀{l m:List Nat},l.length=m.length->(∀i,gt l i<=gt m i)->l.sum<=m.sum/\(l≠m->l.sum<m.sum)
 |[],[],_,_=>⟨Nat.le_refl _,fun h=>absurd rfl h⟩
 |[],_::_,h,_=>by cases h
 |_::_,[],h,_=>by cases h
 |a::l,b::m,hl,h=>by
  have h0:=h 0
  simp only[gt,List.getElem?_cons_zero,Option.getD_some]at h0
  obtain⟨h1,h2⟩:=Ac (l:=l) (m:=m) (by simpa using hl) (fun i=>by have:=h (i+1);simpa [gt]using this)
  simp only[List.sum_cons]
  refine⟨by omega,fun hne=>?_⟩
  by_cases e:a=b
  ·subst e
   have:=h2 (fun e2=>hne (by rw[e2]))
   omega
  ·omega
theorem xd {n:Nat}{l:List Nat}(h:jO n l=true):∃i,i<l.length/\n<=gt l i:=by
 unfold jO at h
 rw[List.any_eq_true]at h
 obtain⟨v,hv,hn⟩:=h
 obtain⟨i,hi,e⟩:=List.getElem_of_mem hv
 refine⟨i,hi,?_⟩
 have:=mu hi
 rw[b_ hi,e]at this
 injection this with this
 rw[<- this];simpa using hn
theorem xc {n:Nat}{l:List Nat}(h:¬ jO n l=true){i:Nat}(hi:i<l.length):gt l i<n:=by
 apply Nat.lt_of_not_le
 intro hn
 apply h
 unfold jO
 rw[List.any_eq_true]
 refine⟨gt l i,?_,by simpa using hn⟩
 exact p_ (mu hi)
theorem sn {n:Nat}{E:List Edg}(hE:InE n E):∀(f:Nat) (l:List Nat),l.length=n->fA E l->(∀i,i<n->gt l i<n)->n*n<l.sum+f->qI n E f l=stg n E
 |0,l,hl,hu,hlt,hs=>by
  exfalso
  have:=Ad (n:=n) (m:=n) l hl (fun i hi=>Nat.le_of_lt (hlt i hi))
  omega
 |f+1,l,hl,hu,hlt,hs=>by
  have hu2:fA E (cG E l):=ml hE E (fun _ h=>h) hl hu
  unfold qI
  by_cases ho:jO n (cG E l)=true
  ·rw[if_pos ho]
   obtain⟨i,hi,hn⟩:=xd ho
   rw[risesL_len,hl]at hi
   exact(sm (lZ hu2 hi hn)).symm
  ·rw[if_neg ho]
   by_cases he:cG E l=l
   ·rw[if_pos he]
    exact(iP ⟨hl,pM E (fun e h=>by rw[hl];exact(hE e h).1) he,hu,hlt⟩).symm
   ·rw[if_neg he]
    have h1:=(Ac (l:=l) (m:=cG E l) risesL_len.symm (fun i=>pN i)).2 (fun x=>he x.symm)
    exact sn hE f _ (by rw[risesL_len];exact hl) hu2 (fun i hi=>xc ho (by rw[risesL_len,hl];exact hi)) (by omega)
theorem Af {n:Nat}{E:List Edg}(hE:InE n E)(hn:n<=32):qI n E 1640 (List.replicate n 0)=stg n E:=by
 have hg:∀i,gt (List.replicate n 0) i=0:=by
  intro i
  unfold gt
  rw[List.getElem?_replicate]
  split<;>rfl
 refine sn hE 1640 _ (by simp) (nh _ _) (fun i hi=>by rw[hg];omega) ?_
 have:n*n<=32*32:=Nat.mul_le_mul hn hn
 omega
end Go.Proofs.YteldpmgepfaiiaaGreatDoor
