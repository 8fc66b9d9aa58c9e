/- Walks of functions that the claim reaches, and plain facts of them. Conditions: those in the statements. -/
import Derived.Test.YteldpmgepfaiiaaGreatDoorQrGpj
set_option linter.unusedSimpArgs false
set_option linter.unusedVariables false
set_option maxRecDepth 100000
namespace Go.Proofs.YteldpmgepfaiiaaGreatDoor
open Go.RowKit
def lkA {α:Type}(k:List UInt8):List (List UInt8×α)->Option α
 |[]=>none
 |(a,v)::r=>if k=a then some v else lkA k r
def ptA {α:Type}(k:List UInt8)(v:α):List (List UInt8×α)->List (List UInt8×α)
 |[]=>[(k,v)]
 |(a,w)::r=>if k=a then(k,v)::r else(a,w)::ptA k v r
def mpV {α:Type}(enc:α->VV)(l:List (List UInt8×α)):List (VV×VV):=l.map fun p=>(VV.str p.1,enc p.2)
def bG (n:Int):VV:=.int .i64 n
def cO (b:Bool):VV:=.bool b
theorem nb {α:Type}{enc:α->VV}(k:List UInt8):∀l:List (List UInt8×α),qa (.str k) (mpV enc l)=some ((lkA k l).map enc)
 |[]=>rfl
 |(a,v)::r=>by
  have ih:=nb (enc:=enc) k r
  simp only[mpV,List.map_cons,qa,j9,lkA]at ih ⊢
  by_cases h:k=a
  ·simp[h]
  ·simp only[h,decide_false,if_false];exact ih
theorem Lu {α:Type}{enc:α->VV}(k:List UInt8)(v:α):∀l:List (List UInt8×α),lP (.str k) (enc v) (mpV enc l)=some (mpV enc (ptA k v l))
 |[]=>rfl
 |(a,w)::r=>by
  have ih:=Lu (enc:=enc) k v r
  simp only[mpV,List.map_cons,lP,j9,ptA]at ih ⊢
  by_cases h:k=a
  ·simp[h]
  ·simp only[h,decide_false,if_false,ih,Option.map_some,List.map_cons]
section
variable {q qe qk : QI} {s : St} {b : Nat} {k x : VV} {ok : Bool}
def wK (q qe qk:QI)(k:VV)(ok:Bool)(c:Cell):Option VV:=
 match q.k with
 |.map _ _=>
  match c,gF qk.k k with
  |.map es,true=>
   match qa k es with
   |some (some x)=>some (if ok then .tup [x,.bool true] else x)
   |some none=>(uS qe).map fun z=>if ok then .tup [z,.bool false] else z
   |none=>none
  |_,_=>none
 |_=>none
theorem p_lk:fi q qe qk (.mp b) k ok s=wK q qe qk k ok (s b):=by
 unfold fi wK
 cases q.k<;>rfl
theorem JR {a e sz bt sz2 bt2:Nat}{zo:Bool}{zz z2:List VV}{zo2:Bool}{t:List UInt8}{l:List (List UInt8×Int)} :
  wK ⟨.map a e,sz,bt,zo,zz⟩ ⟨.int .i64,1,8,true,[.int .i64 0]⟩ ⟨.str,sz2,bt2,zo2,z2⟩ (.str t) ok (.map (mpV bG l))=some (if ok then .tup [.int .i64 ((lkA t l).getD 0),.bool (lkA t l).isSome] else .int .i64 ((lkA t l).getD 0)):=by
 simp only[wK,gF,nb]
 cases lkA t l with
 |none=>cases ok<;>rfl
 |some n=>cases ok<;>rfl
theorem JS {a e sz bt sz2 bt2:Nat}{zo:Bool}{zz z2:List VV}{zo2:Bool}{t:List UInt8}{l:List (List UInt8×Bool)} :
  wK ⟨.map a e,sz,bt,zo,zz⟩ ⟨.bool,1,1,true,[.bool false]⟩ ⟨.str,sz2,bt2,zo2,z2⟩ (.str t) ok (.map (mpV cO l))=some (if ok then .tup [.bool ((lkA t l).getD false),.bool (lkA t l).isSome] else .bool ((lkA t l).getD false)):=by
 simp only[wK,gF,nb]
 cases lkA t l with
 |none=>cases ok<;>rfl
 |some n=>cases ok<;>rfl
def uU (q:QI)(c:Cell):Option VV:=
 match q.k,c with
 |.map _ _,.map es=>some (.int .i64 es.length)
 |_,_=>none
theorem GL {a e sz bt:Nat}{zo:Bool}{zz:List VV}:jw ⟨.map a e,sz,bt,zo,zz⟩ (.mp b) s=uU ⟨.map a e,sz,bt,zo,zz⟩ (s b):=by
 simp only[jw,uU]
 cases s b<;>rfl
theorem Cg {α:Type}{enc:α->VV}{a e sz bt:Nat}{zo:Bool}{zz:List VV}{l:List (List UInt8×α)}:uU ⟨.map a e,sz,bt,zo,zz⟩ (.map (mpV enc l))=some (.int .i64 l.length):=by simp[uU,mpV]
def wJ (q qk:QI)(b:Nat)(k x:VV)(s:St)(c:Cell):Option St:=
 match q.k with
 |.map _ _=>
  match c,gF qk.k k with
  |.map es,true=>(lP k x es).map fun es'=>s.set b (.map es')
  |_,_=>none
 |_=>none
theorem p_up:gM q qk (.mp b) k x s=wJ q qk b k x s (s b):=by
 unfold gM wJ
 cases q.k<;>rfl
theorem Jj {a e sz bt sz2 bt2:Nat}{zo:Bool}{zz z2:List VV}{zo2:Bool}{t:List UInt8}{n:Int}{l:List (List UInt8×Int)} :
  wJ ⟨.map a e,sz,bt,zo,zz⟩ ⟨.str,sz2,bt2,zo2,z2⟩ b (.str t) (.int .i64 n) s (.map (mpV bG l))=some (s.set b (.map (mpV bG (ptA t n l)))):=by
 have:=Lu (enc:=bG) t n l
 simp only[bG]at this
 simp only[wJ,gF]
 show (lP (.str t) (.int .i64 n) (mpV bG l)).map _=_
 rw[show (VV.int .i64 n)=bG n from rfl,Lu]
 rfl
theorem Jk {a e sz bt sz2 bt2:Nat}{zo:Bool}{zz z2:List VV}{zo2:Bool}{t:List UInt8}{n:Bool}{l:List (List UInt8×Bool)} :
  wJ ⟨.map a e,sz,bt,zo,zz⟩ ⟨.str,sz2,bt2,zo2,z2⟩ b (.str t) (.bool n) s (.map (mpV cO l))=some (s.set b (.map (mpV cO (ptA t n l)))):=by
 simp only[wJ,gF]
 show (lP (.str t) (.bool n) (mpV cO l)).map _=_
 rw[show (VV.bool n)=cO n from rfl,Lu]
 rfl
end
attribute [go_sem] p_lk JR JS GL Cg p_up Jj Jk
def ixT (k:List UInt8):List (List UInt8)->Option Nat
 |[]=>none
 |a::r=>if k=a then some 0 else(ixT k r).map (·+1)
structure Edg where
 h:Nat
 b:Nat
 w:Nat
def Sol (E:List Edg)(f:Nat->Nat):Prop:=∀e,e∈E->f e.b+e.w<=f e.h
def InE (n:Nat)(E:List Edg):Prop:=∀e,e∈E->e.h<n/\e.b<n
def gt (l:List Nat)(i:Nat):Nat:=l[i]?.getD 0
def fU (E:List Edg)(l:List Nat):Prop:=∀f,Sol E f->∀i,gt l i<=f i
def lL (n:Nat)(E:List Edg)(l:List Nat):Prop:=l.length=n/\Sol E (gt l)/\fU E l/\∀i,i<n->gt l i<n
def Ed (n:Nat)(E:List Edg):Prop:=∀f,Sol E f->∃i,i<n/\n<=f i
theorem lE {l:List Nat}{i:Nat}(h:i<l.length):l[i]?=some (gt l i):=by
 unfold gt;rw[b_ h];rfl
theorem Hl {l:List Nat}{i:Nat}(h:l.length<=i):gt l i=0:=by
 unfold gt;rw[C_ h];rfl
theorem iJ {l:List Nat}{i j v:Nat}(h:i<l.length):gt (l.set i v) j=if j=i then v else gt l j:=by
 unfold gt
 rw[List.getElem?_set]
 by_cases e:i=j
 ·subst e;rw[if_pos rfl,if_pos rfl,if_pos h];rfl
 ·rw[if_neg e,if_neg (fun x=>e x.symm)]
theorem xB {n:Nat}{E:List Edg}{l m:List Nat}(h:lL n E l)(k:lL n E m):l=m:=by
 apply List.ext_getElem?
 intro i
 by_cases hi:i<n
 ·rw[lE (by rw[h.1];exact hi),lE (by rw[k.1];exact hi)]
  have h1:=h.2.2.1 _ k.2.1 i
  have h2:=k.2.2.1 _ h.2.1 i
  congr 1;omega
 ·rw[C_ (by rw[h.1];omega),C_ (by rw[k.1];omega)]
open Classical in
noncomputable def stg (n:Nat)(E:List Edg):Option (List Nat):=if h:∃l,lL n E l then some h.choose else none
theorem mA {n:Nat}{E:List Edg}{l:List Nat}(h:lL n E l):stg n E=some l:=by
 unfold stg
 rw[dif_pos ⟨l,h⟩]
 congr 1
 exact xB (Exists.choose_spec (p:=fun l=>lL n E l) ⟨l,h⟩) h
theorem kE {n:Nat}{E:List Edg}{l:List Nat}(h:stg n E=some l):lL n E l:=by
 unfold stg at h
 split at h
 ·rename_i hx
  injection h with h
  rw[<- h]
  exact hx.choose_spec
 ·cases h
theorem qQ {n:Nat}{E:List Edg}(h:Ed n E):stg n E=none:=by
 unfold stg
 rw[dif_neg]
 rintro⟨l,hl⟩
 obtain⟨i,hi,hn⟩:=h _ hl.2.1
 have:=hl.2.2.2 i hi
 omega
theorem mv (E:List Edg)(n:Nat):fU E (List.replicate n 0):=fun f _ i=>by
 have:gt (List.replicate n 0) i=0:=by
  unfold gt
  rw[List.getElem?_replicate]
  split<;>rfl
 omega
theorem wM {E:List Edg}{l:List Nat}{e:Edg}(h:fU E l)(he:e∈E)(hl:e.h<l.length):fU E (l.set e.h (gt l e.b+e.w)):=fun f hf i=>by
 rw[iJ hl]
 split
 ·rename_i hi
  subst hi
  have h1:=h f hf e.b
  have h2:=hf e he
  omega
 ·exact h f hf i
theorem lm {n:Nat}{E:List Edg}{l:List Nat}{i:Nat}(h:fU E l)(hi:i<n)(hn:n<=gt l i):Ed n E:=fun f hf=>⟨i,hi,Nat.le_trans hn (h f hf i)⟩
theorem yw {n m:Nat}:∀(l:List Nat),l.length=n->(∀i,i<n->gt l i<=m)->l.sum<=n * m:=by
 induction n with
 |zero=>intro l hl _;have:=t_ hl;subst this;simp
 |succ n ih=>
  intro l hl h
  cases l with
  |nil=>simp at hl
  |cons x l=>
   have h0:=h 0 (by omega)
   have h1:=ih l (by simpa using hl) (fun i hi=>by have:=h (i+1) (by omega);simpa [gt]using this)
   simp only[gt,List.getElem?_cons_zero,Option.getD_some]at h0
   rw[List.sum_cons,Nat.succ_mul]
   omega
theorem uZ:∀(l:List Nat) (i v:Nat),i<l.length->(l.set i v).sum+gt l i=l.sum+v
 |[],i,v,h=>by simp at h
 |x::l,0,v,h=>by simp[gt];omega
 |x::l,i+1,v,h=>by
  have:=uZ l i v (by simpa using h)
  simp only[List.set_cons_succ,List.sum_cons,gt,List.getElem?_cons_succ]at this ⊢
  omega
theorem Ak {E E':List Edg}{f:Nat->Nat}(h:Sol E f)(hs:∀e,e∈E'->e∈E):Sol E' f:=fun e he=>h e (hs e he)
theorem j3 {n:Nat}{E:List Edg}(hE:InE n E){f:Nat->Nat}(hf:Sol E f)(hn:∀i,i<n->f i<n):∃l,lL n E l:=by
 have key:∀(k:Nat) (l:List Nat),l.length=n->fU E l->n * n - l.sum<=k->∃m,lL n E m:=by
  intro k
  induction k with
  |zero=>
   intro l hl hu hk
   refine⟨l,hl,?_,hu,fun i hi=>Nat.lt_of_le_of_lt (hu f hf i) (hn i hi)⟩
   have hb:=yw (n:=n) (m:=n - 1) l hl (fun i hi=>by have h1:=hu f hf i;have h2:=hn i hi;omega)
   rcases Nat.eq_zero_or_pos n with h0|hp
   ·intro e he;have:=(hE e he).1;omega
   ·have:n * (n - 1)<n * n:=Nat.mul_lt_mul_of_pos_left (by omega) hp
    omega
  |succ k ih=>
   intro l hl hu hk
   by_cases hs:Sol E (gt l)
   ·exact⟨l,hl,hs,hu,fun i hi=>Nat.lt_of_le_of_lt (hu f hf i) (hn i hi)⟩
   ·obtain⟨e,he⟩:∃e,e∈E/\¬ gt l e.b+e.w<=gt l e.h:=by
     apply Classical.byContradiction
     intro hc
     exact hs fun e he=>Classical.byContradiction fun hx=>hc ⟨e,he,hx⟩
    obtain⟨he,hx⟩:=he
    have hlt:e.h<l.length:=by rw[hl];exact(hE e he).1
    have h1:=uZ l e.h (gt l e.b+e.w) hlt
    exact ih _ (by rw[List.length_set];exact hl) (wM hu he hlt) (by omega)
 exact key _ (List.replicate n 0) (by simp) (mv E n) (Nat.le_refl _)
theorem aN {s:St}:s.disown .full=s:=rfl
theorem aX {s:St}{T sz n:Nat}:eh s .full T sz n=(n=0):=rfl
theorem cG {s:St}{T sz n:Nat}:s.own .full T sz n=s:=rfl
theorem aO {α:Type}{l:List α}{i:Nat}(h:i<l.length):∃x,l[i]?=some x:=⟨_,b_ h⟩
theorem b9 {α:Type}{l:List α}{i:Nat}{x:α}(h:l[i]?=some x):l.take (i+1)=l.take i++[x]:=by rw[List.take_add_one,h];rfl
theorem bB {α:Type}{l:List α}{p:α->Bool}{i:Nat}{x:α}(h:(l.take i).all p=true)(hx:l[i]?=some x)(hp:p x=true):(l.take (i+1)).all p=true:=by
 rw[b9 hx,List.all_append,h];simp[hp]
theorem bJ {α:Type}{l:List α}{p:α->Bool}{i:Nat}{x:α}(hx:l[i]?=some x)(hp:p x=false):l.all p=false:=by
 cases h:l.all p with
 |false=>rfl
 |true=>rw[List.all_eq_true.1 h x (p_ hx)]at hp;cases hp
theorem cN {k:List UInt8}:∀{l:List (List UInt8)} {i:Nat},ixT k l=some i->l[i]?=some k
 |[],i,h=>by cases h
 |a::r,i,h=>by
  simp only[ixT]at h
  split at h
  ·rename_i e;injection h with h;subst h;simp[e]
  ·obtain⟨j,hj,rfl⟩:=Option.map_eq_some_iff.1 h
   simpa using cN hj
theorem gG {k:List UInt8}:∀{l:List (List UInt8)},ixT k l=none↔k∉l
 |[]=>by simp[ixT]
 |a::r=>by
  have ih:=gG (k:=k) (l:=r)
  simp only[ixT]
  by_cases e:k=a
  ·simp[e]
  ·rw[if_neg e,Option.map_eq_none_iff,ih,F_]
   simp[e]
theorem vJ {k:List UInt8}:∀{l m:List (List UInt8)},ixT k (l++m)=match ixT k l with|some i=>some i|none=>(ixT k m).map (·+l.length)
 |[],m=>by simp[ixT]
 |a::r,m=>by
  simp only[List.cons_append,ixT]
  by_cases e:k=a
  ·simp[e]
  ·rw[if_neg e,if_neg e,vJ]
   cases ixT k r with
   |some i=>rfl
   |none=>cases ixT k m<;>simp[Nat.add_assoc]
theorem vG {α:Type}{k a:List UInt8}{v:α}:∀{l:List (List UInt8×α)},lkA a (ptA k v l)=if a=k then some v else lkA a l
 |[]=>by simp[ptA,lkA]
 |(b,w)::r=>by
  have ih:=vG (k:=k) (a:=a) (v:=v) (l:=r)
  simp only[ptA]
  by_cases e:k=b
  ·subst e
   rw[if_pos rfl]
   simp only[lkA]
   by_cases e2:a=k<;>simp[e2]
  ·rw[if_neg e]
   simp only[lkA]
   by_cases e2:a=b
   ·subst e2
    rw[if_pos rfl,if_pos rfl,if_neg (fun x=>e x.symm)]
   ·rw[if_neg e2,if_neg e2,ih]
theorem lX {α:Type}{k:List UInt8}{v:α}:∀{l:List (List UInt8×α)},k∉l.map (·.1)->ptA k v l=l++[(k,v)]
 |[],_=>rfl
 |(b,w)::r,h=>by
  simp only[List.map_cons,F_,not_or]at h
  simp only[ptA]
  rw[if_neg h.1,lX h.2]
  rfl
theorem vt {α:Type}{k:List UInt8}{v:α}:∀{l:List (List UInt8×α)},k∈l.map (·.1)->(ptA k v l).map (·.1)=l.map (·.1)
 |[],h=>by cases h
 |(b,w)::r,h=>by
  simp only[List.map_cons,F_]at h
  simp only[ptA]
  by_cases e:k=b
  ·subst e;rw[if_pos rfl];rfl
  ·rw[if_neg e]
   simp only[List.map_cons]
   rw[vt (h.resolve_left e)]
def fH {α β:Type}(nm:α->List UInt8)(v:Nat->α->β):Nat->List α->List (List UInt8×β)->List (List UInt8×β)
 |_,[],m=>m
 |i,x::l,m=>fH nm v (i+1) l (ptA (nm x) (v i x) m)
def dH {α β:Type}(nm:α->List UInt8)(v:Nat->α->β):Nat->List α->List (List UInt8×β)
 |_,[]=>[]
 |i,x::l=>(nm x,v i x)::dH nm v (i+1) l
section
variable {α β : Type} {nm : α -> List UInt8} {v : Nat -> α -> β}
theorem iD:∀(i:Nat) (l:List α),(dH nm v i l).map (·.1)=l.map nm
 |_,[]=>rfl
 |i,x::l=>by simp[dH,iD (i+1) l]
theorem tP (i:Nat)(l:List α):(dH nm v i l).length=l.length:=by
 have:=congrArg List.length (iD (nm:=nm) (v:=v) i l);simpa using this
theorem i8:∀(i:Nat) (l:List α) (x:α) (m:List (List UInt8×β)),fH nm v i (l++[x]) m=ptA (nm x) (v (i+l.length) x) (fH nm v i l m)
 |i,[],x,m=>rfl
 |i,y::l,x,m=>by
  simp only[List.cons_append,fH,i8 (i+1) l x]
  rw[show i+1+l.length=i+(y::l).length by simp;omega]
theorem eZ:∀(i:Nat) (l:List α) (m:List (List UInt8×β)),(m.map (·.1)++l.map nm).Nodup->fH nm v i l m=m++dH nm v i l
 |i,[],m,_=>by simp[fH,dH]
 |i,x::l,m,h=>by
  simp only[fH,dH]
  have hx:nm x∉m.map (·.1):=by
   intro hm
   rw[List.nodup_append]at h
   exact h.2.2 _ hm _ (by simp) rfl
  rw[lX hx,eZ (i+1) l]
  ·simp
  ·simpa using h
theorem mT:∀(i:Nat) (l:List α) (m:List (List UInt8×β)),(fH nm v i l m).length<=m.length+l.length/\(¬ (m.map (·.1)++l.map nm).Nodup->(m.map (·.1)).Nodup->(fH nm v i l m).length<m.length+l.length)
 |i,[],m=>by simp only[fH,List.map_nil,List.append_nil,List.length_nil];exact⟨by omega,fun h k=>absurd k h⟩
 |i,x::l,m=>by
  simp only[fH,List.length_cons]
  by_cases hx:nm x∈m.map (·.1)
  ·have hk:=vt (v:=v i x) hx
   have hl:(ptA (nm x) (v i x) m).length=m.length:=by have:=congrArg List.length hk;simpa using this
   have ih:=mT (i+1) l (ptA (nm x) (v i x) m)
   rw[hl]at ih
   exact⟨by omega,fun _ _=>by omega⟩
  ·have hk:=lX (v:=v i x) hx
   rw[hk]
   have ih:=mT (i+1) l (m++[(nm x,v i x)])
   simp only[d_,List.length_cons,List.length_nil,List.map_append,List.map_cons,List.map_nil]at ih
   refine⟨by omega,fun h k=>?_⟩
   have:=ih.2 (by simpa using h) (by
    rw[List.nodup_append]
    exact⟨k,by simp,fun a ha b hb=>by rw[e_]at hb;subst hb;rintro rfl;exact hx ha⟩)
   omega
theorem pa (l:List α):(fH nm v 0 l []).length=l.length↔(l.map nm).Nodup:=by
 constructor
 ·intro h
  apply Classical.byContradiction
  intro hn
  have:=(mT (nm:=nm) (v:=v) 0 l []).2 (by simpa using hn) (by simp)
  simp only[List.length_nil,Nat.zero_add]at this
  omega
 ·intro h
  rw[eZ 0 l [] (by simpa using h),List.nil_append,tP]
theorem jb {k:List UInt8}:∀(i:Nat) (l:List α),lkA k (dH nm v i l)=match ixT k (l.map nm)with|some j=>(l[j]?).map (v (i+j))|none=>none
 |i,[]=>rfl
 |i,x::l=>by
  simp only[dH,lkA,List.map_cons,ixT]
  by_cases e:k=nm x
  ·simp[e]
  ·rw[if_neg e,if_neg e,jb (i+1) l]
   cases ixT k (l.map nm)with
   |none=>rfl
   |some j=>simp[Nat.add_assoc,Nat.add_comm 1 j]
end
def fG (l:List Nat)(e:Edg):List Nat:=l.set e.h (max (gt l e.h) (gt l e.b+e.w))
def cp (E:List Edg)(l:List Nat):List Nat:=E.foldl fG l
def js (n:Nat)(l:List Nat):Bool:=l.any fun v=>decide (n<=v)
def pK (n:Nat)(E:List Edg):Nat->List Nat->Option (List Nat)
 |0,_=>none
 |f+1,l=>if js n (cp E l)=true then none else if cp E l=l then some l else pK n E f (cp E l)
theorem kO {l:List Nat}{e:Edg}:(fG l e).length=l.length:=by simp[fG]
theorem risesL_len {E:List Edg}:∀{l:List Nat},(cp E l).length=l.length:=by
 unfold cp
 induction E with
 |nil=>intro l;rfl
 |cons e E ih=>intro l;rw[List.foldl_cons,ih,kO]
theorem rt {l:List Nat}{e:Edg}(i:Nat):gt l i<=gt (fG l e) i:=by
 unfold fG
 by_cases h:e.h<l.length
 ·rw[iJ h]
  split
  ·rename_i h2;subst h2;exact Nat.le_max_left _ _
  ·exact Nat.le_refl _
 ·rw[List.set_eq_of_length_le (by omega)];exact Nat.le_refl _
theorem oT {E:List Edg}:∀{l:List Nat} (i:Nat),gt l i<=gt (cp E l) i:=by
 unfold cp
 induction E with
 |nil=>intro l i;exact Nat.le_refl _
 |cons e E ih=>intro l i;rw[List.foldl_cons];exact Nat.le_trans (rt i) (ih i)
theorem rq {E:List Edg}{l:List Nat}{e:Edg}(h:fU E l)(he:e∈E)(hl:e.h<l.length):fU E (fG l e):=fun f hf i=>by
 unfold fG
 rw[iJ hl]
 split
 ·rename_i hi
  subst hi
  have h1:=h f hf e.b
  have h2:=hf e he
  have h3:=h f hf e.h
  omega
 ·exact h f hf i
theorem lw {E:List Edg}{n:Nat}(hE:InE n E):∀(F:List Edg) {l:List Nat},(∀e,e∈F->e∈E)->l.length=n->fU E l->fU E (cp F l)
 |[],l,_,_,h=>h
 |e::F,l,hs,hl,h=>by
  show fU E (cp F (fG l e))
  have he:=hs e (by simp)
  exact lw hE F (fun x hx=>hs x (by simp[hx])) (by rw[kO];exact hl) (rq h he (by rw[hl];exact(hE e he).1))
theorem ua {l m:List Nat}(hl:l.length=m.length)(h:∀i,i<l.length->gt l i=gt m i):l=m:=by
 apply List.ext_getElem?
 intro i
 by_cases hi:i<l.length
 ·rw[lE hi,lE (by omega),h i hi]
 ·rw[C_ (by omega),C_ (by omega)]
theorem oS:∀(E:List Edg) {l:List Nat},(∀e,e∈E->e.h<l.length)->cp E l=l->Sol E (gt l)
 |[],l,_,_=>fun e he=>by cases he
 |e::E,l,hh,h=>by
  have h0:cp E (fG l e)=l:=h
  have hr:fG l e=l:=by
   refine ua kO fun i _=>?_
   have h1:=rt (l:=l) (e:=e) i
   have h2:=oT (E:=E) (l:=fG l e) i
   rw[h0]at h2
   omega
  rw[hr]at h0
  have ih:=oS E (fun x hx=>hh x (by simp[hx])) h0
  intro x hx
  rcases F_.1 hx with rfl|hx
  ·have h3:=iJ (l:=l) (i:=x.h) (j:=x.h) (v:=max (gt l x.h) (gt l x.b+x.w)) (hh x (by simp))
   rw[if_pos rfl]at h3
   have h4:gt (fG l x) x.h=max (gt l x.h) (gt l x.b+x.w):=h3
   rw[hr]at h4
   omega
  ·exact ih x hx
theorem yu:∀{l m:List Nat},l.length=m.length->(∀i,gt l i<=gt m i)->l.sum<=m.sum/\(l≠m->l.sum<m.sum)
 |[],[],_,_=>⟨Nat.le_refl _,fun h=>absurd rfl h⟩
 |[],_::_,h,_=>by cases h
 |_::_,[],h,_=>by cases h
 |a::l,b::m,hl,h=>by
  have h0:=h 0
  simp only[gt,List.getElem?_cons_zero,Option.getD_some]at h0
  obtain⟨h1,h2⟩:=yu (l:=l) (m:=m) (by simpa using hl) (fun i=>by have:=h (i+1);simpa [gt]using this)
  simp only[List.sum_cons]
  refine⟨by omega,fun hne=>?_⟩
  by_cases e:a=b
  ·subst e
   have:=h2 (fun e2=>hne (by rw[e2]))
   omega
  ·omega
theorem vx {n:Nat}{l:List Nat}(h:js n l=true):∃i,i<l.length/\n<=gt l i:=by
 unfold js at h
 rw[List.any_eq_true]at h
 obtain⟨v,hv,hn⟩:=h
 obtain⟨i,hi,e⟩:=List.getElem_of_mem hv
 refine⟨i,hi,?_⟩
 have:=lE hi
 rw[b_ hi,e]at this
 injection this with this
 rw[<- this];simpa using hn
theorem vw {n:Nat}{l:List Nat}(h:¬ js n l=true){i:Nat}(hi:i<l.length):gt l i<n:=by
 apply Nat.lt_of_not_le
 intro hn
 apply h
 unfold js
 rw[List.any_eq_true]
 refine⟨gt l i,?_,by simpa using hn⟩
 exact p_ (lE hi)
theorem qR {n:Nat}{E:List Edg}(hE:InE n E):∀(f:Nat) (l:List Nat),l.length=n->fU E l->(∀i,i<n->gt l i<n)->n * n<l.sum+f->pK n E f l=stg n E
 |0,l,hl,hu,hlt,hs=>by
  exfalso
  have:=yw (n:=n) (m:=n) l hl (fun i hi=>Nat.le_of_lt (hlt i hi))
  omega
 |f+1,l,hl,hu,hlt,hs=>by
  have hu2:fU E (cp E l):=lw hE E (fun _ h=>h) hl hu
  unfold pK
  by_cases ho:js n (cp E l)=true
  ·rw[if_pos ho]
   obtain⟨i,hi,hn⟩:=vx ho
   rw[risesL_len,hl]at hi
   exact(qQ (lm hu2 hi hn)).symm
  ·rw[if_neg ho]
   by_cases he:cp E l=l
   ·rw[if_pos he]
    exact(mA ⟨hl,oS E (fun e h=>by rw[hl];exact(hE e h).1) he,hu,hlt⟩).symm
   ·rw[if_neg he]
    have h1:=(yu (l:=l) (m:=cp E l) risesL_len.symm (fun i=>oT i)).2 (fun x=>he x.symm)
    exact qR hE f _ (by rw[risesL_len];exact hl) hu2 (fun i hi=>vw ho (by rw[risesL_len,hl];exact hi)) (by omega)
theorem yz {n:Nat}{E:List Edg}(hE:InE n E)(hn:n<=32):pK n E 1640 (List.replicate n 0)=stg n E:=by
 have hg:∀i,gt (List.replicate n 0) i=0:=by
  intro i
  unfold gt
  rw[List.getElem?_replicate]
  split<;>rfl
 refine qR hE 1640 _ (by simp) (mv _ _) (fun i hi=>by rw[hg];omega) ?_
 have:n * n<=32 * 32:=Nat.mul_le_mul hn hn
 omega
end Go.Proofs.YteldpmgepfaiiaaGreatDoor
