/- Walks of functions that the claim reaches, and plain facts of them. Conditions: those in the statements. -/
import Derived.Test.YtohnaepcgnbaiaaGreatDoorJjRnj
import Derived.Shelf.SlicesE.Clone
set_option linter.unusedSimpArgs false
set_option linter.unusedVariables false
set_option maxRecDepth 100000
namespace Go.Proofs.YtohnaepcgnbaiaaGreatDoor
open Go.RowKit
section
variable {w0 w : World} {G : Gh} {s : St} {b g i n : Nat} {T T' : TypeId} {xs cs cs' : List VV}
theorem set_at {l:List VV}{i:Nat}{x y:VV}(h:l[i]?=some x):(l.set i y)[i]?=some y:=List.getElem?_set_self (List.getElem?_eq_some_iff.1 h).1
theorem GSg.frz1 (hb:s b=.obj T cs)(hi:cs[i]?=some (.mrw g n))(hg:s g=.row T' 1 xs)(hn:xs.length=n) :
  GSg s ((s.set g .free).set b (.obj T (cs.set i (.lst (xs.map fun y=>[y]) .no)))):=by
 intro w0 G w h
 have hne:¬ b=g:=by rintro rfl;rw[hb]at hg;cases hg
 obtain⟨G',hle,hS,hK,_⟩:=h.frzR hg
 have hob:=hS.ok b
 rw[St.set_other _ _ hne,hb]at hob
 obtain⟨hB,hnK,c,hc,hsz,hx⟩:=hob
 refine⟨G',hle,hS.below,hS.K,hS.cap,fun x=>?_,hS.gl,hS.rows.keep' (Gh.le.refl _) (Nat.le_refl _) (fun g' _ hg'=>⟨?_,rfl,fun _=>rfl⟩) (fun b' T xs rs hb'=>?_)⟩
 ·by_cases hxb:x=b
  ·subst hxb
   rw[St.set_same]
   refine⟨hB,hnK,c,hc,by rw[hsz,List.length_set],fun j y hj=>?_⟩
   by_cases hji:j=i
   ·subst hji
    rw[set_at hi]at hj
    injection hj with hj
    subst hj
    obtain⟨_,v,hv,hr⟩:=hx j _ hi
    exact⟨rfl,v,hv,R.frz hn hK hr⟩
   ·rw[List.getElem?_set_ne (Ne.symm hji)]at hj
    exact hx j y hj
  ·rw[St.set_other _ _ hxb];exact hS.ok x
 ·by_cases e:g'=b
  ·subst e;rw[St.set_other _ _ hne,hb]at hg';cases hg'
  ·rw[St.set_other _ _ e];exact hg'
 ·by_cases e:b'=b
  ·subst e;rw[St.set_same]at hb';cases hb'
  ·rw[St.set_other _ _ e]at hb';exact⟨hb',rfl⟩
theorem GS.wkc (hb:s b=.obj T cs)(hl:cs'.length=cs.length)(hw:∀(i:Nat) (y':VV),cs'[i]?=some y'→∃y,cs[i]?=some y∧Wk y y'∧y'.one=true):GS s (s.set b (.obj T cs')):=by
 intro w0 G w hS
 have hob:=hS.ok b
 rw[hb]at hob
 obtain⟨hB,hnK,c,hc,hsz,hx⟩:=hob
 refine⟨hS.below,hS.K,hS.cap,fun x=>?_,hS.gl,hS.rows.keep' (Gh.le.refl _) (Nat.le_refl _) (fun g' _ hg'=>⟨?_,rfl,fun _=>rfl⟩) (fun b' T xs rs hb'=>?_)⟩
 ·by_cases hxb:x=b
  ·subst hxb
   rw[St.set_same]
   refine⟨hB,hnK,c,hc,by rw[hsz,hl],fun j y hj=>?_⟩
   obtain⟨y0,h1,h2,h3⟩:=hw j y hj
   obtain⟨_,v,hv,hr⟩:=hx j _ h1
   exact⟨h3,v,hv,h2 _ _ hr⟩
  ·rw[St.set_other _ _ hxb];exact hS.ok x
 ·by_cases e:g'=b
  ·subst e;rw[hb]at hg';cases hg'
  ·rw[St.set_other _ _ e];exact hg'
 ·by_cases e:b'=b
  ·subst e;rw[St.set_same]at hb';cases hb'
  ·rw[St.set_other _ _ e]at hb';exact⟨hb',rfl⟩
end
theorem Wk.toraw:Wk (.lst [] .full) (.raw (.slice none 0 0)):=fun G v hr=>by
 cases hr with
 |emp a cap o ho=>
  rcases ho with ho|⟨_,rfl,rfl⟩
  ·cases ho
  ·exact .raw _
 |lst b off len cap sz xs o f hl hc hz h1 hK hR ho=>
  simp at hl
  subst hl
  rcases ho with ho|⟨_,_,h0⟩|⟨ho,_⟩
  ·cases ho
  ·omega
  ·cases ho
structure PlS (s u:St) (bO:Nat) (xs:List VV) (out:List (List Nat)):Prop where
 o:u bO=.obj 28 xs
 nO:s bO=.free
 ln:xs.length=out.length
 c:∀(k:Nat) (r:List Nat),out[k]?=some r→(r=[]∧xs[k]?=some (.raw (.slice none 0 0)))∨∃g,xs[k]?=some (.mrw g r.length)∧u g=.row 3 1 (ints (r.map fun(k:Nat)=>(k:Int)))∧s g=.free
 ap:∀(k k' g n n':Nat),xs[k]?=some (.mrw g n)→xs[k']?=some (.mrw g n')→k=k'
 fr:∀z,s z≠.free→u z=s z
theorem PlS.ne {s u:St}{bO:Nat}{xs:List VV}{out:List (List Nat)}(h:PlS s u bO xs out){k g n:Nat}(hk:xs[k]?=some (.mrw g n)):g≠bO:=fun e=>by
 have hl:k<out.length:=by rw[← h.ln];exact(List.getElem?_eq_some_iff.1 hk).1
 rcases h.c k _ (List.getElem?_eq_getElem hl)with ⟨_,e2⟩|⟨g',e2,e3,_⟩
 ·rw[hk]at e2;cases e2
 ·rw[hk]at e2
  injection e2 with e2
  injection e2 with e2 _
  rw[← e2,e,h.o]at e3
  cases e3
theorem PlS.step {s u v:St}{bO k:Nat}{xs:List VV}{out:List (List Nat)}{r r2:List Nat}{y:Nat}(h:PlS s u bO xs out)(hk:out[k]?=some r)
  (hv:∀z,u z≠.free→z≠bO→(∀g n,xs[k]?=some (.mrw g n)→z≠g)→v z=u z) (ho:v bO=.obj 28 (xs.set k (.mrw y r2.length))) (hy:v y=.row 3 1 (ints (r2.map fun(k:Nat)=>(k:Int)))) (hyf:u y=.free∨∃n,xs[k]?=some (.mrw y n)) :
  PlS s v bO (xs.set k (.mrw y r2.length)) (out.set k r2):=by
 have hkl:k<out.length:=(List.getElem?_eq_some_iff.1 hk).1
 have hys:s y=.free:=by
  rcases hyf with e|⟨n,e⟩
  ·by_cases hs:s y=.free
   ·exact hs
   ·exact absurd (by rw[← h.fr y hs];exact e) hs
  ·rcases h.c k r hk with ⟨_,e2⟩|⟨g,e2,_,e4⟩
   ·rw[e]at e2;cases e2
   ·rw[e]at e2;injection e2 with e2;injection e2 with e2 _;rw[e2];exact e4
 have hsep:∀(j:Nat) (g n:Nat),j≠k→xs[j]?=some (.mrw g n)→g≠y∧v g=u g:=fun j g n hj hx=>by
  have hjl:j<out.length:=by rw[← h.ln];exact(List.getElem?_eq_some_iff.1 hx).1
  have hgu:u g≠.free:=by
   rcases h.c j _ (List.getElem?_eq_getElem hjl)with ⟨_,e2⟩|⟨g',e2,e3,_⟩
   ·rw[hx]at e2;cases e2
   ·rw[hx]at e2;injection e2 with e2;injection e2 with e2 _;rw[e2,e3];simp
  have hgk:∀g' n',xs[k]?=some (.mrw g' n')→g≠g':=fun g' n' hx' e=>hj (h.ap j k g n n' hx (e ▸ hx'))
  refine⟨fun e=>?_,hv g hgu (h.ne hx) hgk⟩
  rcases hyf with e2|⟨n',e2⟩
  ·rw[← e]at e2;exact hgu e2
  ·exact hgk _ _ e2 e
 refine⟨ho,h.nO,by rw[List.length_set,List.length_set];exact h.ln,fun j r' hj=>?_,fun j j' g n n' h1 h2=>?_,fun z hz=>?_⟩
 ·by_cases e:k=j
  ·subst e
   rw[List.getElem?_set_self hkl]at hj
   injection hj with hj
   subst hj
   exact .inr ⟨y,by rw[List.getElem?_set_self (by rw[h.ln];exact hkl)],hy,hys⟩
  ·rw[List.getElem?_set_ne e]at hj ⊢
   rcases h.c j r' hj with e2|⟨g,e2,e3,e4⟩
   ·exact .inl e2
   ·exact .inr ⟨g,e2,by rw[(hsep j g _ (Ne.symm e) e2).2];exact e3,e4⟩
 ·have hkx:k<xs.length:=by rw[h.ln];exact hkl
  by_cases e1:k=j
  ·by_cases e2:k=j'
   ·rw[← e1,← e2]
   ·subst e1
    rw[List.getElem?_set_self hkx]at h1
    rw[List.getElem?_set_ne e2]at h2
    injection h1 with h1
    injection h1 with h1 _
    exact absurd h1.symm (hsep j' g n' (Ne.symm e2) h2).1
  ·rw[List.getElem?_set_ne e1]at h1
   by_cases e2:k=j'
   ·subst e2
    rw[List.getElem?_set_self hkx]at h2
    injection h2 with h2
    injection h2 with h2 _
    exact absurd h2.symm (hsep j g n (Ne.symm e1) h1).1
   ·rw[List.getElem?_set_ne e2]at h2
    exact h.ap j j' g n n' h1 h2
 ·rw[hv z (by rw[h.fr z hz];exact hz) (fun e=>hz (e ▸ h.nO)) ?_,h.fr z hz]
  rintro g n hx rfl
  rcases h.c k r hk with ⟨_,e2⟩|⟨g',e2,_,e4⟩
  ·rw[hx]at e2;cases e2
  ·rw[hx]at e2;injection e2 with e2;injection e2 with e2 _;rw[← e2]at e4;exact hz e4
theorem PlS.other {s u v:St}{bO:Nat}{xs:List VV}{out:List (List Nat)}(h:PlS s u bO xs out)(hv:∀z,(∃T xs,u z=.obj T xs)∨(∃T sz xs,u z=.row T sz xs)∨s z≠.free→v z=u z):PlS s v bO xs out:=
 ⟨(hv bO (.inl ⟨_,_,h.o⟩)).trans h.o,h.nO,h.ln,fun k r hk=>by
  rcases h.c k r hk with e|⟨g,e1,e2,e3⟩
  ·exact .inl e
  ·exact .inr ⟨g,e1,(hv g (.inr (.inl ⟨_,_,_,e2⟩))).trans e2,e3⟩,h.ap,fun z hz=>(hv z (.inr (.inr hz))).trans (h.fr z hz)⟩
structure PlF (s u:St) (bO:Nat) (xs:List VV) (out:List (List Nat)) (j:Nat):Prop where
 o:u bO=.obj 28 xs
 nO:s bO=.free
 ln:xs.length=out.length
 d:∀(k:Nat) (r:List Nat),k<j→out[k]?=some r→xs[k]?=some (.lst (natsL r) .no)
 c:∀(k:Nat) (r:List Nat),j≤k→out[k]?=some r→(r=[]∧xs[k]?=some (.raw (.slice none 0 0)))∨∃g,xs[k]?=some (.mrw g r.length)∧u g=.row 3 1 (ints (r.map fun(k:Nat)=>(k:Int)))∧s g=.free
 ap:∀(k k' g n n':Nat),xs[k]?=some (.mrw g n)→xs[k']?=some (.mrw g n')→k=k'
 fr:∀z,s z≠.free→u z=s z
theorem frz_step {s u:St}{bO j:Nat}{xs:List VV}{out:List (List Nat)}(h:PlF s u bO xs out j){r:List Nat}(hr:out[j]?=some r):∃u',GSg u u'∧PlF s u' bO (xs.set j (.lst (natsL r) .no)) out (j+1):=by
 have hjl:j<xs.length:=by rw[h.ln];exact(List.getElem?_eq_some_iff.1 hr).1
 have dn:∀(k:Nat) (r':List Nat),k<j+1→out[k]?=some r'→(xs.set j (.lst (natsL r) .no))[k]?=some (.lst (natsL r') .no):=fun k r' hk hr'=>by
  by_cases e:j=k
  ·subst e
   rw[hr]at hr'
   injection hr' with hr'
   rw[List.getElem?_set_self hjl,hr']
  ·rw[List.getElem?_set_ne e]
   exact h.d k r' (by omega) hr'
 have ap2:∀(k k' g n n':Nat),(xs.set j (.lst (natsL r) .no))[k]?=some (.mrw g n)→(xs.set j (.lst (natsL r) .no))[k']?=some (.mrw g n')→k=k':=fun k k' g n n' h1 h2=>by
  have key:∀{k n:Nat},(xs.set j (.lst (natsL r) .no))[k]?=some (.mrw g n)→xs[k]?=some (.mrw g n):=fun {k n} hh=>by
   by_cases e:j=k
   ·subst e;rw[List.getElem?_set_self hjl]at hh;cases hh
   ·rwa [List.getElem?_set_ne e]at hh
  exact h.ap k k' g n n' (key h1) (key h2)
 rcases h.c j r (Nat.le_refl _) hr with ⟨e1,e2⟩|⟨g,e1,e2,e3⟩
 ·refine⟨u.set bO (.obj 28 (xs.set j (.lst (natsL r) .no))),.of_gs (GS.wkc h.o (List.length_set ..) fun i y hy=>?_),St.set_same _ _ _,h.nO,by rw[List.length_set];exact h.ln,dn,fun k r' hk hr'=>?_,ap2,fun z hz=>by rw[St.set_other _ _ (fun e=>hz (by rw[e];exact h.nO))];exact h.fr z hz⟩
  ·by_cases e:j=i
   ·subst e
    rw[List.getElem?_set_self hjl]at hy
    injection hy with hy
    subst hy
    subst e1
    exact⟨_,e2,Wk.rawnil,rfl⟩
   ·rw[List.getElem?_set_ne e]at hy
    refine⟨y,hy,Wk.refl _,?_⟩
    have hil:i<out.length:=by rw[← h.ln];exact(List.getElem?_eq_some_iff.1 hy).1
    by_cases hij:i<j
    ·rw[h.d i _ hij (List.getElem?_eq_getElem hil)]at hy
     injection hy with hy;subst hy;rfl
    ·rcases h.c i _ (by omega) (List.getElem?_eq_getElem hil)with ⟨_,e3⟩|⟨g,e3,_⟩
     ·rw[e3]at hy;injection hy with hy;subst hy;rfl
     ·rw[e3]at hy;injection hy with hy;subst hy;rfl
  ·have hkj:j≠k:=by omega
   rw[List.getElem?_set_ne hkj]
   rcases h.c k r' (by omega) hr' with e|⟨g,a1,a2,a3⟩
   ·exact .inl e
   ·refine .inr ⟨g,a1,?_,a3⟩
    rw[St.set_other]
    ·exact a2
    ·intro e;rw[e,h.o]at a2;cases a2
 ·have hgb:g≠bO:=fun e=>by rw[e,h.o]at e2;cases e2
  have hf:=GSg.frz1 h.o e1 e2 (by rw[ints_len,List.length_map])
  have hL:(ints (r.map fun(k:Nat)=>(k:Int))).map (fun y=>[y])=natsL r:=by simp[ints,natsL,Function.comp]
  rw[hL]at hf
  refine⟨_,hf,St.set_same _ _ _,h.nO,by rw[List.length_set];exact h.ln,dn,fun k r' hk hr'=>?_,ap2,fun z hz=>?_⟩
  ·have hkj:j≠k:=by omega
   rw[List.getElem?_set_ne hkj]
   rcases h.c k r' (by omega) hr' with e|⟨g',a1,a2,a3⟩
   ·exact .inl e
   ·refine .inr ⟨g',a1,?_,a3⟩
    have n1:g'≠bO:=fun e=>by rw[e,h.o]at a2;cases a2
    have n2:g'≠g:=fun e=>hkj (h.ap j k g _ _ e1 (e ▸ a1))
    rw[St.set_other _ _ n1,St.set_other _ _ n2]
    exact a2
  ·rw[St.set_other _ _ (fun e=>hz (by rw[e];exact h.nO)),St.set_other _ _ (fun e=>hz (by rw[e];exact e3))]
   exact h.fr z hz
theorem frz_all {s:St}{bO:Nat}{out:List (List Nat)}:∀(d j:Nat) {u:St} {xs:List VV},j+d=out.length→PlF s u bO xs out j→∃u' xs',GSg u u'∧PlF s u' bO xs' out out.length
 |0,j,u,xs,hd,h=>by
  have:j=out.length:=by omega
  subst this
  exact⟨u,xs,.refl u,h⟩
 |d+1,j,u,xs,hd,h=>by
  have hr:=List.getElem?_eq_getElem (show j<out.length by omega)
  obtain⟨u1,g1,h1⟩:=frz_step h hr
  obtain⟨u2,xs2,g2,h2⟩:=frz_all d (j+1) (by omega) h1
  exact⟨u2,xs2,g1.trans g2,h2⟩
def rowsN (out:List (List Nat)):List VV:=out.map fun r=>.lst (natsL r) .no
theorem PlS.freeze {s u:St}{bO:Nat}{xs:List VV}{out:List (List Nat)}(h:PlS s u bO xs out):GSg u (s.set bO (.obj 28 (rowsN out))):=by
 obtain⟨u',xs',g1,h1⟩:=frz_all (s:=s) (bO:=bO) (out:=out) out.length 0 (by omega) ⟨h.o,h.nO,h.ln,fun k r hk _=>by omega,fun k r _ hr=>h.c k r hr,h.ap,h.fr⟩
 have e:xs'=rowsN out:=by
  apply List.ext_getElem?
  intro k
  simp only[rowsN,List.getElem?_map]
  by_cases hk:k<out.length
  ·rw[h1.d k _ hk (List.getElem?_eq_getElem hk),List.getElem?_eq_getElem hk];rfl
  ·rw[List.getElem?_eq_none (by rw[h1.ln];omega),List.getElem?_eq_none (by omega)];rfl
 subst e
 refine g1.trans (.of_fg fun z=>?_)
 by_cases e:z=bO
 ·subst e;rw[St.set_same,h1.o];exact .inr rfl
 ·rw[St.set_other _ _ e]
  by_cases hz:s z=.free
  ·exact .inl hz
  ·exact .inr (h1.fr z hz).symm
def grpF (ds:List Dm):List (List UInt8)→List Nat→List Nat→Option (List Nat×List Nat)
 |[],l,sn=>some (l,sn)
 |p::r,l,sn=>if ixD p ds 0<0∨(ixD p ds 0).toNat∈sn then none else grpF ds r (l++[(ixD p ds 0).toNat]) (sn++[(ixD p ds 0).toNat])
def passF (wd:List Nat)(lv:Nat):List Nat→List (List Nat)→Nat→Bool→List (List Nat)×Nat×Bool
 |[],o,nx,mo=>(o,nx,mo)
 |k::r,o,nx,mo=>if lv<wd.getD k 0 then passF wd lv r (o.set k (o.getD k []++[nx])) (nx+1) true else passF wd lv r o nx mo
def levF (wd l:List Nat):Nat→Nat→List (List Nat)→Nat→List (List Nat)×Nat
 |0,_,o,nx=>(o,nx)
 |f+1,lv,o,nx=>if (passF wd lv l o nx false).2.2=true then levF wd l f (lv+1) (passF wd lv l o nx false).1 (passF wd lv l o nx false).2.1 else((passF wd lv l o nx false).1,(passF wd lv l o nx false).2.1)
def plF (ds:List Dm)(wd:List Nat):List (List UInt8)→List (List Nat)→Nat→List Nat→Option (List (List Nat)×List Nat)
 |[],o,_,sn=>some (o,sn)
 |g::r,o,nx,sn=>match grpF ds (splitC 42 g) [] sn with
  |none=>none
  |some (l,sn')=>plF ds wd r (levF wd l 64 0 o nx).1 (levF wd l 64 0 o nx).2 sn'
def finF (n:Nat):Option (List (List Nat)×List Nat)→Except Int (List (List Nat))
 |none=>.error 70
 |some (o,sn)=>if sn.length<n then .error 70 else .ok (o.map List.reverse)
def placeF (ds:List Dm)(od:List UInt8):Except Int (List (List Nat)):=
 if mayDs ds=true then finF ds.length (plF ds (wdL ds) (if od=[] then [] else splitC 95 od) (List.replicate ds.length []) 0 [])else .error 1
theorem ixD_lt {p:List UInt8}:∀{ds:List Dm} {i:Nat},ixD p ds i<0∨((i:Int)≤ixD p ds i∧ixD p ds i<(i:Int)+ds.length)
 |[],i=>.inl (by simp[ixD])
 |d::r,i=>by
  simp only[ixD]
  by_cases h:d.1=p
  ·rw[if_pos h]
   right
   simp only[List.length_cons]
   omega
  ·rw[if_neg h]
   rcases ixD_lt (p:=p) (ds:=r) (i:=i+1)with e|⟨e1,e2⟩
   ·exact .inl e
   ·right
    simp only[List.length_cons]
    omega
theorem splice_one {α:Type}{xs:List α}{k:Nat}(h:k<xs.length)(y:α):splice xs k [y]=xs.set k y:=by
 rw[splice,List.set_eq_take_append_cons_drop,if_pos h]
 simp
theorem passF_mo {wd:List Nat}{lv:Nat}:∀{l:List Nat} {o:List (List Nat)} {nx:Nat} {mo:Bool},(passF wd lv l o nx mo).2.2=true→mo=true∨∃k,k∈l∧lv<wd.getD k 0
 |[],o,nx,mo,h=>.inl h
 |k::r,o,nx,mo,h=>by
  unfold passF at h
  split at h
  ·exact .inr ⟨k,List.mem_cons_self ..,by assumption⟩
  ·rcases passF_mo h with e|⟨k',h1,h2⟩
   ·exact .inl e
   ·exact .inr ⟨k',List.mem_cons_of_mem _ h1,h2⟩
theorem splitC_part (c:UInt8):∀(s:List UInt8) (p:List UInt8),p∈splitC c s→p.length≤s.length
 |[],p,h=>by simp[splitC]at h;subst h;simp
 |b::l,p,h=>by
  have ih:=splitC_part c l
  simp only[splitC]at h
  split at h
  ·rcases List.mem_cons.1 h with rfl|h
   ·simp
   ·have:=ih p h;simp;omega
  ·split at h
   ·simp at h;subst h;simp
   ·rename_i q r hq
    rcases List.mem_cons.1 h with rfl|h
    ·have:=ih q (by rw[hq];simp);simp;omega
    ·have:=ih p (by rw[hq];simp[h]);simp;omega
structure PlU (s u:St) (bO bm n:Nat) (xs:List VV) (out:List (List Nat)) (sn:List Nat) (nx:Nat):Prop where
 p:PlS s u bO xs out
 m:u bm=.map (mpZ encB (seenZ sn))
 ol:out.length=n
 rl:∀r,r∈out→r.length≤nx
 nd:sn.Nodup
 lt:∀k,k∈sn→k<n
theorem PlU.fg {s u:St}{bO bm n:Nat}{xs:List VV}{out:List (List Nat)}{sn:List Nat}{nx:Nat}(h:PlU s u bO bm n xs out sn nx):Fg u s:=fun z=>by
 by_cases hz:s z=.free
 ·exact .inl hz
 ·exact .inr (h.p.fr z hz).symm
theorem PlU.put {s u:St}{bO bm n:Nat}{xs:List VV}{out:List (List Nat)}{sn:List Nat}{nx k:Nat}(h:PlU s u bO bm n xs out sn nx)(hb:s bm=.free)(hk:k∉sn)(hkn:k<n) :
  PlU s (u.set bm (.map (mpZ encB (seenZ (sn++[k]))))) bO bm n xs out (sn++[k]) nx:=by
 refine⟨h.p.other fun z hz=>St.set_other _ _ fun e=>?_,St.set_same _ _ _,h.ol,h.rl,?_,fun z hz=>?_⟩
 ·subst e
  rcases hz with ⟨T,ys,e⟩|⟨T,sz,ys,e⟩|e
  ·rw[h.m]at e;cases e
  ·rw[h.m]at e;cases e
  ·exact e hb
 ·rw[List.nodup_append]
  exact⟨h.nd,by simp,fun a ha b hb2 e=>by rw[List.mem_singleton]at hb2;subst hb2;subst e;exact hk ha⟩
 ·rcases List.mem_append.1 hz with e|e
  ·exact h.lt z e
  ·rw[List.mem_singleton]at e;rw[e];exact hkn
theorem PlU.len {s u:St}{bO bm n:Nat}{xs:List VV}{out:List (List Nat)}{sn:List Nat}{nx:Nat}(h:PlU s u bO bm n xs out sn nx):sn.length≤n:=by
 have:=nodup_le (X:=sn) (Y:=List.range n) h.nd fun x hx=>List.mem_range.2 (h.lt x hx)
 rwa [List.length_range]at this
theorem OwnOk.set {s:St}{o:Own}{n b:Nat}{c:Cell}(h:OwnOk s o n)(hn:NotOwn o b):OwnOk (s.set b c) o n:=by
 cases o with
 |at_ x=>exact(St.set_other _ _ (fun e=>hn e.symm)).trans h
 |_=>exact h
theorem PlU.row {s u v:St}{bO bm n:Nat}{xs:List VV}{out:List (List Nat)}{sn:List Nat}{nx k:Nat}{r:List Nat}{y:Nat}(h:PlU s u bO bm n xs out sn nx)(hk:out[k]?=some r)
  (hv:∀z,u z≠.free→z≠bO→(∀g n,xs[k]?=some (.mrw g n)→z≠g)→v z=u z) (ho:v bO=.obj 28 (xs.set k (.mrw y (r++[nx]).length))) (hy:v y=.row 3 1 (ints ((r++[nx]).map fun(k:Nat)=>(k:Int)))) (hyf:u y=.free∨∃n,xs[k]?=some (.mrw y n)) :
  PlU s v bO bm n (xs.set k (.mrw y (r++[nx]).length)) (out.set k (r++[nx])) sn (nx+1):=by
 have hmf:u bm≠.free:=by rw[h.m];simp
 refine⟨h.p.step hk hv ho hy hyf,?_,by rw[List.length_set];exact h.ol,fun z hz=>?_,h.nd,h.lt⟩
 ·rw[hv bm hmf (fun e=>by have:=h.p.o;rw[← e,h.m]at this;cases this) fun g n' hx e=>?_]
  ·exact h.m
  ·rcases h.p.c k r hk with ⟨_,e2⟩|⟨g',e2,e3,_⟩
   ·rw[hx]at e2;cases e2
   ·rw[hx]at e2
    injection e2 with e2
    injection e2 with e2 _
    rw[← e2,← e,h.m]at e3
    cases e3
 ·rcases List.mem_or_eq_of_mem_set hz with e|e
  ·have:=h.rl z e;omega
  ·rw[e,List.length_append]
   have:=h.rl r (List.mem_of_getElem? hk)
   simp
   omega
def plV:Except Int (List (List Nat))→VV
 |.error e=>.tup [.lst [] .no,.int .i64 e]
 |.ok o=>.tup [.lst (atC o) .no,.int .i64 0]
set_option maxHeartbeats 32000000 in
theorem Lplace_S (s:St)(ds:List Dm)(ow:Own)(od:List UInt8)(hl:ds.length≤1000000)(hnl:∀d,d∈ds→d.1.length≤1000000000)(hod:od.length≤10000) :
  SRet Tryz.prog 61 [.lst (domsI ds) ow,.str od] s (plV (placeF ds od)) s:=by
 have w1:=Lwidths_S s ds ow hl hnl
 have hlD:=domsI_len (ds:=ds)
 by_cases hmay:mayDs ds=true
 ·have hm2:=hmay
  unfold mayDs at hm2
  simp only[Bool.and_eq_true,decide_eq_true_eq]at hm2
  obtain⟨m1,m2,m3⟩:=hm2
  have hB:(decide ((wdL ds).sum≤256) && decide (ds.length≤32))=true:=by simp[m2,m3]
  unfold wdR at w1
  rw[if_pos m1,hB]at w1
  have wx:=fun(u:St) (sb:Nat) (x:List UInt8) (h:u sb=.obj 9 [.str x])=>LixF_S u sb x ds ow hl h
  have hwl:(wdL ds).length=ds.length:=by simp[wdL]
  have hw62:∀k,(wdL ds).getD k 0≤62:=fun k=>by
   rw[List.getD_eq_getElem?_getD,wdL,List.getElem?_map]
   cases ds[k]? with
   |none=>simp
   |some d=>exact halvF_le _ _
  have hnw:(natsL (wdL ds)).length=ds.length:=by rw[natsL_len,hwl]
  have hwat:∀k,k<ds.length→(natsL (wdL ds))[k]?=some [.int .i64 (((wdL ds).getD k 0:Nat):Int)]:=fun k hk=>by
   refine natsL_at ?_
   rw[List.getD_eq_getElem?_getD,List.getElem?_eq_getElem (by omega)]
   rfl
  obtain⟨RES,hRES⟩:∃R,plF ds (wdL ds) (if od=[] then [] else splitC 95 od) (List.replicate ds.length []) 0 []=R:=⟨_,rfl⟩
  have hfin:placeF ds od=finF ds.length RES:=by
   unfold placeF
   rw[if_pos hmay,hRES]
  have hsp1:=fun u=>Split_S u od 95 (by omega)
  have HFIN:=Lib.hid hfin
  obtain⟨AN,hAN⟩:∃AN,plV (placeF ds od)=AN:=⟨_,rfl⟩
  rw[hAN]
  have HAN:=Lib.hid hAN
  clear hfin hAN hmay hB m1 m2 hnl
  have HRES:=Lib.hid hRES
  have HW62:=Lib.hid hw62
  have HWAT:=Lib.hid hwat
  have WX:=Lib.hid wx
  clear hRES hw62 hwat wx
  generalize hWD:wdL ds=wd at *
  generalize wd.sum=SM at *
  generalize natsL wd=WL at *
  generalize domsI ds=D at *
  clear hWD
  have hgl:(if od=[] then [] else splitC 95 od).length≤10001:=by
   split
   ·simp
   ·have:=splitC_len 95 od;omega
  obtain⟨GR,hGR⟩:∃GR,(if od=[] then [] else splitC 95 od)=GR:=⟨_,rfl⟩
  rw[hGR]at hgl
  have hgg:∀g,g∈GR→g.length≤10000:=fun g hg=>by
   rw[← hGR]at hg
   split at hg
   ·simp at hg
   ·exact Nat.le_trans (splitC_part 95 od g hg) hod
  rw[hGR]at HRES
  have HGG:=Lib.hid hgg
  have hgrl:(strs GR).length=GR.length:=by simp[strs]
  have hgat:=fun(i:Nat) (g:List UInt8) (h:GR[i]?=some g)=>show (strs GR)[i]?=some [.str g] by simp[strs,h]
  have HGAT:=Lib.hid hgat
  clear hgg hgat
  refine G_enter Tryz.func61 rfl Tryz.ntmps61 rfl fun Q hQ hQe=>?_
  (repeat'(first|(with_reducible refine Kp_atQ 9 ?_)|refine Ctl ?_|((with_reducible refine Kof.use hK ?_);clear hK hE K E)|((with_reducible refine W_cond (fun h=>?_) (fun h=>?_))<;>(try(exfalso;assumption)))|((first|(with_reducible first|refine G_region fun K E hK hE=>?_|refine call_ret can93 (w1) ?_|refine W_and ?_)|((with_reducible refine W_fresh (fun b hb=>?_));(repeat(obtain⟨_,hb⟩:=hb))))<;>(try simp(disch:=omega) only[go_sem,seval,hlD,Int.toNat_natCast, *]))))
  unfold StopQ
  refine Kp_nameQ fun S hS=>?_
  rename_i bO hbO _ _
  obtain⟨bm,hbm⟩:∃z,z=b:=⟨_,rfl⟩
  subst hbm
  have hsbm:s bm=.free:=by assumption
  have hOm:¬ bO=bm:=by assumption
  have hmO:¬ bm=bO:=fun e=>hOm e.symm
  have hSO:S bO=.obj 28 (List.replicate ds.length (.lst [] .full)):=by rw[hS];simp only[St.set,if_true,if_false, *]
  have hSm:S bm=.map []:=by rw[hS];exact St.set_same _ _ _
  have hSf:∀z,s z≠.free→S z=s z:=fun z hz=>by rw[hS,St.set_other _ _ (nef hsbm hz).1,St.set_other _ _ (nef hbO hz).1]
  refine Kp_gsg (.of_gs (GS.wkc (cs':=List.replicate ds.length (.raw (.slice none 0 0))) hSO (by simp) (fun i y hy=>by
   rw[List.getElem?_replicate]at hy
   split at hy
   ·injection hy with hy
    subst hy
    exact⟨_,by rw[List.getElem?_replicate,if_pos (by assumption)],Wk.toraw,rfl⟩
   ·cases hy))) ?_
  refine Kp_nameQ fun S1 hS1=>?_
  have hU:PlU s S1 bO bm ds.length (List.replicate ds.length (.raw (.slice none 0 0))) (List.replicate ds.length []) [] 0:=by
   refine⟨⟨by rw[hS1];exact St.set_same _ _ _,hbO,by simp,fun k r hk=>.inl ?_,fun k k' g n n' h1=>?_,fun z hz=>by rw[hS1,St.set_other _ _ (nef hbO hz).1];exact hSf z hz⟩,by rw[hS1,St.set_other _ _ hmO];exact hSm,by simp,fun r hr=>by rw[List.mem_replicate]at hr;rw[hr.2];simp,List.nodup_nil,fun k hk=>by simp at hk⟩
   ·rw[List.getElem?_replicate]at hk ⊢
    split at hk
    ·injection hk with hk
     exact⟨hk.symm,by rw[if_pos (by assumption)]⟩
    ·cases hk
   ·rw[List.getElem?_replicate]at h1
    split at h1
    ·injection h1 with h1;cases h1
    ·cases h1
  have HU:=Lib.hid hU
  have HBM:=Lib.hid hsbm
  clear hS hS1 hSO hSm hSf hU hb hbO hsbm
  have hgoal:od=[]∨od≠[]:=by by_cases h:od=[];exact .inl h;exact .inr h
  rcases hgoal with h0|h0
  focus
   have hG0:GR=[]:=by rw[← hGR,if_pos h0]
   have HG0:=Lib.hid hG0
   subst h0
   clear hG0 hGR
   (repeat'(first|(with_reducible refine Kp_atQ 11 ?_)|refine Ctl ?_|((with_reducible refine Kof.use hK ?_);clear hK hE K E)|((with_reducible refine W_cond (fun h=>?_) (fun h=>?_))<;>(try(exfalso;assumption)))|(((with_reducible refine G_region fun K E hK hE=>?_))<;>(try simp(disch:=omega) only[go_sem,seval, *]))))
   unfold StopQ
   refine Kp_wkt 13 (x:=.lst [] .full) (y:=.lst (strs GR) .no) (z_sl) (by rw[HG0.out];exact Wk.lst [] .full) ?_
   clear HG0
  rotate_left
  focus
   have hG0:splitC 95 od=GR:=by rw[← hGR,if_neg h0]
   have wz:=hsp1 S1
   rw[hG0]at wz
   clear hG0 hGR hsp1
   (repeat'(first|(with_reducible refine Kp_atQ 11 ?_)|refine Ctl ?_|((with_reducible refine Kof.use hK ?_);clear hK hE K E)|((with_reducible refine W_cond (fun h=>?_) (fun h=>?_))<;>(try(exfalso;assumption)))|(((with_reducible first|refine G_region fun K E hK hE=>?_|refine call_ret can94 (wz) ?_))<;>(try simp(disch:=omega) only[go_sem,seval,h0, *]))))
   unfold StopQ
   clear wz
  all_goals
   (repeat'(first|refine Ctl ?_|((with_reducible refine Kof.use hK ?_);clear hK hE K E)|(((with_reducible refine G_region fun K E hK hE=>?_))<;>(try simp(disch:=omega) only[go_sem,seval,hgrl, *]))))
   refine G_loop (fun m env s'=>∃(j nx:Nat) (xs:List VV) (out:List (List Nat)) (sn:List Nat),j≤GR.length∧m+j=GR.length∧Hid (plF ds wd (GR.drop j) out nx sn=RES)∧nx≤2112 * j∧Hid (PlU s s' bO bm ds.length xs out sn nx)∧sn.length≤ds.length∧env 0=.lst D ow∧env 6=.lst WL .no∧env 9=.msl bO ds.length∧env 10=.int .i64 ((ds.length:Int) - (sn.length:Int))∧env 11=.int .i64 nx∧env 12=.mp bm∧env 44=.lst (strs GR) .no∧env 45=.int .i64 GR.length∧env 46=.int .i64 j) GR.length ?_ ?_
   ·exact⟨_,Fg.refl _,0,0,_,_,[],by omega,by omega,HRES,by omega,HU,by simp,z_sl,z_sl,z_sl,by(simp only[List.length_nil,Int.natCast_zero,Int.sub_zero];((try simp(disch:=assumption) only[go_sem,seval, *])<;>rfl)),z_sl,z_sl,z_sl,z_sl,z_sl⟩
   clear HRES HU w1
   rintro m env u ⟨j,nx,xs,out,sn,hj,hmj,HR,hnx,HU,hsnl,e0,e6,e9,e10,e11,e12,e44,e45,e46⟩
   by_cases h2:j<GR.length
   ·have hg:=HGAT.out j _ (List.getElem?_eq_getElem h2)
    have hgl2:=HGG.out _ (List.getElem_mem h2)
    have hdr:=List.drop_eq_getElem_cons h2
    generalize GR[j]=gp at *
    have hr:=HR.out
    rw[hdr]at hr
    simp only[plF]at hr
    have wz:=Split_S u gp 42 (by omega)
    obtain⟨PT,hPT⟩:∃PT,splitC 42 gp=PT:=⟨_,rfl⟩
    rw[hPT]at wz hr
    have hptl:PT.length≤10001:=by rw[← hPT];have:=splitC_len 42 gp;omega
    have hpts:(strs PT).length=PT.length:=by simp[strs]
    have hpat:=fun(i:Nat) (g:List UInt8) (h:PT[i]?=some g)=>show (strs PT)[i]?=some [.str g] by simp[strs,h]
    obtain⟨RG,hRG⟩:∃RG,grpF ds PT [] sn=RG:=⟨_,rfl⟩
    rw[hRG]at hr
    have HRG:=Lib.hid hRG
    have HR2:=Lib.hid hr
    have HPAT:=Lib.hid hpat
    have hnl0:natsL ([]:List Nat)=[]:=rfl
    clear hdr hr hPT hpat hRG HR
    (repeat'(first|refine Ctl ?_|((with_reducible refine Kof.use hK ?_);clear hK hE K E)|((with_reducible refine W_cond (fun h=>?_) (fun h=>?_))<;>(try(exfalso;assumption)))|(((with_reducible first|refine G_region fun K E hK hE=>?_|refine call_ret can94 (wz) ?_))<;>(try simp(disch:=omega) only[go_sem,seval,hg,hpts, *]))))
    refine G_loop (fun m2 env s'=>∃(i:Nat) (l sn2:List Nat) (o:Own) (u2:St),i≤PT.length∧m2+i=PT.length∧Hid (grpF ds (PT.drop i) l sn2=RG∧∀k,k∈l→k∈sn2)∧Hid (PlU s u2 bO bm ds.length xs out sn2 nx)∧sn2.length≤ds.length∧l.length≤sn2.length∧OwnOk u2 o l.length∧s'=u2.own o 3 1 l.length∧env 0=.lst D ow∧env 6=.lst WL .no∧env 9=.msl bO ds.length∧env 10=.int .i64 ((ds.length:Int) - (sn2.length:Int))∧env 11=.int .i64 nx∧env 12=.mp bm∧env 44=.lst (strs GR) .no∧env 45=.int .i64 GR.length∧env 46=.int .i64 j∧env 16=.lst (natsL l) o∧env 51=.lst (strs PT) .no∧env 52=.int .i64 PT.length∧env 53=.int .i64 i) PT.length ?_ ?_
    ·exact⟨_,Fg.refl _,0,[],sn,.full,u,by omega,by omega,Lib.hid ⟨HRG.out,fun k hk=>by simp at hk⟩,HU,hsnl,by simp,rfl,rfl,z_sl,z_sl,z_sl,z_sl,z_sl,z_sl,z_sl,z_sl,z_sl,by(rw[hnl0];((try simp(disch:=assumption) only[go_sem,seval, *])<;>rfl)),z_sl,z_sl,z_sl⟩
    clear e0 e6 e9 e10 e11 e12 e44 e45 e46 HRG HU wz hnl0
    rintro m2 env s' ⟨i,l,sn2,o,u2,hi,hmi,HG,HU,hsnl2,hll,hO,rfl,e0,e6,e9,e10,e11,e12,e44,e45,e46,e16,e51,e52,e53⟩
    by_cases h3:i<PT.length
    ·have hpx:=HPAT.out i _ (List.getElem?_eq_getElem h3)
     have hdr:=List.drop_eq_getElem_cons h3
     generalize PT[i]=pp at *
     obtain⟨g1,g2⟩:=HG.out
     rw[hdr]at g1
     simp only[grpF]at g1
     have hum:=HU.out.m
     have hmf0:u2 bm≠.free:=by rw[hum];simp
     have hnb:=hO.not hmf0
     have hmf:(u2.own o 3 1 l.length) bm≠.free:=by rw[own_rd hnb];exact hmf0
     have hix:=ixD_lt (p:=pp) (ds:=ds) (i:=0)
     have hfail:RG=none→AN=.tup [.lst [] .no,.int .i64 70]:=fun h=>by
      have h5:=HR2.out
      rw[h]at h5
      rw[← HAN.out,HFIN.out,← h5]
      rfl
     have HFAIL:=Lib.hid hfail
     have HG1:=Lib.hid g1
     have HG2:=Lib.hid g2
     have wq:=fun(u:St) (sb:Nat) (h:u sb=.obj 9 [.str pp])=>WX.out u sb pp h
     have WQ:=Lib.hid wq
     have hfgu:=HU.out.fg
     have HFGU:=Lib.hid hfgu
     clear hdr g1 g2 hfail HG wq hfgu
     (repeat'(first|refine Ctl ?_|((with_reducible refine Kof.use hK ?_);clear hK hE K E)|((with_reducible refine W_cond (fun h=>?_) (fun h=>?_))<;>(try(exfalso;assumption)))|((first|(with_reducible refine G_region fun K E hK hE=>?_)|((with_reducible refine W_fresh (fun b hb=>?_));(repeat(obtain⟨_,hb⟩:=hb))))<;>(try simp(disch:=omega) only[go_sem,seval,hpx, *]))))
     obtain⟨nb1,nb2⟩:=nef hb hmf0
     have hbo:(u2.own o 3 1 l.length) b=.free:=by rw[own_fr];exact⟨by assumption,hb⟩
     refine call_ret can95 (WQ.out _ _ (St.set_same _ _ _)) ?_
     simp only[go_sem,seval]
     generalize hkx:ixD pp ds 0=kx at *
     by_cases c1:kx<0
     ·have hA:=HFAIL.out (by rw[← HG1.out,if_pos (.inl c1)])
      (repeat'(first|refine Ctl ?_|((with_reducible refine Kof.use hK ?_);clear hK hE K E)|((with_reducible refine W_cond (fun h=>?_) (fun h=>?_))<;>(try(exfalso;assumption)))|(((with_reducible refine G_region fun K E hK hE=>?_))<;>(try simp(disch:=omega) only[go_sem,seval,c1, *]))))
      all_goals(refine W_ret res61 hQ ?_)
      all_goals(rw[hA];exact⟨_,_,Wk.tupQ,Fg.trans (Fg.of_set _ hbo) (Fg.trans (Fg.own hO) HFGU.out),rfl,rfl⟩)
     ·obtain⟨kk,rfl⟩:∃kk:Nat,kx=(kk:Int):=⟨kx.toNat,by omega⟩
      have hkn:kk<ds.length:=by omega
      have hsk:=seenZ_lk (k:=kk) (ks:=sn2)
      have G1:=HG1.out
      simp only[Int.toNat_natCast]at G1
      by_cases c2:kk∈sn2
      ·have hA:=HFAIL.out (by rw[← G1,if_pos (.inr c2)])
       rw[decide_eq_true c2]at hsk
       clear G1
       generalize seenZ sn2=Sn at *
       (repeat'(first|refine Ctl ?_|((with_reducible refine Kof.use hK ?_);clear hK hE K E)|((with_reducible refine W_cond (fun h=>?_) (fun h=>?_))<;>(try(exfalso;assumption)))|(((with_reducible refine G_region fun K E hK hE=>?_))<;>(try simp(disch:=first|assumption|omega) only[go_sem,seval,c1,hsk, *]))))
       all_goals(refine W_ret res61 hQ ?_)
       all_goals(rw[hA];exact⟨_,_,Wk.tupQ,Fg.trans (Fg.of_set _ hbo) (Fg.trans (Fg.own hO) HFGU.out),rfl,rfl⟩)
      ·rw[if_neg (by rintro(h|h);exact c1 h;exact c2 h)]at G1
       rw[decide_eq_false c2]at hsk
       have hpt:=seenZ_pt c2
       have HG3:=Lib.hid G1
       have hnl2:natsL (l++[kk])=natsL l++[[.int .i64 (kk:Int)]]:=natsL_add
       have HNL:=Lib.hid hnl2
       have hnl3:(natsL l).length=l.length:=natsL_len
       clear G1 HG1 hnl2
       generalize hS1':seenZ sn2=Sn at *
       generalize hS2':seenZ (sn2++[kk])=Sn2 at *
       have HS2:=Lib.hid hS2'
       clear hS1' hS2'
       generalize natsL l=NL at *
       (repeat'(first|(with_reducible refine Kp_atQ 21 ?_)|refine Ctl ?_|((with_reducible refine Kof.use hK ?_);clear hK hE K E)|((with_reducible refine W_cond (fun h=>?_) (fun h=>?_))<;>(try(exfalso;assumption)))|(((with_reducible refine G_region fun K E hK hE=>?_))<;>(try simp(disch:=first|assumption|omega) only[go_sem,seval,c1,hsk, *]))))
       unfold StopQ
       refine Kp_forget (s':=u2.own o 3 1 l.length) (Fg.of_set _ hbo) ?_
       (repeat'(first|refine Ctl ?_|((with_reducible refine Kof.use hK ?_);clear hK hE K E)|((first|(with_reducible refine G_region fun K E hK hE=>?_)|((with_reducible refine W_app (fun o2 ho=>?_));(try simp(disch:=assumption) only[disown_set,disown_own,ownok_o,ownok_m,List.length_map,List.length_cons,List.length_nil,Nat.zero_add,hpt,hnl3]at ho);(repeat(obtain⟨_,ho⟩:=ho))))<;>(try simp(disch:=first|assumption|omega) only[go_sem,seval,hpt,hnl3, *]))))
       have hno:NotOwn o2 bm:=by assumption
       have hU2:=HU.out.put HBM.out c2 hkn
       have hln2:=hU2.len
       rw[HS2.out]at hU2
       have hleft:(ds.length:Int) - ((sn2++[kk]).length:Int)=(ds.length:Int) - (sn2.length:Int) - 1:=by rw[List.length_append];simp;omega
       have hl1:(l++[kk]).length=l.length+1:=by simp
       refine⟨_,Fg.refl _,m2 - 1,by omega,i+1,l++[kk],sn2++[kk],o2,u2.set bm (.map (mpZ encB Sn2)),by omega,by omega,Lib.hid ⟨HG3.out,fun z hz=>?_⟩,Lib.hid hU2,hln2,by simp;omega,by rw[hl1];exact ho.set hno,by rw[hl1];exact(own_push hno).symm,z_sl,z_sl,z_sl,by(rw[hleft];((try simp(disch:=assumption) only[go_sem,seval, *])<;>rfl)),z_sl,z_sl,z_sl,z_sl,z_sl,by(rw[HNL.out];((try simp(disch:=assumption) only[go_sem,seval, *])<;>rfl)),z_sl,z_sl,z_sl⟩
       rcases List.mem_append.1 hz with e|e
       ·exact List.mem_append_left _ (HG2.out z e)
       ·exact List.mem_append_right _ e
    ·have hie:i=PT.length:=by omega
     subst hie
     obtain⟨g1,g2⟩:=HG.out
     rw[List.drop_length]at g1
     simp only[grpF]at g1
     have hR3:=HR2.out
     rw[← g1]at hR3
     simp only at hR3
     have hll2:l.length≤32:=by omega
     have hlt2:∀k,k∈l→k<ds.length:=fun k hk=>HU.out.lt k (g2 k hk)
     have hnll:(natsL l).length=l.length:=natsL_len
     have hlat:=fun(i k:Nat) (h:l[i]?=some k)=>natsL_at h
     obtain⟨RL,hRL⟩:∃RL,levF wd l 64 0 out nx=RL:=⟨_,rfl⟩
     rw[hRL]at hR3
     have HR3:=Lib.hid hR3
     have HRL:=Lib.hid hRL
     have HLT2:=Lib.hid hlt2
     have HLAT:=Lib.hid hlat
     clear g1 g2 hR3 hlt2 hlat hRL HG HR2
     generalize natsL l=NL at *
     (repeat'(first|(with_reducible refine Kp_atQ 25 ?_)|refine Ctl ?_|((with_reducible refine Kof.use hK ?_);clear hK hE K E)|((with_reducible refine W_cond (fun h=>?_) (fun h=>?_))<;>(try(exfalso;assumption)))|(((with_reducible refine G_region fun K E hK hE=>?_))<;>(try simp(disch:=omega) only[go_sem,seval, *]))))
     unfold StopQ
     refine Kp_forget (s':=u2) (Fg.own hO) ?_
     (repeat'(first|refine Ctl ?_|((with_reducible refine Kof.use hK ?_);clear hK hE K E)|(((with_reducible refine G_region fun K E hK hE=>?_))<;>(try simp(disch:=omega) only[go_sem,seval, *]))))
     refine G_loop (fun f env s'=>∃(lv nx3:Nat) (xs3:List VV) (out3:List (List Nat)) (mo:Bool),Hid ((if mo=true then levF wd l f lv out3 nx3 else(out3,nx3))=RL∧(mo=true→lv=0∨∃k,k∈l∧lv - 1<wd.getD k 0))∧f+lv=64∧nx3≤nx+32 * lv∧Hid (PlU s s' bO bm ds.length xs3 out3 sn2 nx3)∧env 0=.lst D ow∧env 6=.lst WL .no∧env 9=.msl bO ds.length∧env 10=.int .i64 ((ds.length:Int) - (sn2.length:Int))∧env 11=.int .i64 nx3∧env 12=.mp bm∧env 44=.lst (strs GR) .no∧env 45=.int .i64 GR.length∧env 46=.int .i64 j∧env 16=.lst NL o∧env 20=.int .i64 lv∧env 21=.bool mo) 64 ?_ ?_
     ·exact⟨_,Fg.refl _,0,nx,xs,out,true,Lib.hid ⟨by rw[if_pos rfl];exact HRL.out,fun _=>.inl rfl⟩,by omega,by omega,HU,z_sl,z_sl,z_sl,z_sl,z_sl,z_sl,z_sl,z_sl,z_sl,z_sl,z_sl,z_sl⟩
     clear e0 e6 e9 e10 e11 e12 e44 e45 e46 e16 e51 e52 e53 HU HRL hO
     rintro f env u3 ⟨lv,nx3,xs3,out3,mo,HL,hfl,hnx3,HU,e0,e6,e9,e10,e11,e12,e44,e45,e46,e16,e20,e21⟩
     cases mo with
     |false=>
      have hq:=HL.out.1
      simp only[Bool.false_eq_true,if_false]at hq
      have hR4:=HR3.out
      rw[← hq]at hR4
      have HR4:=Lib.hid hR4
      have hlv:lv≤64:=by omega
      clear hq hR4 HL
      (repeat'(first|refine Ctl ?_|((with_reducible refine Kof.use hK ?_);clear hK hE K E)|((with_reducible refine W_cond (fun h=>?_) (fun h=>?_))<;>(try(exfalso;assumption)))|(((with_reducible refine G_region fun K E hK hE=>?_))<;>(try simp(disch:=omega) only[go_sem,seval, *]))))
      exact⟨_,Fg.refl _,m - 1,by omega,j+1,nx3,xs3,out3,sn2,by omega,by omega,HR4,by omega,HU,by omega,z_sl,z_sl,z_sl,z_sl,z_sl,z_sl,z_sl,z_sl,z_sl⟩
     |true=>
      obtain⟨q1,q2⟩:=HL.out
      rw[if_pos rfl]at q1
      cases f with
      |zero=>
       exfalso
       rcases q2 rfl with e|⟨k,h1,h2⟩
       ·omega
       ·have:=HW62.out k;omega
      |succ f=>
       simp only[levF]at q1
       obtain⟨PR,hPR⟩:∃PR,passF wd lv l out3 nx3 false=PR:=⟨_,rfl⟩
       rw[hPR]at q1
       have hpm:=fun(h:PR.2.2=true)=>passF_mo (wd:=wd) (lv:=lv) (l:=l) (o:=out3) (nx:=nx3) (mo:=false) (by rw[hPR];exact h)
       have HPM:=Lib.hid hpm
       have HQ1:=Lib.hid q1
       have HPR:=Lib.hid hPR
       clear q1 q2 hPR hpm HL
       (repeat'(first|refine Ctl ?_|((with_reducible refine Kof.use hK ?_);clear hK hE K E)|((with_reducible refine W_cond (fun h=>?_) (fun h=>?_))<;>(try(exfalso;assumption)))|(((with_reducible refine G_region fun K E hK hE=>?_))<;>(try simp(disch:=omega) only[go_sem,seval,hnll, *]))))
       refine G_loop (fun m4 env s'=>∃(i4 nx4:Nat) (xs4:List VV) (out4:List (List Nat)) (mo4:Bool),i4≤l.length∧m4+i4=l.length∧Hid (passF wd lv (l.drop i4) out4 nx4 mo4=PR)∧nx4≤nx3+i4∧Hid (PlU s s' bO bm ds.length xs4 out4 sn2 nx4)∧env 0=.lst D ow∧env 6=.lst WL .no∧env 9=.msl bO ds.length∧env 10=.int .i64 ((ds.length:Int) - (sn2.length:Int))∧env 11=.int .i64 nx4∧env 12=.mp bm∧env 44=.lst (strs GR) .no∧env 45=.int .i64 GR.length∧env 46=.int .i64 j∧env 16=.lst NL o∧env 20=.int .i64 lv∧env 21=.bool mo4∧env 79=.lst NL o∧env 80=.int .i64 l.length∧env 81=.int .i64 i4) l.length ?_ ?_
       ·exact⟨_,Fg.refl _,0,nx3,xs3,out3,false,by omega,by omega,HPR,by omega,HU,z_sl,z_sl,z_sl,z_sl,z_sl,z_sl,z_sl,z_sl,z_sl,z_sl,z_sl,z_sl,z_sl,z_sl,z_sl⟩
       clear e0 e6 e9 e10 e11 e12 e44 e45 e46 e16 e20 e21 HU HPR
       rintro m4 env u4 ⟨i4,nx4,xs4,out4,mo4,hi4,hm4,HP,hnx4,HU,e0,e6,e9,e10,e11,e12,e44,e45,e46,e16,e20,e21,e79,e80,e81⟩
       by_cases h4:i4<l.length
       ·have hkx:=HLAT.out i4 _ (List.getElem?_eq_getElem h4)
        have hkn:=HLT2.out _ (List.getElem_mem h4)
        have hp:=HP.out
        rw[List.drop_eq_getElem_cons h4]at hp
        simp only[passF]at hp
        generalize l[i4]=kk at *
        have hwk:=HWAT.out kk hkn
        have hw62:=HW62.out kk
        generalize wd.getD kk 0=wk at *
        by_cases c1:lv<wk
        ·rw[if_pos c1]at hp
         obtain⟨r,hr⟩:∃r,out4[kk]?=some r:=⟨_,List.getElem?_eq_getElem (by rw[HU.out.ol];exact hkn)⟩
         have hgd:out4.getD kk []=r:=by rw[List.getD_eq_getElem?_getD,hr];rfl
         rw[hgd]at hp
         have HP2:=Lib.hid hp
         have hrl:=HU.out.rl r (List.mem_of_getElem? hr)
         have huo:=HU.out.p.o
         have hxl:kk<xs4.length:=by rw[HU.out.p.ln,HU.out.ol];exact hkn
         have hxn:xs4.length=ds.length:=by rw[HU.out.p.ln,HU.out.ol]
         have hsp:=fun y=>splice_one hxl y
         have c1':(lv:Int)<(wk:Int):=by omega
         have hof:u4 bO≠.free:=by rw[huo];simp
         have hst:=fun v y h1 h2 h3 h4=>HU.out.row (v:=v) (y:=y) hr h1 h2 h3 h4
         have HST:=Lib.hid hst
         clear hp hgd HP hst
         rcases HU.out.p.c kk r hr with ⟨hr0,hx0⟩|⟨g,hx0,hug,hsg⟩
         ·subst hr0
          (repeat'(first|refine Ctl ?_|((with_reducible refine Kof.use hK ?_);clear hK hE K E)|((with_reducible refine W_cond (fun h=>?_) (fun h=>?_))<;>(try(exfalso;assumption)))|((first|(with_reducible first|refine G_region fun K E hK hE=>?_|refine W_if ?_|refine W_ifS ?_)|((with_reducible refine W_app0 (fun bM hM=>?_));(try(obtain⟨_,_⟩:=nef hM hof))))<;>(try simp(disch:=omega) only[go_sem,seval,hkx,hwk,c1',hx0,hsp,hxn,Nat.mul_one, *]))))
          have hbMf:bM≠bO:=by assumption
          refine⟨_,Fg.refl _,m4 - 1,by omega,i4+1,nx4+1,xs4.set kk (.mrw bM ([]++[nx4]).length),_,true,by omega,by omega,HP2,by omega,Lib.hid (HST.out _ bM (fun z hz h1 h2=>?_) (St.set_same _ _ _) ?_ (.inl hM)),z_sl,z_sl,z_sl,z_sl,z_sl,z_sl,z_sl,z_sl,z_sl,z_sl,z_sl,z_sl,z_sl,z_sl,z_sl⟩
          ·rw[St.set_other _ _ h1,St.set_other _ _ (nef hM hz).1]
          ·rw[St.set_other _ _ hbMf,St.set_same];rfl
         ·have hgO:g≠bO:=fun e=>by rw[e,huo]at hug;cases hug
          obtain⟨S',hS'⟩:∃S',u4.set g .free=S':=⟨_,rfl⟩
          have hSo:S' bO=.obj 28 xs4:=by rw[← hS',St.set_other _ _ (Ne.symm hgO)];exact huo
          have hSf:S' bO≠.free:=by rw[hSo];simp
          have hil:(ints (r.map fun(k:Nat)=>(k:Int))).length=r.length:=by rw[ints_len,List.length_map]
          have hap:ints ((r++[nx4]).map fun(k:Nat)=>(k:Int))=ints (r.map fun(k:Nat)=>(k:Int))++[.int .i64 (nx4:Int)]:=by simp[ints]
          have HAP:=Lib.hid hap
          have HS':=Lib.hid hS'
          have HUO:=Lib.hid huo
          clear hap
          generalize ints (r.map fun(k:Nat)=>(k:Int))=RX at *
          (repeat'(first|refine Ctl ?_|((with_reducible refine Kof.use hK ?_);clear hK hE K E)|((with_reducible refine W_cond (fun h=>?_) (fun h=>?_))<;>(try(exfalso;assumption)))|((first|(with_reducible first|refine G_region fun K E hK hE=>?_|refine W_if ?_|refine W_ifS ?_)|((with_reducible refine W_appM (fun bM hM=>?_));(try(obtain⟨_,_⟩:=nef hM hSf))))<;>(try simp(disch:=omega) only[go_sem,seval,hkx,hwk,c1',hx0,hsp,hxn,Nat.mul_one,hil,hS',hSo,hug, *]))))
          have hbMf:bM≠bO:=by assumption
          have hlen:(r++[nx4]).length=r.length+1:=by simp
          have hkeep:∀z,z≠g→S' z=u4 z:=fun z hz=>by rw[← HS'.out];exact St.set_other _ _ hz
          refine⟨_,Fg.refl _,m4 - 1,by omega,i4+1,nx4+1,xs4.set kk (.mrw bM (r++[nx4]).length),_,true,by omega,by omega,HP2,by omega,Lib.hid (HST.out _ bM (fun z hz h1 h2=>?_) (by rw[hlen];exact St.set_same _ _ _) ?_ ?_),z_sl,z_sl,z_sl,z_sl,z_sl,z_sl,z_sl,z_sl,z_sl,z_sl,z_sl,z_sl,z_sl,z_sl,z_sl⟩
          ·have e1:=hkeep z (h2 _ _ hx0)
           rw[St.set_other _ _ h1,St.set_other _ _ (nef hM (by rw[e1];exact hz)).1,e1]
          ·rw[St.set_other _ _ hbMf,St.set_same,HAP.out];rfl
          ·by_cases e:bM=g
           ·exact .inr ⟨_,by rw[e];exact hx0⟩
           ·exact .inl (by rw[← hkeep bM e];exact hM)
        ·rw[if_neg c1]at hp
         have HP2:=Lib.hid hp
         have c1':¬ (lv:Int)<(wk:Int):=by omega
         clear hp HP
         (repeat'(first|refine Ctl ?_|((with_reducible refine Kof.use hK ?_);clear hK hE K E)|((with_reducible refine W_cond (fun h=>?_) (fun h=>?_))<;>(try(exfalso;assumption)))|(((with_reducible refine G_region fun K E hK hE=>?_))<;>(try simp(disch:=omega) only[go_sem,seval,hkx,hwk,c1', *]))))
         exact⟨_,Fg.refl _,m4 - 1,by omega,i4+1,nx4,xs4,out4,mo4,by omega,by omega,HP2,by omega,HU,z_sl,z_sl,z_sl,z_sl,z_sl,z_sl,z_sl,z_sl,z_sl,z_sl,z_sl,z_sl,z_sl,z_sl,z_sl⟩
       ·have hp:=HP.out
        rw[List.drop_of_length_le (by omega)]at hp
        simp only[passF]at hp
        have hq1:=HQ1.out
        have hpm:=HPM.out
        rw[← hp]at hq1 hpm
        simp only at hq1 hpm
        have HQ2:=Lib.hid hq1
        have HPM2:=Lib.hid hpm
        clear hp hq1 hpm HP
        (repeat'(first|refine Ctl ?_|((with_reducible refine Kof.use hK ?_);clear hK hE K E)|((with_reducible refine W_cond (fun h=>?_) (fun h=>?_))<;>(try(exfalso;assumption)))|(((with_reducible refine G_region fun K E hK hE=>?_))<;>(try simp(disch:=omega) only[go_sem,seval, *]))))
        refine⟨_,Fg.refl _,f,by omega,lv+1,nx4,xs4,out4,mo4,Lib.hid ⟨HQ2.out,fun h=>.inr ?_⟩,by omega,by omega,HU,z_sl,z_sl,z_sl,z_sl,z_sl,z_sl,z_sl,z_sl,z_sl,z_sl,z_sl,z_sl⟩
        rcases HPM2.out h with e|e
        ·cases e
        ·exact e
   ·have hje:j=GR.length:=by omega
    subst hje
    have hr:=HR.out
    rw[List.drop_length]at hr
    simp only[plF]at hr
    have hA:AN=plV (finF ds.length (some (out,sn))):=by rw[← HAN.out,HFIN.out,← hr]
    simp only[finF]at hA
    have HFGU:=Lib.hid HU.out.fg
    clear hr HR
    by_cases c1:sn.length<ds.length
    ·rw[if_pos c1]at hA
     have c1':(ds.length:Int) - (sn.length:Int) > 0:=by omega
     have c1'':(0:Int)<(ds.length:Int) - (sn.length:Int):=by omega
     (repeat'(first|refine Ctl ?_|((with_reducible refine Kof.use hK ?_);clear hK hE K E)|((with_reducible refine W_cond (fun h=>?_) (fun h=>?_))<;>(try(exfalso;assumption)))|(((with_reducible refine G_region fun K E hK hE=>?_))<;>(try simp(disch:=omega) only[go_sem,seval,c1',c1'', *]))))
     all_goals(refine W_ret res61 hQ ?_)
     all_goals(rw[hA];exact⟨_,_,Wk.tupQ,HFGU.out,rfl,rfl⟩)
    ·rw[if_neg c1]at hA
     have c1':¬ (ds.length:Int) - (sn.length:Int) > 0:=by omega
     have c1'':¬ (0:Int)<(ds.length:Int) - (sn.length:Int):=by omega
     have hpo:=HU.out.p
     have hol:=HU.out.ol
     have hrl:=HU.out.rl
     have HRLX:=Lib.hid hrl
     have hnx9:nx≤30000000:=by omega
     have HP0:=Lib.hid hpo
     have HA:=Lib.hid hA
     clear hpo hrl hA HFGU HU
     (repeat'(first|refine Ctl ?_|((with_reducible refine Kof.use hK ?_);clear hK hE K E)|((with_reducible refine W_cond (fun h=>?_) (fun h=>?_))<;>(try(exfalso;assumption)))|(((with_reducible refine G_region fun K E hK hE=>?_))<;>(try simp(disch:=omega) only[go_sem,seval,c1',c1'', *]))))
     refine G_loop (fun m env s'=>∃(i:Nat) (xs5:List VV),i≤ds.length∧m+i=ds.length∧Hid (PlS s s' bO xs5 ((out.take i).map List.reverse++out.drop i))∧env 9=.msl bO ds.length∧env 107=.msl bO ds.length∧env 108=.int .i64 ds.length∧env 109=.int .i64 i) ds.length ?_ ?_
     ·exact⟨_,Fg.refl _,0,xs,by omega,by omega,HP0,z_sl,z_sl,z_sl,z_sl⟩
     clear e0 e6 e9 e10 e11 e12 e44 e45 e46 HP0
     rintro m env u5 ⟨i,xs5,hi,hmi,HP,e9,e107,e108,e109⟩
     have hpo:=HP.out.o
     have hxn:xs5.length=ds.length:=by
      rw[HP.out.ln,List.length_append,List.length_map,List.length_take,List.length_drop,hol]
      omega
     by_cases h5:i<ds.length
     ·have hri:((out.take i).map List.reverse++out.drop i)[i]?=some out[i]:=by
       rw[List.getElem?_append_right (by rw[List.length_map,List.length_take];omega)]
       have:i - ((out.take i).map List.reverse).length=0:=by rw[List.length_map,List.length_take];omega
       rw[this,List.getElem?_drop,Nat.add_zero]
       exact List.getElem?_eq_getElem (by omega)
      have hrl:=HRLX.out _ (List.getElem_mem (l:=out) (n:=i) (by omega))
      have hout2:(out.take (i+1)).map List.reverse++out.drop (i+1)=((out.take i).map List.reverse++out.drop i).set i out[i].reverse:=by
       apply List.ext_getElem?
       intro z
       have la:((out.take i).map List.reverse).length=i:=by rw[List.length_map,List.length_take];omega
       have lb:((out.take (i+1)).map List.reverse).length=i+1:=by rw[List.length_map,List.length_take];omega
       by_cases e:i=z
       ·subst e
        rw[List.getElem?_set_self (by rw[List.length_append,la,List.length_drop];omega),List.getElem?_append_left (by omega),List.getElem?_map,List.getElem?_take_of_lt (by omega),List.getElem?_eq_getElem (by omega)]
        rfl
       ·rw[List.getElem?_set_ne e]
        by_cases hz:z<i
        ·rw[List.getElem?_append_left (by omega),List.getElem?_append_left (by omega),List.getElem?_map,List.getElem?_map,List.getElem?_take_of_lt (by omega),List.getElem?_take_of_lt (by omega)]
        ·rw[List.getElem?_append_right (by omega),List.getElem?_append_right (by omega),la,lb,List.getElem?_drop,List.getElem?_drop]
         congr 1
         omega
      generalize out[i]=r at *
      have HO2:=Lib.hid hout2
      clear hout2
      rcases HP.out.c i r hri with ⟨hr0,hx0⟩|⟨g,hx0,hug,hsg⟩
      ·have wz:=Irev0_S u5
       (repeat'(first|refine Ctl ?_|((with_reducible refine Kof.use hK ?_);clear hK hE K E)|((with_reducible refine W_cond (fun h=>?_) (fun h=>?_))<;>(try(exfalso;assumption)))|(((with_reducible first|refine G_region fun K E hK hE=>?_|refine call_ret can97 (wz) ?_|refine W_if ?_))<;>(try simp(disch:=omega) only[go_sem,seval,hx0,hxn, *]))))
       refine⟨_,Fg.refl _,m - 1,by omega,i+1,xs5,by omega,by omega,?_,z_sl,z_sl,z_sl,z_sl⟩
       rw[HO2.out,hr0,show ([]:List Nat).reverse=[] from rfl]
       have:((out.take i).map List.reverse++out.drop i).set i []=(out.take i).map List.reverse++out.drop i:=by
        rw[hr0]at hri
        apply List.ext_getElem?
        intro z
        by_cases e:i=z
        ·subst e
         rw[List.getElem?_set_self (List.getElem?_eq_some_iff.1 hri).1,hri]
        ·rw[List.getElem?_set_ne e]
       rw[this]
       exact HP
      ·have wz:=Irev_S u5 g 3 (r.map fun(k:Nat)=>(k:Int)) (by rw[List.length_map];omega) hug
       rw[List.length_map]at wz
       have hmr:ints (r.map fun(k:Nat)=>(k:Int)).reverse=ints (r.reverse.map fun(k:Nat)=>(k:Int)):=by rw[List.map_reverse]
       rw[hmr]at wz
       have hgO:g≠bO:=fun e=>by rw[e,hpo]at hug;cases hug
       have hsx:xs5.set i (.mrw g r.reverse.length)=xs5:=by
        rw[List.length_reverse]
        apply List.ext_getElem?
        intro z
        by_cases e:i=z
        ·subst e
         rw[List.getElem?_set_self (by omega),hx0]
        ·rw[List.getElem?_set_ne e]
       have hst:=HP.out.step (v:=u5.set g (.row 3 1 (ints (r.reverse.map fun(k:Nat)=>(k:Int))))) (r2:=r.reverse) (y:=g) hri (fun z hz h1 h2=>St.set_other _ _ (h2 _ _ hx0)) (by rw[hsx,St.set_other _ _ (Ne.symm hgO)];exact hpo) (St.set_same _ _ _) (.inr ⟨_,hx0⟩)
       rw[hsx,← HO2.out]at hst
       have HST:=Lib.hid hst
       clear hst hmr hsx
       generalize ints (r.reverse.map fun(k:Nat)=>(k:Int))=RX at *
       (repeat'(first|refine Ctl ?_|((with_reducible refine Kof.use hK ?_);clear hK hE K E)|((with_reducible refine W_cond (fun h=>?_) (fun h=>?_))<;>(try(exfalso;assumption)))|(((with_reducible first|refine G_region fun K E hK hE=>?_|refine call_ret can97 (wz) ?_|refine W_if ?_))<;>(try simp(disch:=omega) only[go_sem,seval,hx0,hxn, *]))))
       exact⟨_,Fg.refl _,m - 1,by omega,i+1,xs5,by omega,by omega,HST,z_sl,z_sl,z_sl,z_sl⟩
     ·have hin:i=ds.length:=by omega
      subst hin
      have hfin:(out.take ds.length).map List.reverse++out.drop ds.length=out.map List.reverse:=by
       rw[List.take_of_length_le (by omega),List.drop_of_length_le (by omega),List.append_nil]
      have hpf:=HP.out
      rw[hfin]at hpf
      have hg:=hpf.freeze
      have hrn:(rowsN (out.map List.reverse)).length=ds.length:=by simp[rowsN,hol]
      have hat2:(rowsN (out.map List.reverse)).map (fun y=>[y])=atC (out.map List.reverse):=by simp[rowsN,atC,Function.comp]
      have hself:s.set bO .free=s:=St.set_self _ _ _ hpf.nO
      have HG:=Lib.hid hg
      clear hfin hpf hg HP
      (repeat'(first|(with_reducible refine Kp_atQ 45 ?_)|refine Ctl ?_|((with_reducible refine Kof.use hK ?_);clear hK hE K E)|((with_reducible refine W_cond (fun h=>?_) (fun h=>?_))<;>(try(exfalso;assumption)))|(((with_reducible refine G_region fun K E hK hE=>?_))<;>(try simp(disch:=omega) only[go_sem,seval, *]))))
      unfold StopQ
      refine Kp_gsg HG.out ?_
      refine Kp_frz 9 bO ds.length (St.set_same _ _ _) (z_sl) hrn ?_
      rw[hat2,St.set_set,hself]
      (repeat'(first|refine Ctl ?_|((with_reducible refine Kof.use hK ?_);clear hK hE K E)|(((with_reducible refine G_region fun K E hK hE=>?_))<;>(try simp(disch:=omega) only[go_sem,seval, *]))))
      all_goals(refine W_ret res61 hQ ?_)
      rw[HA.out]
      exact⟨_,_,Wk.refl _,Fg.refl _,rfl,rfl⟩
 ·have hA:plV (placeF ds od)=.tup [.lst [] .no,.int .i64 1]:=by
   unfold placeF
   rw[if_neg hmay]
   rfl
  rw[hA]
  unfold wdR at w1
  unfold mayDs at hmay
  clear hA
  generalize domsI ds=D at *
  cases h1:okDs [] ds
  ·rw[h1]at w1
   simp only[Bool.false_eq_true,if_false]at w1
   refine G_enter Tryz.func61 rfl Tryz.ntmps61 rfl fun Q hQ hQe=>?_
   (repeat'(first|refine Ctl ?_|((with_reducible refine Kof.use hK ?_);clear hK hE K E)|((with_reducible refine W_cond (fun h=>?_) (fun h=>?_))<;>(try(exfalso;assumption)))|(((with_reducible first|refine G_region fun K E hK hE=>?_|refine call_ret can93 (w1) ?_))<;>(try simp(disch:=omega) only[go_sem,seval, *]))))
   all_goals(refine W_ret res61 hQ ?_)
   all_goals exact⟨_,_,Wk.tupQ,Fg.refl _,rfl,rfl⟩
  ·rw[h1]at w1 hmay
   simp only[if_true]at w1
   rw[Bool.true_and]at hmay
   generalize (decide ((wdL ds).sum≤256) && decide (ds.length≤32))=B at *
   cases B
   ·generalize natsL (wdL ds)=NL at *
    generalize (wdL ds).sum=W0 at *
    refine G_enter Tryz.func61 rfl Tryz.ntmps61 rfl fun Q hQ hQe=>?_
    (repeat'(first|refine Ctl ?_|((with_reducible refine Kof.use hK ?_);clear hK hE K E)|((with_reducible refine W_cond (fun h=>?_) (fun h=>?_))<;>(try(exfalso;assumption)))|(((with_reducible first|refine G_region fun K E hK hE=>?_|refine call_ret can93 (w1) ?_))<;>(try simp(disch:=omega) only[go_sem,seval, *]))))
    all_goals(refine W_ret res61 hQ ?_)
    all_goals exact⟨_,_,Wk.tupQ,Fg.refl _,rfl,rfl⟩
   ·exact absurd rfl hmay
open Go.RowKit Go.Lib Go.Shelf
def domE_ren:Go.Shelf.Ren:=⟨fun|41=>62|n=>n,fun|22=>53|23=>52|4=>4|n=>n,fun|n=>n⟩
theorem domE:Go.Proofs.SlLaysE0.n41 Tryz.prog domE_ren:={
 mixed:=by kernel_rfl
 f41:=⟨Tryz.f62.name,by decide,Tryz.func62.trans (congrArg some (by kernel_rfl))⟩
 t4:=Tryz.underlying4
 a4:=Tryz.isAgg4
 z4:=Tryz.sizeOf4
 v4:=Tryz.zeroValue4
 t22:=Tryz.underlying53
 a22:=Tryz.isAgg53
 z22:=Tryz.sizeOf53
 v22:=Tryz.zeroValue53 }
theorem dom_info:(Tryz.prog.info? 52).map (fun i=>((i.zero.map fun z=>z.cells.size),i.size,i.bytes))=some (some 2,2,24):=by kernel_rfl
theorem clone_raw (b off n c:Nat)(news:List Value)(w:World)(hl:news.length=n * 2)(hn:n≤1000000)(hc:∀j u,news[j]?=some u→w.cell? ⟨b,off+j,none⟩=some u)(h1:∀u∈news,u.oneCell'=true) :
  Calls Tryz.prog 62 #[.slice (some ⟨b,off,none⟩) n c] w fun e w'=>∃v',e=.returned v'∧w'.ownsRow w.heap.size 52 2 v' n news∧v'≠.slice none 0 0∧Below w.heap.size w w':=by
 have hi:=dom_info
 cases hi0:Tryz.prog.info? 52 with
 |none=>rw[hi0]at hi;cases hi
 |some i0=>
  rw[hi0]at hi
  simp only[Option.map_some,Option.some.injEq,Prod.mk.injEq]at hi
  obtain⟨a1,a2,a3⟩:=hi
  obtain⟨z,hz,hz2⟩:=Option.map_eq_some_iff.1 a1
  exact AnyE.slices_Clone domE i0 z 2 24 hi0 hz a2 a3 hz2 (by omega) Tryz.sizeOf52 b off n c news w hl (by unfold maxLen;omega) (by omega) hc h1
theorem CloneD_S (s:St)(xs:List (List VV))(ow:Own)(hne:xs≠[])(hx:∀x,x∈xs→x.length=2)(hl:xs.length≤1000000):SRet Tryz.prog 62 [.lst xs ow] s (.lst xs .no) s:=by
 intro w0 G w vs hS hA
 obtain⟨v,rfl,hr⟩:=RL_one hA
 generalize hq:VV.lst xs ow=q at hr
 cases hr with
 |emp a cap o ho=>
  injection hq with hq1 hq2
  exact absurd hq1 hne
 |lst b off len cap sz xs' o f h1 h2 h3 h4 h5 h6 h7=>
  injection hq with hq1 hq2
  subst hq1 hq2
  have hsz:sz=2:=by
   obtain⟨x,r,rfl⟩:=List.exists_cons_of_ne_nil hne
   rw[← h3 x (by simp),hx x (by simp)]
  subst hsz
  obtain⟨news,hnews⟩:∃news:List Value,news=(List.range (len * 2)).map fun j=>f (j / 2) (j % 2):=⟨_,rfl⟩
  have hnl:news.length=len * 2:=by rw[hnews];simp
  have hna:∀j u,news[j]?=some u→j<len * 2∧u=f (j / 2) (j % 2):=fun j u h=>by
   have hj:j<len * 2:=by rw[← hnl];exact(List.getElem?_eq_some_iff.1 h).1
   refine⟨hj,?_⟩
   rw[hnews,List.getElem?_map,List.getElem?_range hj]at h
   injection h with h
   exact h.symm
  have hfo:∀j,j<len * 2→(f (j / 2) (j % 2)).oneCell'=true:=fun j hj=>by
   have h8:=List.getElem?_eq_getElem (show j / 2<xs.length by omega)
   have hm:=List.getElem_mem (l:=xs) (n:=j / 2) (by omega)
   have h9:=List.getElem?_eq_getElem (show j % 2<xs[j / 2].length by rw[hx _ hm];omega)
   rw[(h6 _ _ _ _ h8 h9).one]
   exact h4 _ hm _ (List.getElem_mem _)
  refine(clone_raw b off len cap news w hnl (by omega) (fun j u h=>?_) (fun u h=>?_)).mono ?_
  ·obtain⟨hj,rfl⟩:=hna j u h
   have:=hS.K _ _ _ (h5 (j / 2) (j % 2) (by omega) (by omega))
   rw[show j / 2 * 2+j % 2=j by omega]at this
   exact this
  ·obtain⟨j,hj⟩:=List.mem_iff_getElem?.1 h
   obtain⟨hj2,rfl⟩:=hna j u hj
   exact hfo j hj2
  ·rintro e w' ⟨v',rfl,hown,_,hb⟩
   rcases hown.2 with ⟨_,h0⟩|⟨g,c2,cur,rfl,hge,hh,hcap,hm,hcs,hcur⟩
   ·exact absurd (List.eq_nil_of_length_eq_zero (h1.trans h0)) hne
   ·obtain⟨G',k1,k2,k3⟩:=hS.know hb g hge (fun i=>if i<len * 2 then cur[i]? else none) fun i v hv=>by
     split at hv
     ·simp only[World.cell?,hh];exact hv
     ·cases hv
    refine⟨G',s,.ret (.lst xs .no),k1,k2,?_,rfl,rfl⟩
    refine .lst g 0 len c2 2 xs .no f h1 hcap h3 h4 (fun i j hi hj=>?_) (fun i j x y hx hy=>(h6 i j x y hx hy).mono k1) (.inl rfl)
    refine k3 _ _ ?_
    rw[Nat.zero_add,if_pos (by omega)]
    have h8:news[i * 2+j]?=some (f i j):=by
     rw[hnews,List.getElem?_map,List.getElem?_range (by omega)]
     simp only[Option.map_some]
     rw[show (i * 2+j) / 2=i by omega,show (i * 2+j) % 2=j by omega]
    rw[← hcur,List.getElem?_take_of_lt (by omega),Array.getElem?_toList]at h8
    exact h8
 |_=>cases hq
def nilP:VV:=.raw (.pointer none)
def newF (n:Nat)(ds:List Dm)(od:List UInt8):Except Int (List (List Nat)):=if mayDs ds=true∧(wdL ds).sum≤n then placeF ds od else .error 1
def newV (c:Nat):Except Int (List (List Nat))→VV
 |.error e=>.tup [nilP,.int .i64 e]
 |.ok _=>.tup [.ptr c 0,.int .i64 0]
def NewR (s u:St)(q c:Nat)(ds:List Dm):Except Int (List (List Nat))→Prop
 |.error _=>u=s
 |.ok o=>s c=.free∧u=s.set c (.obj 132 [.ptr q 0,.lst (domsI ds) .no,.lst (atC o) .no])
theorem placeF_err {ds:List Dm}{od:List UInt8}{e:Int}(h:placeF ds od=.error e):e=1∨e=70:=by
 unfold placeF at h
 split at h
 ·generalize plF ds (wdL ds) (if od=[] then [] else splitC 95 od) (List.replicate ds.length []) 0 []=r at h
  cases r with
  |none=>injection h with h;exact .inr h.symm
  |some p=>
   obtain⟨o,sn⟩:=p
   simp only[finF]at h
   split at h
   ·injection h with h;exact .inr h.symm
   ·cases h
 ·injection h with h;exact .inl h.symm
end Go.Proofs.YtohnaepcgnbaiaaGreatDoor
namespace Go.Proofs.YtohnaepcgnbaiaaGreatDoor
open Go.RowKit
abbrev BegA:=St×OB×Nat×Nat
def dsT (x y:Nat):List (List UInt8×Nat):=[([65],1+x),([66],1+x),([67],1+y)]
theorem wid_all:((List.range 16).all fun x=>decide (widthN (1+x)<5))=true:=by kernel_rfl
theorem wid_lt {x:Nat}(h:x<16):widthN (1+x)<5:=by
 have h1:=wid_all
 rw[List.all_eq_true]at h1
 simpa using h1 x (List.mem_range.2 h)
theorem wid_pow {x:Nat}(h:x<16):1+x≤2 ^ widthN (1+x):=by
 have:=halvF_pow 62 x (by omega)
 unfold widthN
 rw[Nat.add_sub_cancel_left]
 omega
attribute [-go_sem] p_and p_or p_shl p_shr
def ThreeR (s:St)(x y:Nat)(z:BegA):Prop:=∃o,DOk 12 (dsT x y) o∧o.map (·.length)=[widthN (1+x),widthN (1+x),widthN (1+y)]∧CMem z.1 z.2.1 z.2.2.1 z.2.2.2 12 16384 [.lf false,.lf true] (dsT x y) o∧∀w,s w≠.free→z.1 w=s w∧¬ z.2.1.has w
end Go.Proofs.YtohnaepcgnbaiaaGreatDoor
