/- Walks of functions, and plain facts. Conditions: those in the statements. -/
import Derived.Test.YteldpmgepfaiiaaGreatDoorQsFacts
import Derived.Lib.Bytealg
import Derived.Lib.IndexAny
set_option linter.unusedSimpArgs false
set_option linter.unusedVariables false
namespace Go.Proofs.YteldpmgepfaiiaaGreatDoor
open Go.RowKit
theorem sb {a b:Bool}(h:a=b):some (VV.bool a)=some (VV.bool b):=by rw[h]
theorem Wk.tup {xs ys:List VV}(hl:xs.length=ys.length)(h:∀(j:Nat) (x y:VV),xs[j]?=some x->ys[j]?=some y->Wk x y):Wk (.tup xs) (.tup ys):=by
 intro G v hv
 cases hv with
 |tup vs xs hs hR=>
  refine .tup vs ys (hs.trans hl) fun j v y hv hy=>?_
  have hlt:j<xs.length:=by rw[hl];exact(n_.1 hy).1
  exact h j _ y (b_ hlt) hy G v (hR j v _ hv (b_ hlt))
theorem kV {P:Program}{env:Env}{s s':St}{v v':VV}{rs:List ResultVar}(h:jS P env s rs=some v)(hw:Wk v v')(hf:Fg s s'):Qf P rs (fun e t=>e=.ret v'/\t=s') .ret env s:=
 ⟨v,h,v',s',hw,hf,rfl,rfl⟩
def df (c:UInt8):Bool:=decide (48<=c.toNat) && decide (c.toNat<=57)
def cu (c:UInt8):Bool:=(decide (97<=c.toNat) && decide (c.toNat<=122)) || (decide (65<=c.toNat) && decide (c.toNat<=90)) || decide (c.toNat=95) || df c
theorem kY (c:UInt8)(s:St):SRet Tryz.prog 157 [.int .u8 c.toNat] s (.bool (df c)) s:=by
 refine ec Tryz.func157 rfl Tryz.ntmps157 rfl ?_
 by_cases h:(48:Int)<=c.toNat
 all_goals
  (repeat(first|refine bP ?_|refine cT ?_|(refine aK fun K E hK hE=>?_;simp only[go_sem,seval,h];try(refine hK _ _ ?_;clear hK hE K E))))
  (refine bS ?_ (Fg.refl _);simp only[go_sem,seval,AP])
  refine sb ?_
  rw[Bool.eq_iff_iff]
  simp[df]
  omega
theorem Bd (c:UInt8)(s:St):SRet Tryz.prog 158 [.int .u8 c.toNat] s (.bool (cu c)) s:=by
 refine ec Tryz.func158 rfl Tryz.ntmps158 rfl ?_
 have e:((c.toNat:Int)=95)=(c.toNat=95):=by apply propext;omega
 by_cases h:(97:Int)<=c.toNat
 ·by_cases h2:(c.toNat:Int)<=122
  ·(repeat(first|refine bP ?_|refine cT ?_|(refine aK fun K E hK hE=>?_;simp only[go_sem,seval,h,h2];try(refine hK _ _ ?_;clear hK hE K E))))
   (refine bS ?_ (Fg.refl _);simp only[go_sem,seval,j7])
   refine sb ?_
   simp[cu];omega
  ·by_cases h5:(c.toNat:Int)=95
   ·omega
   ·have h3:(65:Int)<=c.toNat:=by omega
    have h4:¬ (c.toNat:Int)<=90:=by omega
    (repeat(first|refine bP ?_|(refine aK fun K E hK hE=>?_;simp only[go_sem,seval,h,h2,h3,h4,h5];try(refine hK _ _ ?_;clear hK hE K E))))
    (refine ak oF (kY _ _) ?_;simp only[go_sem,seval];try(refine hK _ _ ?_;clear hK hE K E))
    (repeat(refine cT ?_))
    (refine bS ?_ (Fg.refl _);simp only[go_sem,seval,j7])
    refine sb ?_
    have:¬ c.toNat<=122:=by omega
    have:¬ c.toNat<=90:=by omega
    have:¬ c.toNat=95:=by omega
    simp[cu, *]
 ·by_cases h3:(65:Int)<=c.toNat
  ·by_cases h4:(c.toNat:Int)<=90
   ·(repeat(first|refine bP ?_|refine cT ?_|(refine aK fun K E hK hE=>?_;simp only[go_sem,seval,h,h3,h4];try(refine hK _ _ ?_;clear hK hE K E))))
    (refine bS ?_ (Fg.refl _);simp only[go_sem,seval,j7])
    refine sb ?_
    simp[cu];omega
   ·by_cases h5:(c.toNat:Int)=95
    ·(repeat(first|refine bP ?_|refine cT ?_|(refine aK fun K E hK hE=>?_;simp only[go_sem,seval,h5];try(refine hK _ _ ?_;clear hK hE K E))))
     (refine bS ?_ (Fg.refl _);simp only[go_sem,seval,j7])
     refine sb ?_
     have:c.toNat=95:=by omega
     simp[cu,this]
    ·(repeat(first|refine bP ?_|(refine aK fun K E hK hE=>?_;simp only[go_sem,seval,h,h3,h4,h5];try(refine hK _ _ ?_;clear hK hE K E))))
     (refine ak oF (kY _ _) ?_;simp only[go_sem,seval];try(refine hK _ _ ?_;clear hK hE K E))
     (repeat(refine cT ?_))
     (refine bS ?_ (Fg.refl _);simp only[go_sem,seval,j7])
     refine sb ?_
     have:¬ 97<=c.toNat:=by omega
     have:¬ c.toNat<=90:=by omega
     have:¬ c.toNat=95:=by omega
     simp[cu, *]
  ·have h5:¬ (c.toNat:Int)=95:=by omega
   (repeat(first|refine bP ?_|(refine aK fun K E hK hE=>?_;simp only[go_sem,seval,h,h3,h5];try(refine hK _ _ ?_;clear hK hE K E))))
   (refine ak oF (kY _ _) ?_;simp only[go_sem,seval];try(refine hK _ _ ?_;clear hK hE K E))
   (repeat(refine cT ?_))
   (refine bS ?_ (Fg.refl _);simp only[go_sem,seval,j7])
   refine sb ?_
   have:¬ 97<=c.toNat:=by omega
   have:¬ 65<=c.toNat:=by omega
   have:¬ c.toNat=95:=by omega
   simp[cu, *]
def bI (p:UInt8->Bool)(l:List UInt8):Nat:=(l.takeWhile p).length
theorem d7 (p:UInt8->Bool)(l:List UInt8):bI p l<=l.length:=by
 unfold bI
 exact(List.takeWhile_prefix p).length_le
theorem b0 (p:UInt8->Bool)(c:UInt8)(l:List UInt8):bI p (c::l)=if p c then bI p l+1 else 0:=by
 unfold bI
 rw[List.takeWhile_cons]
 split<;>simp
theorem qL (p:UInt8->Bool):∀(l:List UInt8) (k:Nat),k<=bI p l->(∀c,l[k]?=some c->p c=true->k+1<=bI p l)/\(∀c,l[k]?=some c->p c=false->bI p l=k)/\(l[k]?=none->bI p l=k)
 |[],k,h=>by simp[bI]at h ⊢;omega
 |c::l,0,h=>by
  rw[b0]at h ⊢
  refine⟨fun c' e hp=>?_,fun c' e hp=>?_,fun e=>?_⟩
  ·simp at e;subst e;rw[if_pos hp];omega
  ·simp at e;subst e;rw[hp];rfl
  ·simp at e
 |c::l,k+1,h=>by
  rw[b0]at h ⊢
  split at h
  ·rename_i hc
   rw[if_pos hc]
   obtain⟨h1,h2,h3⟩:=qL p l k (by omega)
   exact⟨fun c' e hp=>by have:=h1 c' (by simpa using e) hp;omega,fun c' e hp=>by have:=h2 c' (by simpa using e) hp;omega,fun e=>by have:=h3 (by simpa using e);omega⟩
  ·omega
theorem wG (g:FuncId)(p:UInt8->Bool)(hcan:au Tryz.prog g)(hg:∀(c:UInt8) (s:St),SRet Tryz.prog g [.int .u8 c.toNat] s (.bool (p c)) s)
  (l:List UInt8) (hl:l.length<=9223372036854775000) (s:St):SRet Tryz.prog 144 [.str l,.fn g []] s (.int .i64 (bI p l)) s:=by
 refine ec Tryz.func144 rfl Tryz.ntmps144 rfl ?_
 (repeat(first|refine bP ?_|refine gW ?_|(refine aK fun K E hK hE=>?_;simp only[go_sem,seval];try(refine hK _ _ ?_;clear hK hE K E))))
 refine bB (fun n env s'=>s'=s/\∃k:Nat,n=l.length - k/\k<=bI p l/\env 0=.str l/\env 1=.fn g []/\env 5=.int .i64 k) l.length ?_ ?_
 ·exact⟨rfl,0,by simp,Nat.zero_le _,rfl,rfl,rfl⟩
 ·rintro n env s' ⟨rfl,k,rfl,hk,e0,e1,e5⟩
  have hle:=d7 p l
  obtain⟨h1,h2,h3⟩:=qL p l k hk
  cases hc:l[k]? with
  |none=>
   have hge:l.length<=k:=by simpa using hc
   have hlt:¬ ((k:Int)<(l.length:Int)):=by omega
   (repeat(first|refine bP ?_|refine cT ?_|(refine pb ?_;repeat(first|refine oW ?_|refine rI ?_|refine uj ?_))|(refine co ?_;simp only[go_sem,seval])|(refine aK fun K E hK hE=>?_;simp only[go_sem,seval,e0,e5,hlt];try(refine hK _ _ ?_;clear hK hE K E))))
   (refine bS ?_ (Fg.refl _);simp only[go_sem,seval])
   rw[h3 hc]
  |some c=>
   have hlt':k<l.length:=(n_.1 hc).1
   have hlt:(k:Int)<(l.length:Int):=by omega
   have h0:(0:Int)<=(k:Int):=by omega
   have hw:IntKind.i64.wrap ((k:Int)+1)=((k+1:Nat):Int):=by rw[eo (by omega) (by omega)];omega
   (repeat(first|refine bP ?_|(refine aK fun K E hK hE=>?_;simp only[go_sem,seval,e0,e1,e5,hlt,h0,hc];try(refine hK _ _ ?_;clear hK hE K E))))
   refine ak hcan (hg c s') ?_
   cases hp:p c with
   |true=>
    simp only[go_sem,seval]
    refine hK _ _ ?_
    clear hK hE K E
    (repeat(first|refine gW ?_|refine eE ?_|refine gV ?_|(refine co ?_;simp only[go_sem,seval])|(refine aK fun K E hK hE=>?_;simp only[go_sem,seval,e5,hw];try(refine hK _ _ ?_;clear hK hE K E))))
    refine CV ⟨l.length - (k+1),by omega,rfl,k+1,rfl,h1 c hc hp,?_,?_,?_⟩<;>simp only[go_sem,seval,e0,e1]
   |false=>
    simp only[go_sem,seval]
    refine hK _ _ ?_
    clear hK hE K E
    (repeat(first|refine bP ?_|refine cT ?_|(refine pb ?_;repeat(first|refine oW ?_|refine rI ?_|refine uj ?_))|(refine co ?_;simp only[go_sem,seval])|(refine aK fun K E hK hE=>?_;simp only[go_sem,seval,e5];try(refine hK _ _ ?_;clear hK hE K E))))
    (refine bS ?_ (Fg.refl _);simp only[go_sem,seval])
    rw[h2 c hc hp]
theorem Ar {G:Gh}{vs:Array Value}{x:VV}(h:RL G vs [x]):∃v,vs=#[v]/\R G v x:=by
 obtain⟨l⟩:=vs
 match l,h with
 |[v],h=>exact⟨v,rfl,h.2 0 v x rfl rfl⟩
 |[],h=>have:=h.1;simp at this
 |_::_::_,h=>have:=h.1;simp at this
theorem FO {G:Gh}{vs:Array Value}{x y:VV}(h:RL G vs [x,y]):∃v u,vs=#[v,u]/\R G v x/\R G u y:=by
 obtain⟨l⟩:=vs
 match l,h with
 |[v,u],h=>exact⟨v,u,rfl,h.2 0 v x rfl rfl,h.2 1 u y rfl rfl⟩
 |[],h=>have:=h.1;simp at this
 |[_],h=>have:=h.1;simp at this
 |_::_::_::_,h=>have:=h.1;simp at this
theorem zr (l:List UInt8)(c:UInt8)(s:St):EA Tryz.prog 165 [.str l,.int .u8 c.toNat] s fun e t=>e=.ret (.int .i64 (Lib.indexByte l c))/\t=s:=by
 intro w0 G w vs hS hvs
 obtain⟨v,u,rfl,hv,hu⟩:=FO hvs
 cases hv with
 |str a=>
  cases hu
  refine⟨.int .i64 (Lib.indexByte a.toList c),w,G,s,_,?_,Gh.le.refl G,hS,.int _ _,rfl,rfl⟩
  have hf:=Tryz.func165
  have hn:(Tryz.f165.name == "runtime.NumGoroutine")=false:=by kernel_rfl
  have hx:Extern.findNext Tryz.f165=none:=by kernel_rfl
  have hy:Extern.find Tryz.f165=some Extern.BytealgIndexByte.indexByte:=by kernel_rfl
  have hb:Tryz.f165.body.isNone=true:=by kernel_rfl
  unfold callFunc
  simp only[Sem.run_bind,run_program,Result.andThen_ok,hf,hn,hb,hx,hy,Bool.false_eq_true,if_false,if_true,run_mark,Lib.run_indexByteString,Sem.run_pure]
  simp
theorem yF (l:List UInt8)(c:UInt8)(s:St):SRet Tryz.prog 156 [.str l,.int .u8 c.toNat] s (.int .i64 (Lib.indexByte l c)) s:=by
 refine ec Tryz.func156 rfl Tryz.ntmps156 rfl ?_
 (repeat(first|refine bP ?_|(refine aK fun K E hK hE=>?_;simp only[go_sem,seval];try(refine hK _ _ ?_;clear hK hE K E))))
 refine tX (zr l c s) ?_
 simp only[go_sem,seval]
 refine hK _ _ ?_
 clear hK hE K E
 (repeat(refine cT ?_))
 (refine bS ?_ (Fg.refl _);simp only[go_sem,seval,AQ])
theorem xw (l:List UInt8)(c:UInt8)(s:St):SRet Tryz.prog 146 [.str l,.int .u8 c.toNat] s (.int .i64 (Lib.indexByte l c)) s:=by
 refine ec Tryz.func146 rfl Tryz.ntmps146 rfl ?_
 (repeat(first|refine bP ?_|(refine aK fun K E hK hE=>?_;simp only[go_sem,seval];try(refine hK _ _ ?_;clear hK hE K E))))
 (refine ak Jt (yF l c s) ?_;simp only[go_sem,seval];try(refine hK _ _ ?_;clear hK hE K E))
 (repeat(refine cT ?_))
 (refine bS ?_ (Fg.refl _);simp only[go_sem,seval,AS])
theorem mo (p l:List UInt8)(h:p.length<=l.length):decide (l.take p.length=p)=p.isPrefixOf l:=by
 rw[Bool.eq_iff_iff,decide_eq_true_eq,List.isPrefixOf_iff_prefix,List.prefix_iff_eq_take]
 exact⟨fun h=>h.symm,fun h=>h.symm⟩
theorem mq (p l:List UInt8)(h:¬ p.length<=l.length):p.isPrefixOf l=false:=by
 cases hp:p.isPrefixOf l with
 |false=>rfl
 |true=>exact absurd (List.isPrefixOf_iff_prefix.1 hp).length_le h
theorem uN (l p:List UInt8)(s:St):SRet Tryz.prog 169 [.str l,.str p] s (.bool (p.isPrefixOf l)) s:=by
 refine ec Tryz.func169 rfl Tryz.ntmps169 rfl ?_
 by_cases h:(p.length:Int)<=(l.length:Int)
 ·have h':p.length<=l.length:=by omega
  have h0:(0:Int)<=(p.length:Int):=by omega
  (repeat(first|refine bP ?_|refine cT ?_|(refine aK fun K E hK hE=>?_;simp only[go_sem,seval,h,h',h0,Nat.zero_le,and_self];try(refine hK _ _ ?_;clear hK hE K E))))
  (refine bS ?_ (Fg.refl _);simp only[go_sem,seval,u0])
  rw[mo p l h']
 ·(repeat(first|refine bP ?_|refine cT ?_|(refine aK fun K E hK hE=>?_;simp only[go_sem,seval,h];try(refine hK _ _ ?_;clear hK hE K E))))
  (refine bS ?_ (Fg.refl _);simp only[go_sem,seval,u0])
  rw[mq p l (by omega)]
theorem nQ (l p:List UInt8)(s:St):SRet Tryz.prog 166 [.str l,.str p] s (.bool (p.isPrefixOf l)) s:=by
 refine ec Tryz.func166 rfl Tryz.ntmps166 rfl ?_
 (repeat(first|refine bP ?_|(refine aK fun K E hK hE=>?_;simp only[go_sem,seval];try(refine hK _ _ ?_;clear hK hE K E))))
 (refine ak Jr (uN l p s) ?_;simp only[go_sem,seval];try(refine hK _ _ ?_;clear hK hE K E))
 (repeat(refine cT ?_))
 (refine bS ?_ (Fg.refl _);simp only[go_sem,seval,AO])
def gN:List UInt8:=[40,41,123,125,44,46,59,61,33]
def dS (l:List UInt8):Nat:=
 if ([58,45]:List UInt8).isPrefixOf l then 2 else if ([58,58]:List UInt8).isPrefixOf l then 2 else if ([33,61]:List UInt8).isPrefixOf l then 2 else
 match l with
 |c::_=>if 0<=Lib.indexByte gN c then 1 else 0
 |[]=>0
theorem I3 (c:UInt8)(l:List UInt8)(s:St):SRet Tryz.prog 159 [.str (c::l)] s (.int .i64 (dS (c::l))) s:=by
 refine ec Tryz.func159 rfl Tryz.ntmps159 rfl ?_
 (repeat(first|refine bP ?_|refine gW ?_|(refine aK fun K E hK hE=>?_;simp only[go_sem,seval,gu,and_self];try(refine hK _ _ ?_;clear hK hE K E))))
 refine CU 4 (EO 3 ?_)
 (repeat(first|refine bP ?_|refine gW ?_|refine eE ?_|(refine co ?_;simp only[go_sem,seval])|(refine aK fun K E hK hE=>?_;simp only[go_sem,seval];try(refine hK _ _ ?_;clear hK hE K E))))
 (refine ak vQ (nQ _ _ _) ?_;simp only[go_sem,seval];try(refine hK _ _ ?_;clear hK hE K E))
 cases h1:([58,45]:List UInt8).isPrefixOf (c::l)with
 |true=>
  (repeat(first|refine bP ?_|refine cT ?_|(refine co ?_;simp only[go_sem,seval])|(refine aK fun K E hK hE=>?_;simp only[go_sem,seval];try(refine hK _ _ ?_;clear hK hE K E))))
  (refine bS ?_ (Fg.refl _);simp only[go_sem,seval])
  simp[dS,h1]
 |false=>
  (repeat(first|refine bP ?_|refine gW ?_|refine eE ?_|refine gV ?_|(refine co ?_;simp only[go_sem,seval])|(refine aK fun K E hK hE=>?_;simp only[go_sem,seval];try(refine hK _ _ ?_;clear hK hE K E))))
  (refine ak vQ (nQ _ _ _) ?_;simp only[go_sem,seval];try(refine hK _ _ ?_;clear hK hE K E))
  cases h2:([58,58]:List UInt8).isPrefixOf (c::l)with
  |true=>
   (repeat(first|refine bP ?_|refine cT ?_|(refine co ?_;simp only[go_sem,seval])|(refine aK fun K E hK hE=>?_;simp only[go_sem,seval];try(refine hK _ _ ?_;clear hK hE K E))))
   (refine bS ?_ (Fg.refl _);simp only[go_sem,seval])
   simp[dS,h1,h2]
  |false=>
   (repeat(first|refine bP ?_|refine gW ?_|refine eE ?_|refine gV ?_|(refine co ?_;simp only[go_sem,seval])|(refine aK fun K E hK hE=>?_;simp only[go_sem,seval];try(refine hK _ _ ?_;clear hK hE K E))))
   (refine ak vQ (nQ _ _ _) ?_;simp only[go_sem,seval];try(refine hK _ _ ?_;clear hK hE K E))
   cases h3:([33,61]:List UInt8).isPrefixOf (c::l)with
   |true=>
    (repeat(first|refine bP ?_|refine cT ?_|(refine co ?_;simp only[go_sem,seval])|(refine aK fun K E hK hE=>?_;simp only[go_sem,seval];try(refine hK _ _ ?_;clear hK hE K E))))
    (refine bS ?_ (Fg.refl _);simp only[go_sem,seval])
    simp[dS,h1,h2,h3]
   |false=>
    (repeat(first|refine bP ?_|refine eE ?_|refine gV ?_|(refine pb ?_;repeat(first|refine oW ?_|refine rI ?_|refine uj ?_))|(refine co ?_;simp only[go_sem,seval])|(refine aK fun K E hK hE=>?_;simp only[go_sem,seval];try(refine hK _ _ ?_;clear hK hE K E))))
    (refine ak B4 (xw gN c s) ?_;simp only[go_sem,seval];try(refine hK _ _ ?_;clear hK hE K E))
    by_cases h4:0<=Lib.indexByte gN c
    ·(repeat(first|refine bP ?_|refine cT ?_|(refine co ?_;simp only[go_sem,seval,h4])|(refine aK fun K E hK hE=>?_;simp only[go_sem,seval];try(refine hK _ _ ?_;clear hK hE K E))))
     (refine bS ?_ (Fg.refl _);simp only[go_sem,seval])
     simp[dS,h1,h2,h3,h4]
    ·(repeat(first|refine bP ?_|refine eE ?_|refine cT ?_|(refine co ?_;simp only[go_sem,seval,h4])|(refine aK fun K E hK hE=>?_;simp only[go_sem,seval];try(refine hK _ _ ?_;clear hK hE K E))))
     (refine bS ?_ (Fg.refl _);simp only[go_sem,seval])
     simp[dS,h1,h2,h3,h4]
def bF:List UInt8->Nat×Nat
 |[]=>(0,0)
 |c::l=>
  if df c then(if 10<bI df (c::l)\/(1<bI df (c::l)/\c=48)then(0,0)else(2,bI df (c::l)))
  else if cu c then(if 32<bI cu (c::l)then(0,0)else(1,bI cu (c::l)))
  else(3,dS (c::l))
theorem Bk (c:UInt8)(l:List UInt8)(hl:(c::l).length<=9223372036854775000)(s:St) :
  SRet Tryz.prog 148 [.str (c::l)] s (.tup [.int .i64 (bF (c::l)).1,.int .i64 (bF (c::l)).2]) s:=by
 refine ec Tryz.func148 rfl Tryz.ntmps148 rfl ?_
 have hle:=d7 df (c::l)
 have hle':=d7 cu (c::l)
 have e48:((c.toNat:Int)=48)=(c=48):=by
  apply propext
  constructor
  ·intro h;apply UInt8.toNat_inj.1;show c.toNat=48;omega
  ·rintro rfl;rfl
 (repeat(first|refine bP ?_|refine gW ?_|(refine aK fun K E hK hE=>?_;simp only[go_sem,seval];try(refine hK _ _ ?_;clear hK hE K E))))
 (refine ak oF (kY _ _) ?_;simp only[go_sem,seval];try(refine hK _ _ ?_;clear hK hE K E))
 cases hd:df c with
 |true=>
  (repeat(first|refine bP ?_|(refine co ?_;simp only[go_sem,seval])|(refine aK fun K E hK hE=>?_;simp only[go_sem,seval];try(refine hK _ _ ?_;clear hK hE K E))))
  (refine ak rD (wG 157 df oF kY (c::l) hl s) ?_;simp only[go_sem,seval];try(refine hK _ _ ?_;clear hK hE K E))
  by_cases h1:(10:Int)<(bI df (c::l):Int)
  ·(repeat(first|refine bP ?_|refine cT ?_|(refine co ?_;simp only[go_sem,seval])|(refine aK fun K E hK hE=>?_;simp only[go_sem,seval,h1];try(refine hK _ _ ?_;clear hK hE K E))))
   (refine bS ?_ (Fg.refl _);simp only[go_sem,seval])
   have:(bF (c::l))=(0,0):=by simp only[bF,hd,if_true];rw[if_pos (.inl (by omega))]
   simp[this]
  ·by_cases h2:(1:Int)<(bI df (c::l):Int)
   ·by_cases h3:c=48
    ·have h4:(c.toNat:Int)=48:=by rw[e48];exact h3
     (repeat(first|refine bP ?_|refine cT ?_|(refine co ?_;simp only[go_sem,seval])|(refine aK fun K E hK hE=>?_;simp only[go_sem,seval,h1,h2,h4];try(refine hK _ _ ?_;clear hK hE K E))))
     (refine bS ?_ (Fg.refl _);simp only[go_sem,seval])
     have:(bF (c::l))=(0,0):=by simp only[bF,hd,if_true];rw[if_pos (.inr ⟨by omega,h3⟩)]
     simp[this]
    ·have h4:¬ (c.toNat:Int)=48:=by rw[e48];exact h3
     (repeat(first|refine bP ?_|refine eE ?_|refine cT ?_|(refine co ?_;simp only[go_sem,seval])|(refine aK fun K E hK hE=>?_;simp only[go_sem,seval,h1,h2,h4];try(refine hK _ _ ?_;clear hK hE K E))))
     (refine bS ?_ (Fg.refl _);simp only[go_sem,seval])
     have:(bF (c::l))=(2,bI df (c::l)):=by simp only[bF,hd,if_true];rw[if_neg (by rintro(h|⟨_,h⟩);omega;exact h3 h)]
     simp[this]
   ·(repeat(first|refine bP ?_|refine eE ?_|refine cT ?_|(refine co ?_;simp only[go_sem,seval])|(refine aK fun K E hK hE=>?_;simp only[go_sem,seval,h1,h2];try(refine hK _ _ ?_;clear hK hE K E))))
    (refine bS ?_ (Fg.refl _);simp only[go_sem,seval])
    have:(bF (c::l))=(2,bI df (c::l)):=by simp only[bF,hd,if_true];rw[if_neg (by rintro(h|⟨h,_⟩)<;>omega)]
    simp[this]
 |false=>
  (repeat(first|refine bP ?_|(refine co ?_;simp only[go_sem,seval])|(refine aK fun K E hK hE=>?_;simp only[go_sem,seval];try(refine hK _ _ ?_;clear hK hE K E))))
  (refine ak BZ (Bd _ _) ?_;simp only[go_sem,seval];try(refine hK _ _ ?_;clear hK hE K E))
  cases hp:cu c with
  |true=>
   (repeat(first|refine bP ?_|(refine co ?_;simp only[go_sem,seval])|(refine aK fun K E hK hE=>?_;simp only[go_sem,seval];try(refine hK _ _ ?_;clear hK hE K E))))
   (refine ak rD (wG 158 cu BZ Bd (c::l) hl s) ?_;simp only[go_sem,seval];try(refine hK _ _ ?_;clear hK hE K E))
   by_cases h1:(32:Int)<(bI cu (c::l):Int)
   ·(repeat(first|refine bP ?_|refine cT ?_|(refine co ?_;simp only[go_sem,seval])|(refine aK fun K E hK hE=>?_;simp only[go_sem,seval,h1];try(refine hK _ _ ?_;clear hK hE K E))))
    (refine bS ?_ (Fg.refl _);simp only[go_sem,seval])
    have:(bF (c::l))=(0,0):=by simp only[bF,hd,hp,if_true,Bool.false_eq_true,if_false];rw[if_pos (by omega)]
    simp[this]
   ·(repeat(first|refine bP ?_|refine eE ?_|refine cT ?_|(refine co ?_;simp only[go_sem,seval])|(refine aK fun K E hK hE=>?_;simp only[go_sem,seval,h1];try(refine hK _ _ ?_;clear hK hE K E))))
    (refine bS ?_ (Fg.refl _);simp only[go_sem,seval])
    have:(bF (c::l))=(1,bI cu (c::l)):=by simp only[bF,hd,hp,if_true,Bool.false_eq_true,if_false];rw[if_neg (by omega)]
    simp[this]
  |false=>
   (repeat(first|refine bP ?_|refine eE ?_|(refine co ?_;simp only[go_sem,seval])|(refine aK fun K E hK hE=>?_;simp only[go_sem,seval];try(refine hK _ _ ?_;clear hK hE K E))))
   (refine ak Js (I3 c l s) ?_;simp only[go_sem,seval];try(refine hK _ _ ?_;clear hK hE K E))
   (repeat(refine cT ?_))
   (refine bS ?_ (Fg.refl _);simp only[go_sem,seval])
   simp[bF,hd,hp]
structure Sgn where
 kind:Nat
 text:List UInt8
 at_:Nat
def gw (x:Sgn):List VV:=[.int .i64 x.kind,.str x.text,.int .i64 x.at_]
def bT (c:UInt8):Bool:=decide (0<=Lib.indexByte [32,9,10,13] c)
def ce (c:UInt8):Bool:=!decide ((c.toNat:Int)=10)
theorem Eo (c:UInt8)(s:St):SRet Tryz.prog 145 [.int .u8 c.toNat] s (.bool (bT c)) s:=by
 refine ec Tryz.func145 rfl Tryz.ntmps145 rfl ?_
 (repeat(first|refine bP ?_|(refine aK fun K E hK hE=>?_;simp only[go_sem,seval];try(refine hK _ _ ?_;clear hK hE K E))))
 (refine ak B4 (xw _ c s) ?_;simp only[go_sem,seval];try(refine hK _ _ ?_;clear hK hE K E))
 (repeat(refine cT ?_))
 (refine bS ?_ (Fg.refl _);simp only[go_sem,seval,AT])
 rfl
theorem Bn (c:UInt8)(s:St):SRet Tryz.prog 147 [.int .u8 c.toNat] s (.bool (ce c)) s:=by
 refine ec Tryz.func147 rfl Tryz.ntmps147 rfl ?_
 (repeat(first|refine bP ?_|refine cT ?_|(refine aK fun K E hK hE=>?_;simp only[go_sem,seval];try(refine hK _ _ ?_;clear hK hE K E))))
 (refine bS ?_ (Fg.refl _);simp only[go_sem,seval,AR])
 rfl
def eH:Nat->List UInt8->Nat->List Sgn->Except (Nat×Nat) (List Sgn)
 |0,_,_,out=>.ok out
 |f+1,l,at_,out=>
  let b:=bI bT l
  match l.drop b with
  |[]=>.ok out
  |c::r=>
   if c.toNat=35 then eH f ((c::r).drop (bI ce (c::r))) (at_+b+bI ce (c::r)) out
   else if (bF (c::r)).2=0 then .error (at_+b,100)
   else if 4096<=out.length then .error (at_+b,2)
   else eH f ((c::r).drop (bF (c::r)).2) (at_+b+(bF (c::r)).2) (out++[⟨(bF (c::r)).1,(c::r).take (bF (c::r)).2,at_+b⟩])
def bG (s:List UInt8):Except (Nat×Nat) (List Sgn):=if 16384<s.length then .error (0,1)else eH (s.length+1) s 0 []
def nx:Except (Nat×Nat) (List Sgn)->VV
 |.ok l=>.tup [.lst (l.map gw) .no,.int .i64 0,.int .i64 0]
 |.error (a,e)=>.tup [.lst [] .no,.int .i64 a,.int .i64 e]
theorem jv (c:UInt8)(l:List UInt8):(bF (c::l)).2<=(c::l).length:=by
 have h1:=d7 df (c::l)
 have h2:=d7 cu (c::l)
 have pre:∀(p:List UInt8),p.length=2->p.isPrefixOf (c::l)=true->2<=(c::l).length:=fun p hp h=>by
  have:=(List.isPrefixOf_iff_prefix.1 h).length_le
  omega
 simp only[bF]
 split
 ·split<;>simp<;>exact h1
 ·split
  ·split<;>simp<;>exact h2
  ·show dS (c::l)<=_
   unfold dS
   split
   ·rename_i h;exact pre _ rfl h
   ·split
    ·rename_i h;exact pre _ rfl h
    ·split
     ·rename_i h;exact pre _ rfl h
     ·show (if 0<=Lib.indexByte gN c then 1 else 0)<=(c::l).length
      split<;>simp
theorem Wk.tup3 {xs:List (List VV)}{o:Own}{a b:VV}:Wk (.tup [.lst xs o,a,b]) (.tup [.lst xs .no,a,b]):=
 Wk.tup rfl fun j x y hx hy=>by
  match j with
  |0=>simp at hx hy;subst hx;subst hy;exact Wk.lst _ _
  |1=>simp at hx hy;subst hx;subst hy;exact Wk.refl _
  |2=>simp at hx hy;subst hx;subst hy;exact Wk.refl _
  |j+3=>simp at hx
theorem vU {k:VV->St->Prop}{e:TypeId}{q:QI}{xs ys:List (List VV)}{o:Own}{s:St}{n sz m:Nat}(hn:xs.length=n)(hsz:q.sz=sz)(hys:ys.length=m)(ho:OwnOk s o n)(hb:(n+m)*q.bt<=140737488355328)(hm:n+m<=9223372036854775807)
  (hy:∀y,y∈ys->y.length=sz) (hz:q.zok=true)
  (h:∀o',OwnOk s o' (n+m)->k (.lst (xs++ys) o') (s.own o' e sz (n+m))):fb k e q xs ys o (s.own o e sz n):=by
 subst hn
 subst hsz
 subst hys
 refine⟨hb,hm,hy,hz,?_⟩
 cases o with
 |no=>exact ho.elim
 |full=>
  have hx:xs=[]:=t_ ho
  subst hx
  refine⟨by simp,fun e=>?_,fun _ b hb=>?_⟩
  ·subst e;exact h .full rfl
  ·exact h (.at_ b) hb
 |at_ b=>
  refine⟨q_ _ _ _,fun b' hb'=>?_⟩
  have e1:(St.own s (.at_ b) e q.sz xs.length).set b .free=s:=by
   show (s.set b _).set b .free=s
   rw[St.set_set]
   exact x_ _ _ _ ho
  rw[e1]
  by_cases hbb:b'=b
  ·subst hbb;exact h (.at_ b') ho
  ·rcases hb' with hb'|hb'
   ·exact absurd hb' hbb
   ·have:s b'=.free:=by
     have h2:(s.set b (.vec e q.sz xs.length)) b'=s b':=k_ _ _ hbb
     rw[<- h2];exact hb'
    exact h (.at_ b') this
theorem C4 (l:List UInt8)(hl:l.length<=9223372036854775000)(s:St):SRet Tryz.prog 136 [.str l] s (nx (bG l)) s:=by
 refine ec Tryz.func136 rfl Tryz.ntmps136 rfl ?_
 by_cases hbig:(16384:Int)<(l.length:Int)
 ·(repeat(first|refine bP ?_|refine cT ?_|(refine co ?_;simp only[go_sem,seval])|(refine aK fun K E hK hE=>?_;simp only[go_sem,seval,hbig];try(refine hK _ _ ?_;clear hK hE K E))))
  refine kV (v:=.tup [.lst [] .full,.int .i64 0,.int .i64 1]) ?_ ?_ (Fg.refl _)
  ·simp only[go_sem,seval]
  ·rw[show bG l=.error (0,1) by unfold bG;rw[if_pos (by omega)]]
   exact Wk.tup3
 ·(repeat(first|refine bP ?_|refine gW ?_|refine eE ?_|(refine co ?_;simp only[go_sem,seval])|(refine aK fun K E hK hE=>?_;simp only[go_sem,seval,hbig];try(refine hK _ _ ?_;clear hK hE K E))))
  have hr:bG l=eH (l.length+1) l 0 []:=by unfold bG;rw[if_neg (by omega)]
  generalize bG l=r at hr
  refine bB (fun n env s'=>∃(at_:Nat) (out:List Sgn) (o:Own),at_<=l.length/\l.length<at_+n/\out.length<=4096/\r=eH n (l.drop at_) at_ out/\s'=s.own o 131 3 out.length/\OwnOk s o out.length /\
   env 0=.str l/\env 5=.lst (out.map gw) o/\env 6=.int .i64 at_) (l.length+1) ?_ ?_
  ·exact⟨0,[],.full,Nat.zero_le _,by omega,Nat.zero_le _,by simpa using hr,rfl,rfl,rfl,rfl,rfl⟩
  ·rintro n env s' ⟨at_,out,o,hat,hn,hout,hgo,rfl,hown,e0,e5,e6⟩
   have h0:(0:Int)<=(at_:Int):=by omega
   have hlen:(l.drop at_).length<=9223372036854775000:=by rw[D_];omega
   have hb:=d7 bT (l.drop at_)
   rw[D_]at hb
   obtain⟨p,hp⟩:∃p,p=at_+bI bT (l.drop at_):=⟨_,rfl⟩
   have hw:IntKind.i64.wrap ((at_:Int)+(bI bT (l.drop at_):Int))=(p:Int):=by rw[eo (by omega) (by omega)];omega
   have hpl:p<=l.length:=by omega
   have hp0:(0:Int)<=(p:Int):=by omega
   obtain⟨m,rfl⟩:∃m,n=m+1:=⟨n - 1,by omega⟩
   simp only[eH]at hgo
   rw[List.drop_drop,<- hp]at hgo
   (repeat(first|refine bP ?_|refine gW ?_|(refine aK fun K E hK hE=>?_;simp only[go_sem,seval,e0,e6,h0,hat,Nat.le_refl,and_self,f_];try(refine hK _ _ ?_;clear hK hE K E))))
   (refine ak rD (wG 145 bT Jv Eo (l.drop at_) hlen _) ?_;simp only[go_sem,seval,hw];try(refine hK _ _ ?_;clear hK hE K E))
   cases hd:l.drop p with
   |nil=>
    have hpe:p=l.length:=by
     have:=congrArg List.length hd
     simp at this
     omega
    have ht:((p:Int)=(l.length:Int))=True:=by apply propext;simp;omega
    rw[hd]at hgo
    (repeat(first|refine bP ?_|refine cT ?_|(refine co ?_;simp only[go_sem,seval])|(refine aK fun K E hK hE=>?_;simp only[go_sem,seval,e0,e5,ht];try(refine hK _ _ ?_;clear hK hE K E))))
    refine kV (v:=.tup [.lst (out.map gw) o,.int .i64 0,.int .i64 0]) ?_ ?_ (Fg.own hown)
    ·simp only[go_sem,seval]
    ·rw[hgo];exact Wk.tup3
   |cons c rr=>
    have hplt:p<l.length:=by
     have:=congrArg List.length hd
     simp at this
     omega
    have ht:¬ ((p:Int)=(l.length:Int)):=by omega
    have hc:l[p]?=some c:=by
     have:=congrArg (·[0]?) hd
     simpa using this
    rw[hd]at hgo
    simp only at hgo
    have hlen2:(c::rr).length<=9223372036854775000:=by rw[<- hd,D_];omega
    by_cases h35:c.toNat=35
    ·have h35':(c.toNat:Int)=35:=by omega
     rw[if_pos h35]at hgo
     have hq:=d7 ce (c::rr)
     have hq1:1<=bI ce (c::rr):=by
      rw[b0,if_pos (by simp[ce];omega)];omega
     have hql:(c::rr).length=l.length - p:=by rw[<- hd,D_]
     have hw2:IntKind.i64.wrap ((p:Int)+(bI ce (c::rr):Int))=((p+bI ce (c::rr):Nat):Int):=by rw[eo (by omega) (by omega)];omega
     (repeat(first|refine bP ?_|refine eE ?_|(refine co ?_;simp only[go_sem,seval])|(refine aK fun K E hK hE=>?_;simp only[go_sem,seval,e0,hp0,hpl,ht,hc,h35',Nat.le_refl,and_self,f_,hd];try(refine hK _ _ ?_;clear hK hE K E))))
     (refine ak rD (wG 147 ce Ju Bn (c::rr) hlen2 _) ?_;simp only[go_sem,seval,hw2];try(refine hK _ _ ?_;clear hK hE K E))
     (repeat((refine pb ?_;repeat(first|refine oW ?_|refine uj ?_))))
     refine⟨m,Nat.lt_succ_self m,p+bI ce (c::rr),out,o,by omega,by omega,hout,?_,rfl,hown,?_,?_,?_⟩
     ·rw[hgo,<- hd,List.drop_drop]
     all_goals simp only[go_sem,seval,e0,e5]
    ·have h35':¬ (c.toNat:Int)=35:=by omega
     rw[if_neg h35]at hgo
     (repeat(first|refine bP ?_|refine eE ?_|(refine co ?_;simp only[go_sem,seval])|(refine aK fun K E hK hE=>?_;simp only[go_sem,seval,e0,hp0,hpl,ht,hc,h35',Nat.le_refl,and_self,f_,hd];try(refine hK _ _ ?_;clear hK hE K E))))
     (refine ak vR (Bk c rr hlen2 _) ?_;simp only[go_sem,seval];try(refine hK _ _ ?_;clear hK hE K E))
     have hk:=jv c rr
     rw[show (c::rr).length=l.length - p by rw[<- hd,D_]]at hk
     generalize hone:bF (c::rr)=kn at hgo hk
     obtain⟨kd,nn⟩:=kn
     simp only at hgo hk
     by_cases h0n:nn=0
     ·have h0':(nn:Int)=0:=by omega
      rw[if_pos h0n]at hgo
      (repeat(first|refine bP ?_|refine gW ?_|refine cT ?_|(refine co ?_;simp only[go_sem,seval])|(refine aK fun K E hK hE=>?_;simp only[go_sem,seval,h0'];try(refine hK _ _ ?_;clear hK hE K E))))
      refine kV (v:=.tup [.lst [] .full,.int .i64 p,.int .i64 100]) ?_ ?_ (Fg.own hown)
      ·simp only[go_sem,seval]
      ·rw[hgo];exact Wk.tup3
     ·have h0':¬ (nn:Int)=0:=by omega
      rw[if_neg h0n]at hgo
      by_cases hfull:4096<=out.length
      ·have hf':(4096:Int)<=(out.length:Int):=by omega
       rw[if_pos hfull]at hgo
       (repeat(first|refine bP ?_|refine gW ?_|refine cT ?_|(refine co ?_;simp only[go_sem,seval])|(refine aK fun K E hK hE=>?_;simp only[go_sem,seval,e5,h0',hf',a_];try(refine hK _ _ ?_;clear hK hE K E))))
       refine kV (v:=.tup [.lst [] .full,.int .i64 p,.int .i64 2]) ?_ ?_ (Fg.own hown)
       ·simp only[go_sem,seval]
       ·rw[hgo];exact Wk.tup3
      ·have hf':¬ (4096:Int)<=(out.length:Int):=by omega
       rw[if_neg hfull]at hgo
       have hw3:IntKind.i64.wrap ((p:Int)+(nn:Int))=((p+nn:Nat):Int):=by rw[eo (by omega) (by omega)];omega
       have hpn:(0:Int)<=((p+nn:Nat):Int):=by omega
       have hpn2:p<=p+nn/\p+nn<=l.length:=by omega
       (repeat(first|refine bP ?_|refine gW ?_|refine eE ?_|(refine co ?_;simp only[go_sem,seval])|(refine aK fun K E hK hE=>?_;simp only[go_sem,seval,e0,e5,h0',hf',a_,hw3,hpn,hp0,hpn2,and_self,gu];try(refine hK _ _ ?_;clear hK hE K E))))
       refine vU (n:=out.length) (sz:=3) (m:=1) (by simp) rfl rfl hown (by simp only;omega) (by omega) (fun y hy=>by simp at hy;subst hy;rfl) rfl fun o' ho'=>?_
       refine hK _ _ ?_
       clear hK hE K E
       (repeat(first|refine gV ?_|(refine aK fun K E hK hE=>?_;simp only[go_sem,seval,hw3];try(refine hK _ _ ?_;clear hK hE K E))))
       refine⟨m,Nat.lt_succ_self m,p+nn,out++[{ kind:=kd,text:=(c::rr).take nn,at_:=p }],o',by omega,by omega,by simp;omega,?_,by simp,by simpa using ho',?_,?_,?_⟩
       ·rw[hgo,<- hd,List.drop_drop]
       ·simp only[go_sem,seval,e0]
       ·have htk:List.drop p (List.take (p+nn) l)=(c::rr).take nn:=by
         rw[<- hd,List.drop_take]
         congr 1
         omega
        simp only[go_sem,seval,htk,List.map_append,gw]
       ·simp only[go_sem,seval]
def isT (L:List Sgn)(a:Nat)(t:List UInt8):Bool:=match L[a]? with|some x=>decide (x.text=t)|none=>false
def Bb (e:Nat):List Sgn->Nat
 |[]=>e
 |x::_=>x.at_
abbrev PR (α:Type):=Except (Nat×Nat) (α×List Sgn×Nat)
def strC (x:List UInt8):List VV:=[.str x]
def JS (l:List (List UInt8)):VV:=.lst (l.map strC) .no
inductive WkL:List VV->List VV->Prop
 |nil:WkL [] []
 |same (x:VV) {xs ys:List VV} (h:WkL xs ys):WkL (x::xs) (x::ys)
 |lst (l:List (List VV)) (o:Own) {xs ys:List VV} (h:WkL xs ys):WkL (.lst l o::xs) (.lst l .no::ys)
theorem WkL.len {xs ys:List VV}(h:WkL xs ys):xs.length=ys.length:=by
 induction h with
 |nil=>rfl
 |same x h ih=>simp[ih]
 |lst l o h ih=>simp[ih]
theorem WkL.get {xs ys:List VV}(h:WkL xs ys):∀(j:Nat) (y:VV),ys[j]?=some y->∃x,xs[j]?=some x/\Wk x y/\(x.one=true->y.one=true):=by
 induction h with
 |nil=>intro j y hy;simp at hy
 |same x h ih=>
  intro j y hy
  cases j with
  |zero=>simp at hy;subst hy;exact⟨x,rfl,Wk.refl _,id⟩
  |succ j=>simpa using ih j y (by simpa using hy)
 |lst l o h ih=>
  intro j y hy
  cases j with
  |zero=>simp at hy;subst hy;exact⟨_,rfl,Wk.lst _ _,id⟩
  |succ j=>simpa using ih j y (by simpa using hy)
theorem Wk.agg {xs ys:List VV}(h:WkL xs ys):Wk (.agg xs) (.agg ys):=by
 intro G v hv
 cases hv with
 |agg vs xs hs h1 hR=>
  refine .agg vs ys (hs.trans h.len) (fun y hy=>?_) fun j v y hv hy=>?_
  ·obtain⟨j,hj,e⟩:=List.mem_iff_getElem.1 hy
   obtain⟨x,hx,_,hw⟩:=h.get j y (by rw[<- e];exact b_ hj)
   exact hw (h1 x (p_ hx))
  ·obtain⟨x,hx,hw,_⟩:=h.get j y hy
   exact hw G v (hR j v x hv hx)
inductive Stm where
 |mk (kind:Int) (dst src cls nm:List UInt8) (args:List (List UInt8)) (one two:List Stm)
mutual
def stC:Stm->List VV
 |.mk k d s c m ar o t=>[.int .i64 k,.str d,.str s,.str c,.str m,JS ar,.lst (FM o) .no,.lst (FM t) .no]
def FM:List Stm->List (List VV)
 |[]=>[]
 |x::l=>stC x::FM l
end
theorem set_free {s:St}{b x:Nat}{T:TypeId}{xs:List VV}(h:(s.set b (.obj T xs)) x=.free):(x=b)=False/\(b=x)=False/\s x=.free:=by
 simp only[St.set]at h
 split at h
 ·cases h
 ·rename_i hb;exact⟨eq_false hb,eq_false (Ne.symm hb),h⟩
theorem gf (c:UInt8):bT c=decide (c=32\/c=9\/c=10\/c=13):=by
 unfold bT
 rw[<- Lib.contains_iff_indexByte]
 simp
theorem fX:∀(f f':Nat) (l:List UInt8) (at_:Nat) (out:List Sgn),l.length<f->l.length<f'->eH f l at_ out=eH f' l at_ out
 |0,_,_,_,_,h,_=>by omega
 |_,0,_,_,_,_,h=>by omega
 |f+1,f'+1,l,at_,out,h,h'=>by
  simp only[eH]
  have hb:=d7 bT l
  generalize hd:l.drop (bI bT l)=d
  have hdl:d.length=l.length - bI bT l:=by rw[<- hd,D_]
  cases d with
  |nil=>rfl
  |cons c r=>
   simp only[List.length_cons]at hdl
   simp only
   split
   ·rename_i hc
    have h1:1<=bI ce (c::r):=by
     rw[b0]
     rw[if_pos (by simp[ce];omega)]
     omega
    exact fX f f' _ _ _ (by rw[D_];simp only[List.length_cons];omega) (by rw[D_];simp only[List.length_cons];omega)
   ·split
    ·rfl
    ·split
     ·rfl
     ·rename_i h0 _
      have h1:1<=(bF (c::r)).2:=by omega
      exact fX f f' _ _ _ (by rw[D_];simp only[List.length_cons];omega) (by rw[D_];simp only[List.length_cons];omega)
def eY (l:List UInt8)(at_:Nat)(out:List Sgn):Except (Nat×Nat) (List Sgn):=eH (l.length+1) l at_ out
theorem nZ (at_:Nat)(out:List Sgn):eY [] at_ out=.ok out:=rfl
theorem oa {c:UInt8}(h:bT c=true)(r:List UInt8)(at_:Nat)(out:List Sgn):eY (c::r) at_ out=eY r (at_+1) out:=by
 unfold eY
 rw[fX (r.length+1) ((c::r).length+1) r (at_+1) out (by omega) (by simp;omega)]
 simp only[eH]
 have h1:bI bT (c::r)=bI bT r+1:=by rw[b0,if_pos h]
 rw[h1]
 simp only[List.drop_succ_cons]
 rw[show at_+(bI bT r+1)=at_+1+bI bT r by omega]
theorem qa {c:UInt8}(h:c.toNat=35)(r:List UInt8)(at_:Nat)(out:List Sgn):eY (c::r) at_ out=eY ((c::r).drop (bI ce (c::r))) (at_+bI ce (c::r)) out:=by
 have hc:c=35:=UInt8.toNat_inj.1 h
 subst hc
 have h0:bI bT ((35:UInt8)::r)=0:=by rw[b0,gf];rfl
 have h1:1<=bI ce ((35:UInt8)::r):=by rw[b0];rw[if_pos (by decide)];omega
 conv=>lhs;unfold eY
 simp only[eH,h0,List.drop_zero,Nat.add_zero]
 rw[if_pos h]
 unfold eY
 refine fX _ _ _ _ _ ?_ (by omega)
 rw[D_];simp only[List.length_cons];omega
theorem lH {c:UInt8}(hb:bT c=false)(h:¬ c.toNat=35)(r:List UInt8)(at_:Nat)(out:List Sgn):eY (c::r) at_ out =
  if (bF (c::r)).2=0 then .error (at_,100)else if 4096<=out.length then .error (at_,2)
  else eY ((c::r).drop (bF (c::r)).2) (at_+(bF (c::r)).2) (out++[⟨(bF (c::r)).1,(c::r).take (bF (c::r)).2,at_⟩]):=by
 have h0:bI bT (c::r)=0:=by rw[b0,hb];rfl
 conv=>lhs;unfold eY
 simp only[eH,h0,List.drop_zero,Nat.add_zero]
 rw[if_neg h]
 split
 ·rfl
 ·split
  ·rfl
  ·unfold eY
   refine fX _ _ _ _ _ ?_ (by omega)
   rw[D_];simp only[List.length_cons];omega
theorem tl {c:UInt8}(h:ce c=true)(r:List UInt8)(at_:Nat)(out:List Sgn) :
  eY ((c::r).drop (bI ce (c::r))) (at_+bI ce (c::r)) out=eY (r.drop (bI ce r)) (at_+1+bI ce r) out:=by
 have h1:bI ce (c::r)=bI ce r+1:=by rw[b0,if_pos h]
 rw[h1,List.drop_succ_cons,show at_+(bI ce r+1)=at_+1+bI ce r by omega]
end Go.Proofs.YteldpmgepfaiiaaGreatDoor
