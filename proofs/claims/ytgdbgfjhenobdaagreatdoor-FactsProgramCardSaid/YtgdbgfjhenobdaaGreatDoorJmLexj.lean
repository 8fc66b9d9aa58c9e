/- Walks of functions that the claim reaches, and plain facts of them. Conditions: those in the statements. -/
import Derived.Test.YtgdbgfjhenobdaaGreatDoorJmFacts
import Derived.Lib.Bytealg
import Derived.Lib.IndexAny
set_option linter.unusedSimpArgs false
set_option linter.unusedVariables false
namespace Go.Proofs.YtgdbgfjhenobdaaGreatDoor
open Go.RowKit
theorem sb {a b:Bool}(h:a=b):some (VV.bool a)=some (VV.bool b):=by rw[h]
theorem si {k:IntKind}{a b:Int}(h:a=b):some (VV.int k a)=some (VV.int k b):=by rw[h]
theorem Wk.tup {xs ys:List VV}(hl:xs.length=ys.length)(h:∀(j:Nat) (x y:VV),xs[j]?=some x→ys[j]?=some y→Wk x y):Wk (.tup xs) (.tup ys):=by
 intro G v hv
 cases hv with
 |tup vs xs hs hR=>
  refine .tup vs ys (hs.trans hl) fun j v y hv hy=>?_
  have hlt:j<xs.length:=by rw[hl];exact(List.getElem?_eq_some_iff.1 hy).1
  exact h j _ y (List.getElem?_eq_getElem hlt) hy G v (hR j v _ hv (List.getElem?_eq_getElem hlt))
theorem fin_retw {P:Program}{env:Env}{s s':St}{v v':VV}{rs:List ResultVar}(h:vres P env s rs=some v)(hw:Wk v v')(hf:Fg s s'):Qf P rs (fun e t=>e=.ret v'∧t=s') .ret env s:=
 ⟨v,h,v',s',hw,hf,rfl,rfl⟩
def digB (c:UInt8):Bool:=decide (48≤c.toNat) && decide (c.toNat≤57)
def partB (c:UInt8):Bool:=(decide (97≤c.toNat) && decide (c.toNat≤122)) || (decide (65≤c.toNat) && decide (c.toNat≤90)) || decide (c.toNat=95) || digB c
theorem digit_S (c:UInt8)(s:St):SRet Tryz.prog 121 [.int .u8 c.toNat] s (.bool (digB c)) s:=by
 refine S_enter Tryz.func121 rfl Tryz.ntmps121 rfl ?_
 by_cases h:(48:Int)≤c.toNat
 all_goals
  (repeat(first|refine L_seq ?_|refine L_ret ?_|(refine L_region fun K E hK hE=>?_;simp only[go_sem,seval,h];try(refine hK _ _ ?_;clear hK hE K E))))
  (refine fin_ret ?_ (Fg.refl _);simp only[go_sem,seval,res121,h])
  refine sb ?_
  rw[Bool.eq_iff_iff]
  simp[digB]
  omega
theorem part_S (c:UInt8)(s:St):SRet Tryz.prog 122 [.int .u8 c.toNat] s (.bool (partB c)) s:=by
 refine S_enter Tryz.func122 rfl Tryz.ntmps122 rfl ?_
 have e:((c.toNat:Int)=95)=(c.toNat=95):=by apply propext;omega
 by_cases h:(97:Int)≤c.toNat
 ·by_cases h2:(c.toNat:Int)≤122
  ·(repeat(first|refine L_seq ?_|refine L_ret ?_|(refine L_region fun K E hK hE=>?_;simp only[go_sem,seval,h,h2];try(refine hK _ _ ?_;clear hK hE K E))))
   (refine fin_ret ?_ (Fg.refl _);simp only[go_sem,seval,res122,h,h2])
   refine sb ?_
   simp[partB];omega
  ·by_cases h5:(c.toNat:Int)=95
   ·omega
   ·have h3:(65:Int)≤c.toNat:=by omega
    have h4:¬ (c.toNat:Int)≤90:=by omega
    (repeat(first|refine L_seq ?_|(refine L_region fun K E hK hE=>?_;simp only[go_sem,seval,h,h2,h3,h4,h5];try(refine hK _ _ ?_;clear hK hE K E))))
    (refine call_ret can121 (digit_S _ _) ?_;simp only[go_sem,seval,h,h2,h3,h4,h5];try(refine hK _ _ ?_;clear hK hE K E))
    (repeat(refine L_ret ?_))
    (refine fin_ret ?_ (Fg.refl _);simp only[go_sem,seval,res122,h,h2,h3,h4,h5])
    refine sb ?_
    have:¬ c.toNat≤122:=by omega
    have:¬ c.toNat≤90:=by omega
    have:¬ c.toNat=95:=by omega
    simp[partB, *]
 ·by_cases h3:(65:Int)≤c.toNat
  ·by_cases h4:(c.toNat:Int)≤90
   ·(repeat(first|refine L_seq ?_|refine L_ret ?_|(refine L_region fun K E hK hE=>?_;simp only[go_sem,seval,h,h3,h4];try(refine hK _ _ ?_;clear hK hE K E))))
    (refine fin_ret ?_ (Fg.refl _);simp only[go_sem,seval,res122,h,h3,h4])
    refine sb ?_
    simp[partB];omega
   ·by_cases h5:(c.toNat:Int)=95
    ·(repeat(first|refine L_seq ?_|refine L_ret ?_|(refine L_region fun K E hK hE=>?_;simp only[go_sem,seval,h,h3,h4,h5];try(refine hK _ _ ?_;clear hK hE K E))))
     (refine fin_ret ?_ (Fg.refl _);simp only[go_sem,seval,res122,h,h3,h4,h5])
     refine sb ?_
     have:c.toNat=95:=by omega
     simp[partB,this]
    ·(repeat(first|refine L_seq ?_|(refine L_region fun K E hK hE=>?_;simp only[go_sem,seval,h,h3,h4,h5];try(refine hK _ _ ?_;clear hK hE K E))))
     (refine call_ret can121 (digit_S _ _) ?_;simp only[go_sem,seval,h,h3,h4,h5];try(refine hK _ _ ?_;clear hK hE K E))
     (repeat(refine L_ret ?_))
     (refine fin_ret ?_ (Fg.refl _);simp only[go_sem,seval,res122,h,h3,h4,h5])
     refine sb ?_
     have:¬ 97≤c.toNat:=by omega
     have:¬ c.toNat≤90:=by omega
     have:¬ c.toNat=95:=by omega
     simp[partB, *]
  ·have h5:¬ (c.toNat:Int)=95:=by omega
   (repeat(first|refine L_seq ?_|(refine L_region fun K E hK hE=>?_;simp only[go_sem,seval,h,h3,h5];try(refine hK _ _ ?_;clear hK hE K E))))
   (refine call_ret can121 (digit_S _ _) ?_;simp only[go_sem,seval,h,h3,h5];try(refine hK _ _ ?_;clear hK hE K E))
   (repeat(refine L_ret ?_))
   (refine fin_ret ?_ (Fg.refl _);simp only[go_sem,seval,res122,h,h3,h5])
   refine sb ?_
   have:¬ 97≤c.toNat:=by omega
   have:¬ 65≤c.toNat:=by omega
   have:¬ c.toNat=95:=by omega
   simp[partB, *]
def runN (p:UInt8→Bool)(l:List UInt8):Nat:=(l.takeWhile p).length
theorem runN_le (p:UInt8→Bool)(l:List UInt8):runN p l≤l.length:=by
 unfold runN
 exact(List.takeWhile_prefix p).length_le
theorem runN_cons (p:UInt8→Bool)(c:UInt8)(l:List UInt8):runN p (c::l)=if p c then runN p l+1 else 0:=by
 unfold runN
 rw[List.takeWhile_cons]
 split<;>simp
theorem runN_at (p:UInt8→Bool):∀(l:List UInt8) (k:Nat),k≤runN p l→(∀c,l[k]?=some c→p c=true→k+1≤runN p l)∧(∀c,l[k]?=some c→p c=false→runN p l=k)∧(l[k]?=none→runN p l=k)
 |[],k,h=>by simp[runN]at h ⊢;omega
 |c::l,0,h=>by
  rw[runN_cons]at h ⊢
  refine⟨fun c' e hp=>?_,fun c' e hp=>?_,fun e=>?_⟩
  ·simp at e;subst e;rw[if_pos hp];omega
  ·simp at e;subst e;rw[hp];rfl
  ·simp at e
 |c::l,k+1,h=>by
  rw[runN_cons]at h ⊢
  split at h
  ·rename_i hc
   rw[if_pos hc]
   obtain⟨h1,h2,h3⟩:=runN_at p l k (by omega)
   exact⟨fun c' e hp=>by have:=h1 c' (by simpa using e) hp;omega,fun c' e hp=>by have:=h2 c' (by simpa using e) hp;omega,fun e=>by have:=h3 (by simpa using e);omega⟩
  ·omega
theorem run_S (g:FuncId)(p:UInt8→Bool)(hcan:Callable Tryz.prog g)(hg:∀(c:UInt8) (s:St),SRet Tryz.prog g [.int .u8 c.toNat] s (.bool (p c)) s)
  (l:List UInt8) (hl:l.length≤9223372036854775000) (s:St):SRet Tryz.prog 71 [.str l,.fn g []] s (.int .i64 (runN p l)) s:=by
 refine S_enter Tryz.func71 rfl Tryz.ntmps71 rfl ?_
 (repeat(first|refine L_seq ?_|refine L_blk ?_|(refine L_region fun K E hK hE=>?_;simp only[go_sem,seval];try(refine hK _ _ ?_;clear hK hE K E))))
 refine L_loop (fun n env s'=>s'=s∧∃k:Nat,n=l.length - k∧k≤runN p l∧env 0=.str l∧env 1=.fn g []∧env 5=.int .i64 k) l.length ?_ ?_
 ·exact⟨rfl,0,by simp,Nat.zero_le _,rfl,rfl,rfl⟩
 ·rintro n env s' ⟨rfl,k,rfl,hk,e0,e1,e5⟩
  have hle:=runN_le p l
  obtain⟨h1,h2,h3⟩:=runN_at p l k hk
  cases hc:l[k]? with
  |none=>
   have hge:l.length≤k:=by simpa using hc
   have hlt:¬ ((k:Int)<(l.length:Int)):=by omega
   (repeat(first|refine L_seq ?_|refine L_ret ?_|(refine L_exit ?_;repeat(first|refine X_code ?_|refine X_back ?_|refine X_blk ?_))|(refine L_cond ?_;simp only[go_sem,seval,e0,e1,e5,hlt])|(refine L_region fun K E hK hE=>?_;simp only[go_sem,seval,e0,e1,e5,hlt];try(refine hK _ _ ?_;clear hK hE K E))))
   (refine fin_ret ?_ (Fg.refl _);simp only[go_sem,seval,res71,e0,e1,e5])
   rw[h3 hc]
  |some c=>
   have hlt':k<l.length:=(List.getElem?_eq_some_iff.1 hc).1
   have hlt:(k:Int)<(l.length:Int):=by omega
   have h0:(0:Int)≤(k:Int):=by omega
   have hw:IntKind.i64.wrap ((k:Int)+1)=((k+1:Nat):Int):=by rw[wrap_i64 (by omega) (by omega)];omega
   (repeat(first|refine L_seq ?_|(refine L_region fun K E hK hE=>?_;simp only[go_sem,seval,e0,e1,e5,hlt,h0,hc];try(refine hK _ _ ?_;clear hK hE K E))))
   refine call_ret hcan (hg c s') ?_
   cases hp:p c with
   |true=>
    simp only[go_sem,seval,e0,e1,e5,hlt,h0,hc]
    refine hK _ _ ?_
    clear hK hE K E
    (repeat(first|refine L_blk ?_|refine L_skip ?_|refine L_endblk ?_|(refine L_cond ?_;simp only[go_sem,seval,e0,e1,e5,hlt,h0,hc,hw])|(refine L_region fun K E hK hE=>?_;simp only[go_sem,seval,e0,e1,e5,hlt,h0,hc,hw];try(refine hK _ _ ?_;clear hK hE K E))))
    refine L_back ⟨l.length - (k+1),by omega,rfl,k+1,rfl,h1 c hc hp,?_,?_,?_⟩<;>simp only[go_sem,seval,e0,e1,e5]
   |false=>
    simp only[go_sem,seval,e0,e1,e5,hlt,h0,hc]
    refine hK _ _ ?_
    clear hK hE K E
    (repeat(first|refine L_seq ?_|refine L_ret ?_|(refine L_exit ?_;repeat(first|refine X_code ?_|refine X_back ?_|refine X_blk ?_))|(refine L_cond ?_;simp only[go_sem,seval,e0,e1,e5,hlt,h0,hc,hw])|(refine L_region fun K E hK hE=>?_;simp only[go_sem,seval,e0,e1,e5,hlt,h0,hc,hw];try(refine hK _ _ ?_;clear hK hE K E))))
    (refine fin_ret ?_ (Fg.refl _);simp only[go_sem,seval,res71,e0,e1,e5])
    rw[h2 c hc hp]
theorem rlist1 {G:Gh}{vs:Array Value}{x:VV}(h:RL G vs [x]):∃v,vs=#[v]∧R G v x:=by
 obtain⟨l⟩:=vs
 match l,h with
 |[v],h=>exact⟨v,rfl,h.2 0 v x rfl rfl⟩
 |[],h=>have:=h.1;simp at this
 |_::_::_,h=>have:=h.1;simp at this
theorem rlist2 {G:Gh}{vs:Array Value}{x y:VV}(h:RL G vs [x,y]):∃v u,vs=#[v,u]∧R G v x∧R G u y:=by
 obtain⟨l⟩:=vs
 match l,h with
 |[v,u],h=>exact⟨v,u,rfl,h.2 0 v x rfl rfl,h.2 1 u y rfl rfl⟩
 |[],h=>have:=h.1;simp at this
 |[_],h=>have:=h.1;simp at this
 |_::_::_::_,h=>have:=h.1;simp at this
theorem ext_index (l:List UInt8)(c:UInt8)(s:St):SExt Tryz.prog 148 [.str l,.int .u8 c.toNat] s fun e t=>e=.ret (.int .i64 (Lib.indexByte l c))∧t=s:=by
 intro w0 G w vs hS hvs
 obtain⟨v,u,rfl,hv,hu⟩:=rlist2 hvs
 cases hv with
 |str a=>
  cases hu
  refine⟨.int .i64 (Lib.indexByte a.toList c),w,G,s,_,?_,Gh.le.refl G,hS,.int _ _,rfl,rfl⟩
  have hf:=Tryz.func148
  have hn:(Tryz.f148.name == "runtime.NumGoroutine")=false:=by kernel_rfl
  have hx:Extern.findNext Tryz.f148=none:=by kernel_rfl
  have hy:Extern.find Tryz.f148=some Extern.BytealgIndexByte.indexByte:=by kernel_rfl
  have hb:Tryz.f148.body.isNone=true:=by kernel_rfl
  unfold callFunc
  simp only[Sem.run_bind,run_program,Result.andThen_ok,hf,hn,hb,hx,hy,Bool.false_eq_true,if_false,if_true,run_mark,Lib.run_indexByteString,Sem.run_pure]
  simp
theorem slIndex_S (l:List UInt8)(c:UInt8)(s:St):SRet Tryz.prog 120 [.str l,.int .u8 c.toNat] s (.int .i64 (Lib.indexByte l c)) s:=by
 refine S_enter Tryz.func120 rfl Tryz.ntmps120 rfl ?_
 (repeat(first|refine L_seq ?_|(refine L_region fun K E hK hE=>?_;simp only[go_sem,seval];try(refine hK _ _ ?_;clear hK hE K E))))
 refine call_ext (ext_index l c s) ?_
 simp only[go_sem,seval]
 refine hK _ _ ?_
 clear hK hE K E
 (repeat(refine L_ret ?_))
 (refine fin_ret ?_ (Fg.refl _);simp only[go_sem,seval,res120])
theorem index_S (l:List UInt8)(c:UInt8)(s:St):SRet Tryz.prog 73 [.str l,.int .u8 c.toNat] s (.int .i64 (Lib.indexByte l c)) s:=by
 refine S_enter Tryz.func73 rfl Tryz.ntmps73 rfl ?_
 (repeat(first|refine L_seq ?_|(refine L_region fun K E hK hE=>?_;simp only[go_sem,seval];try(refine hK _ _ ?_;clear hK hE K E))))
 (refine call_ret can120 (slIndex_S l c s) ?_;simp only[go_sem,seval];try(refine hK _ _ ?_;clear hK hE K E))
 (repeat(refine L_ret ?_))
 (refine fin_ret ?_ (Fg.refl _);simp only[go_sem,seval,res73])
theorem prefix_take (p l:List UInt8)(h:p.length≤l.length):decide (l.take p.length=p)=p.isPrefixOf l:=by
 rw[Bool.eq_iff_iff,decide_eq_true_eq,List.isPrefixOf_iff_prefix,List.prefix_iff_eq_take]
 exact⟨fun h=>h.symm,fun h=>h.symm⟩
theorem prefix_long (p l:List UInt8)(h:¬ p.length≤l.length):p.isPrefixOf l=false:=by
 cases hp:p.isPrefixOf l with
 |false=>rfl
 |true=>exact absurd (List.isPrefixOf_iff_prefix.1 hp).length_le h
theorem slPrefix_S (l p:List UInt8)(s:St):SRet Tryz.prog 166 [.str l,.str p] s (.bool (p.isPrefixOf l)) s:=by
 refine S_enter Tryz.func166 rfl Tryz.ntmps166 rfl ?_
 by_cases h:(p.length:Int)≤(l.length:Int)
 ·have h':p.length≤l.length:=by omega
  have h0:(0:Int)≤(p.length:Int):=by omega
  (repeat(first|refine L_seq ?_|refine L_ret ?_|(refine L_region fun K E hK hE=>?_;simp only[go_sem,seval,h,h',h0,Nat.zero_le,and_self];try(refine hK _ _ ?_;clear hK hE K E))))
  (refine fin_ret ?_ (Fg.refl _);simp only[go_sem,seval,res166,h])
  rw[prefix_take p l h']
 ·(repeat(first|refine L_seq ?_|refine L_ret ?_|(refine L_region fun K E hK hE=>?_;simp only[go_sem,seval,h];try(refine hK _ _ ?_;clear hK hE K E))))
  (refine fin_ret ?_ (Fg.refl _);simp only[go_sem,seval,res166,h])
  rw[prefix_long p l (by omega)]
theorem prefix_S (l p:List UInt8)(s:St):SRet Tryz.prog 149 [.str l,.str p] s (.bool (p.isPrefixOf l)) s:=by
 refine S_enter Tryz.func149 rfl Tryz.ntmps149 rfl ?_
 (repeat(first|refine L_seq ?_|(refine L_region fun K E hK hE=>?_;simp only[go_sem,seval];try(refine hK _ _ ?_;clear hK hE K E))))
 (refine call_ret can166 (slPrefix_S l p s) ?_;simp only[go_sem,seval];try(refine hK _ _ ?_;clear hK hE K E))
 (repeat(refine L_ret ?_))
 (refine fin_ret ?_ (Fg.refl _);simp only[go_sem,seval,res149])
def marks:List UInt8:=[40,41,123,125,44,46,59,61,33]
def markN (l:List UInt8):Nat:=
 if ([58,45]:List UInt8).isPrefixOf l then 2 else if ([58,58]:List UInt8).isPrefixOf l then 2 else if ([33,61]:List UInt8).isPrefixOf l then 2 else
 match l with
 |c::_=>if 0≤Lib.indexByte marks c then 1 else 0
 |[]=>0
theorem mark_S (c:UInt8)(l:List UInt8)(s:St):SRet Tryz.prog 123 [.str (c::l)] s (.int .i64 (markN (c::l))) s:=by
 refine S_enter Tryz.func123 rfl Tryz.ntmps123 rfl ?_
 (repeat(first|refine L_seq ?_|refine L_blk ?_|(refine L_region fun K E hK hE=>?_;simp only[go_sem,seval,vrow,and_self];try(refine hK _ _ ?_;clear hK hE K E))))
 refine L_rounds 4 (KR_succ 3 ?_)
 (repeat(first|refine L_seq ?_|refine L_blk ?_|refine L_skip ?_|(refine L_cond ?_;simp only[go_sem,seval])|(refine L_region fun K E hK hE=>?_;simp only[go_sem,seval];try(refine hK _ _ ?_;clear hK hE K E))))
 (refine call_ret can149 (prefix_S _ _ _) ?_;simp only[go_sem,seval];try(refine hK _ _ ?_;clear hK hE K E))
 cases h1:([58,45]:List UInt8).isPrefixOf (c::l)with
 |true=>
  (repeat(first|refine L_seq ?_|refine L_ret ?_|(refine L_cond ?_;simp only[go_sem,seval,h1])|(refine L_region fun K E hK hE=>?_;simp only[go_sem,seval,h1];try(refine hK _ _ ?_;clear hK hE K E))))
  (refine fin_ret ?_ (Fg.refl _);simp only[go_sem,seval,res123])
  simp[markN,h1]
 |false=>
  (repeat(first|refine L_seq ?_|refine L_blk ?_|refine L_skip ?_|refine L_endblk ?_|(refine L_cond ?_;simp only[go_sem,seval,h1])|(refine L_region fun K E hK hE=>?_;simp only[go_sem,seval,h1];try(refine hK _ _ ?_;clear hK hE K E))))
  (refine call_ret can149 (prefix_S _ _ _) ?_;simp only[go_sem,seval];try(refine hK _ _ ?_;clear hK hE K E))
  cases h2:([58,58]:List UInt8).isPrefixOf (c::l)with
  |true=>
   (repeat(first|refine L_seq ?_|refine L_ret ?_|(refine L_cond ?_;simp only[go_sem,seval,h2])|(refine L_region fun K E hK hE=>?_;simp only[go_sem,seval,h2];try(refine hK _ _ ?_;clear hK hE K E))))
   (refine fin_ret ?_ (Fg.refl _);simp only[go_sem,seval,res123])
   simp[markN,h1,h2]
  |false=>
   (repeat(first|refine L_seq ?_|refine L_blk ?_|refine L_skip ?_|refine L_endblk ?_|(refine L_cond ?_;simp only[go_sem,seval,h2])|(refine L_region fun K E hK hE=>?_;simp only[go_sem,seval,h2];try(refine hK _ _ ?_;clear hK hE K E))))
   (refine call_ret can149 (prefix_S _ _ _) ?_;simp only[go_sem,seval];try(refine hK _ _ ?_;clear hK hE K E))
   cases h3:([33,61]:List UInt8).isPrefixOf (c::l)with
   |true=>
    (repeat(first|refine L_seq ?_|refine L_ret ?_|(refine L_cond ?_;simp only[go_sem,seval,h3])|(refine L_region fun K E hK hE=>?_;simp only[go_sem,seval,h3];try(refine hK _ _ ?_;clear hK hE K E))))
    (refine fin_ret ?_ (Fg.refl _);simp only[go_sem,seval,res123])
    simp[markN,h1,h2,h3]
   |false=>
    (repeat(first|refine L_seq ?_|refine L_skip ?_|refine L_endblk ?_|(refine L_exit ?_;repeat(first|refine X_code ?_|refine X_back ?_|refine X_blk ?_))|(refine L_cond ?_;simp only[go_sem,seval,h3])|(refine L_region fun K E hK hE=>?_;simp only[go_sem,seval,h3];try(refine hK _ _ ?_;clear hK hE K E))))
    (refine call_ret can73 (index_S marks c s) ?_;simp only[go_sem,seval];try(refine hK _ _ ?_;clear hK hE K E))
    by_cases h4:0≤Lib.indexByte marks c
    ·(repeat(first|refine L_seq ?_|refine L_ret ?_|(refine L_cond ?_;simp only[go_sem,seval,h4])|(refine L_region fun K E hK hE=>?_;simp only[go_sem,seval,h4];try(refine hK _ _ ?_;clear hK hE K E))))
     (refine fin_ret ?_ (Fg.refl _);simp only[go_sem,seval,res123])
     simp[markN,h1,h2,h3,h4]
    ·(repeat(first|refine L_seq ?_|refine L_skip ?_|refine L_ret ?_|(refine L_cond ?_;simp only[go_sem,seval,h4])|(refine L_region fun K E hK hE=>?_;simp only[go_sem,seval,h4];try(refine hK _ _ ?_;clear hK hE K E))))
     (refine fin_ret ?_ (Fg.refl _);simp only[go_sem,seval,res123])
     simp[markN,h1,h2,h3,h4]
def oneK:List UInt8→Nat×Nat
 |[]=>(0,0)
 |c::l=>
  if digB c then(if 10<runN digB (c::l)∨(1<runN digB (c::l)∧c=48)then(0,0)else(2,runN digB (c::l)))
  else if partB c then(if 32<runN partB (c::l)then(0,0)else(1,runN partB (c::l)))
  else(3,markN (c::l))
theorem one_S (c:UInt8)(l:List UInt8)(hl:(c::l).length≤9223372036854775000)(s:St) :
  SRet Tryz.prog 75 [.str (c::l)] s (.tup [.int .i64 (oneK (c::l)).1,.int .i64 (oneK (c::l)).2]) s:=by
 refine S_enter Tryz.func75 rfl Tryz.ntmps75 rfl ?_
 have hle:=runN_le digB (c::l)
 have hle':=runN_le partB (c::l)
 have e48:((c.toNat:Int)=48)=(c=48):=by
  apply propext
  constructor
  ·intro h;apply UInt8.toNat_inj.1;show c.toNat=48;omega
  ·rintro rfl;rfl
 (repeat(first|refine L_seq ?_|refine L_blk ?_|(refine L_region fun K E hK hE=>?_;simp only[go_sem,seval];try(refine hK _ _ ?_;clear hK hE K E))))
 (refine call_ret can121 (digit_S _ _) ?_;simp only[go_sem,seval];try(refine hK _ _ ?_;clear hK hE K E))
 cases hd:digB c with
 |true=>
  (repeat(first|refine L_seq ?_|(refine L_cond ?_;simp only[go_sem,seval,hd])|(refine L_region fun K E hK hE=>?_;simp only[go_sem,seval,hd];try(refine hK _ _ ?_;clear hK hE K E))))
  (refine call_ret can71 (run_S 121 digB can121 digit_S (c::l) hl s) ?_;simp only[go_sem,seval,hd];try(refine hK _ _ ?_;clear hK hE K E))
  by_cases h1:(10:Int)<(runN digB (c::l):Int)
  ·(repeat(first|refine L_seq ?_|refine L_ret ?_|(refine L_cond ?_;simp only[go_sem,seval,hd,h1])|(refine L_region fun K E hK hE=>?_;simp only[go_sem,seval,hd,h1];try(refine hK _ _ ?_;clear hK hE K E))))
   (refine fin_ret ?_ (Fg.refl _);simp only[go_sem,seval,res75])
   have:(oneK (c::l))=(0,0):=by simp only[oneK,hd,if_true];rw[if_pos (.inl (by omega))]
   simp[this]
  ·by_cases h2:(1:Int)<(runN digB (c::l):Int)
   ·by_cases h3:c=48
    ·have h4:(c.toNat:Int)=48:=by rw[e48];exact h3
     (repeat(first|refine L_seq ?_|refine L_ret ?_|(refine L_cond ?_;simp only[go_sem,seval,hd,h1,h2,h4])|(refine L_region fun K E hK hE=>?_;simp only[go_sem,seval,hd,h1,h2,h4];try(refine hK _ _ ?_;clear hK hE K E))))
     (refine fin_ret ?_ (Fg.refl _);simp only[go_sem,seval,res75])
     have:(oneK (c::l))=(0,0):=by simp only[oneK,hd,if_true];rw[if_pos (.inr ⟨by omega,h3⟩)]
     simp[this]
    ·have h4:¬ (c.toNat:Int)=48:=by rw[e48];exact h3
     (repeat(first|refine L_seq ?_|refine L_skip ?_|refine L_ret ?_|(refine L_cond ?_;simp only[go_sem,seval,hd,h1,h2,h4])|(refine L_region fun K E hK hE=>?_;simp only[go_sem,seval,hd,h1,h2,h4];try(refine hK _ _ ?_;clear hK hE K E))))
     (refine fin_ret ?_ (Fg.refl _);simp only[go_sem,seval,res75])
     have:(oneK (c::l))=(2,runN digB (c::l)):=by simp only[oneK,hd,if_true];rw[if_neg (by rintro(h|⟨_,h⟩);omega;exact h3 h)]
     simp[this]
   ·(repeat(first|refine L_seq ?_|refine L_skip ?_|refine L_ret ?_|(refine L_cond ?_;simp only[go_sem,seval,hd,h1,h2])|(refine L_region fun K E hK hE=>?_;simp only[go_sem,seval,hd,h1,h2];try(refine hK _ _ ?_;clear hK hE K E))))
    (refine fin_ret ?_ (Fg.refl _);simp only[go_sem,seval,res75])
    have:(oneK (c::l))=(2,runN digB (c::l)):=by simp only[oneK,hd,if_true];rw[if_neg (by rintro(h|⟨h,_⟩)<;>omega)]
    simp[this]
 |false=>
  (repeat(first|refine L_seq ?_|(refine L_cond ?_;simp only[go_sem,seval,hd])|(refine L_region fun K E hK hE=>?_;simp only[go_sem,seval,hd];try(refine hK _ _ ?_;clear hK hE K E))))
  (refine call_ret can122 (part_S _ _) ?_;simp only[go_sem,seval,hd];try(refine hK _ _ ?_;clear hK hE K E))
  cases hp:partB c with
  |true=>
   (repeat(first|refine L_seq ?_|(refine L_cond ?_;simp only[go_sem,seval,hd,hp])|(refine L_region fun K E hK hE=>?_;simp only[go_sem,seval,hd,hp];try(refine hK _ _ ?_;clear hK hE K E))))
   (refine call_ret can71 (run_S 122 partB can122 part_S (c::l) hl s) ?_;simp only[go_sem,seval,hd];try(refine hK _ _ ?_;clear hK hE K E))
   by_cases h1:(32:Int)<(runN partB (c::l):Int)
   ·(repeat(first|refine L_seq ?_|refine L_ret ?_|(refine L_cond ?_;simp only[go_sem,seval,hd,h1])|(refine L_region fun K E hK hE=>?_;simp only[go_sem,seval,hd,h1];try(refine hK _ _ ?_;clear hK hE K E))))
    (refine fin_ret ?_ (Fg.refl _);simp only[go_sem,seval,res75])
    have:(oneK (c::l))=(0,0):=by simp only[oneK,hd,hp,if_true,Bool.false_eq_true,if_false];rw[if_pos (by omega)]
    simp[this]
   ·(repeat(first|refine L_seq ?_|refine L_skip ?_|refine L_ret ?_|(refine L_cond ?_;simp only[go_sem,seval,hd,h1])|(refine L_region fun K E hK hE=>?_;simp only[go_sem,seval,hd,h1];try(refine hK _ _ ?_;clear hK hE K E))))
    (refine fin_ret ?_ (Fg.refl _);simp only[go_sem,seval,res75])
    have:(oneK (c::l))=(1,runN partB (c::l)):=by simp only[oneK,hd,hp,if_true,Bool.false_eq_true,if_false];rw[if_neg (by omega)]
    simp[this]
  |false=>
   (repeat(first|refine L_seq ?_|refine L_skip ?_|(refine L_cond ?_;simp only[go_sem,seval,hd,hp])|(refine L_region fun K E hK hE=>?_;simp only[go_sem,seval,hd,hp];try(refine hK _ _ ?_;clear hK hE K E))))
   (refine call_ret can123 (mark_S c l s) ?_;simp only[go_sem,seval,hd];try(refine hK _ _ ?_;clear hK hE K E))
   (repeat(refine L_ret ?_))
   (refine fin_ret ?_ (Fg.refl _);simp only[go_sem,seval,res75])
   simp[oneK,hd,hp]
structure Sgn where
 kind:Nat
 text:List UInt8
 at_:Nat
def sgnC (x:Sgn):List VV:=[.int .i64 x.kind,.str x.text,.int .i64 x.at_]
def blankB (c:UInt8):Bool:=decide (0≤Lib.indexByte [32,9,10,13] c)
def noLine (c:UInt8):Bool:=!decide ((c.toNat:Int)=10)
theorem blank_S (c:UInt8)(s:St):SRet Tryz.prog 72 [.int .u8 c.toNat] s (.bool (blankB c)) s:=by
 refine S_enter Tryz.func72 rfl Tryz.ntmps72 rfl ?_
 (repeat(first|refine L_seq ?_|(refine L_region fun K E hK hE=>?_;simp only[go_sem,seval];try(refine hK _ _ ?_;clear hK hE K E))))
 (refine call_ret can73 (index_S _ c s) ?_;simp only[go_sem,seval];try(refine hK _ _ ?_;clear hK hE K E))
 (repeat(refine L_ret ?_))
 (refine fin_ret ?_ (Fg.refl _);simp only[go_sem,seval,res72])
 rfl
theorem noLine_S (c:UInt8)(s:St):SRet Tryz.prog 74 [.int .u8 c.toNat] s (.bool (noLine c)) s:=by
 refine S_enter Tryz.func74 rfl Tryz.ntmps74 rfl ?_
 (repeat(first|refine L_seq ?_|refine L_ret ?_|(refine L_region fun K E hK hE=>?_;simp only[go_sem,seval];try(refine hK _ _ ?_;clear hK hE K E))))
 (refine fin_ret ?_ (Fg.refl _);simp only[go_sem,seval,res74])
 rfl
def lexGo:Nat→List UInt8→Nat→List Sgn→Except (Nat×Nat) (List Sgn)
 |0,_,_,out=>.ok out
 |f+1,l,at_,out=>
  let b:=runN blankB l
  match l.drop b with
  |[]=>.ok out
  |c::r=>
   if c.toNat=35 then lexGo f ((c::r).drop (runN noLine (c::r))) (at_+b+runN noLine (c::r)) out
   else if (oneK (c::r)).2=0 then .error (at_+b,100)
   else if 4096≤out.length then .error (at_+b,2)
   else lexGo f ((c::r).drop (oneK (c::r)).2) (at_+b+(oneK (c::r)).2) (out++[⟨(oneK (c::r)).1,(c::r).take (oneK (c::r)).2,at_+b⟩])
def lexSigns (s:List UInt8):Except (Nat×Nat) (List Sgn):=if 16384<s.length then .error (0,1)else lexGo (s.length+1) s 0 []
def signsV:Except (Nat×Nat) (List Sgn)→VV
 |.ok l=>.tup [.lst (l.map sgnC) .no,.int .i64 0,.int .i64 0]
 |.error (a,e)=>.tup [.lst [] .no,.int .i64 a,.int .i64 e]
theorem oneK_le (c:UInt8)(l:List UInt8):(oneK (c::l)).2≤(c::l).length:=by
 have h1:=runN_le digB (c::l)
 have h2:=runN_le partB (c::l)
 have pre:∀(p:List UInt8),p.length=2→p.isPrefixOf (c::l)=true→2≤(c::l).length:=fun p hp h=>by
  have:=(List.isPrefixOf_iff_prefix.1 h).length_le
  omega
 simp only[oneK]
 split
 ·split<;>simp<;>exact h1
 ·split
  ·split<;>simp<;>exact h2
  ·show markN (c::l)≤_
   unfold markN
   split
   ·rename_i h;exact pre _ rfl h
   ·split
    ·rename_i h;exact pre _ rfl h
    ·split
     ·rename_i h;exact pre _ rfl h
     ·show (if 0≤Lib.indexByte marks c then 1 else 0)≤(c::l).length
      split<;>simp
theorem Wk.tup3 {xs:List (List VV)}{o:Own}{a b:VV}:Wk (.tup [.lst xs o,a,b]) (.tup [.lst xs .no,a,b]):=
 Wk.tup rfl fun j x y hx hy=>by
  match j with
  |0=>simp at hx hy;subst hx;subst hy;exact Wk.lst _ _
  |1=>simp at hx hy;subst hx;subst hy;exact Wk.refl _
  |2=>simp at hx hy;subst hx;subst hy;exact Wk.refl _
  |j+3=>simp at hx
theorem append_own {k:VV→St→Prop}{e:TypeId}{q:QI}{xs ys:List (List VV)}{o:Own}{s:St}{n sz m:Nat}(hn:xs.length=n)(hsz:q.sz=sz)(hys:ys.length=m)(ho:OwnOk s o n)(hb:(n+m) * q.bt≤140737488355328)(hm:n+m≤9223372036854775807)
  (hy:∀y,y∈ys→y.length=sz) (hz:q.zok=true)
  (h:∀o',OwnOk s o' (n+m)→k (.lst (xs++ys) o') (s.own o' e sz (n+m))):vappend k e q xs ys o (s.own o e sz n):=by
 subst hn
 subst hsz
 subst hys
 refine⟨hb,hm,hy,hz,?_⟩
 cases o with
 |no=>exact ho.elim
 |full=>
  have hx:xs=[]:=List.eq_nil_of_length_eq_zero ho
  subst hx
  refine⟨by simp,fun e=>?_,fun _ b hb=>?_⟩
  ·subst e;exact h .full rfl
  ·exact h (.at_ b) hb
 |at_ b=>
  refine⟨St.set_same _ _ _,fun b' hb'=>?_⟩
  have e1:(St.own s (.at_ b) e q.sz xs.length).set b .free=s:=by
   show (s.set b _).set b .free=s
   rw[St.set_set]
   exact St.set_self _ _ _ ho
  rw[e1]
  by_cases hbb:b'=b
  ·subst hbb;exact h (.at_ b') ho
  ·rcases hb' with hb'|hb'
   ·exact absurd hb' hbb
   ·have:s b'=.free:=by
     have h2:(s.set b (.vec e q.sz xs.length)) b'=s b':=St.set_other _ _ hbb
     rw[← h2];exact hb'
    exact h (.at_ b') this
theorem signs_S (l:List UInt8)(hl:l.length≤9223372036854775000)(s:St):SRet Tryz.prog 40 [.str l] s (signsV (lexSigns l)) s:=by
 refine S_enter Tryz.func40 rfl Tryz.ntmps40 rfl ?_
 by_cases hbig:(16384:Int)<(l.length:Int)
 ·(repeat(first|refine L_seq ?_|refine L_ret ?_|(refine L_cond ?_;simp only[go_sem,seval,hbig])|(refine L_region fun K E hK hE=>?_;simp only[go_sem,seval,hbig];try(refine hK _ _ ?_;clear hK hE K E))))
  refine fin_retw (v:=.tup [.lst [] .full,.int .i64 0,.int .i64 1]) ?_ ?_ (Fg.refl _)
  ·simp only[go_sem,seval,res40]
  ·rw[show lexSigns l=.error (0,1) by unfold lexSigns;rw[if_pos (by omega)]]
   exact Wk.tup3
 ·(repeat(first|refine L_seq ?_|refine L_blk ?_|refine L_skip ?_|(refine L_cond ?_;simp only[go_sem,seval,hbig])|(refine L_region fun K E hK hE=>?_;simp only[go_sem,seval,hbig];try(refine hK _ _ ?_;clear hK hE K E))))
  have hr:lexSigns l=lexGo (l.length+1) l 0 []:=by unfold lexSigns;rw[if_neg (by omega)]
  generalize lexSigns l=r at hr
  refine L_loop (fun n env s'=>∃(at_:Nat) (out:List Sgn) (o:Own),at_≤l.length∧l.length<at_+n∧out.length≤4096∧r=lexGo n (l.drop at_) at_ out∧s'=s.own o 133 3 out.length∧OwnOk s o out.length ∧
   env 0=.str l∧env 5=.lst (out.map sgnC) o∧env 6=.int .i64 at_) (l.length+1) ?_ ?_
  ·exact⟨0,[],.full,Nat.zero_le _,by omega,Nat.zero_le _,by simpa using hr,rfl,rfl,rfl,rfl,rfl⟩
  ·rintro n env s' ⟨at_,out,o,hat,hn,hout,hgo,rfl,hown,e0,e5,e6⟩
   have h0:(0:Int)≤(at_:Int):=by omega
   have hlen:(l.drop at_).length≤9223372036854775000:=by rw[List.length_drop];omega
   have hb:=runN_le blankB (l.drop at_)
   rw[List.length_drop]at hb
   obtain⟨p,hp⟩:∃p,p=at_+runN blankB (l.drop at_):=⟨_,rfl⟩
   have hw:IntKind.i64.wrap ((at_:Int)+(runN blankB (l.drop at_):Int))=(p:Int):=by rw[wrap_i64 (by omega) (by omega)];omega
   have hpl:p≤l.length:=by omega
   have hp0:(0:Int)≤(p:Int):=by omega
   obtain⟨m,rfl⟩:∃m,n=m+1:=⟨n - 1,by omega⟩
   simp only[lexGo]at hgo
   rw[List.drop_drop,← hp]at hgo
   (repeat(first|refine L_seq ?_|refine L_blk ?_|(refine L_region fun K E hK hE=>?_;simp only[go_sem,seval,e0,e5,e6,h0,hat,Nat.le_refl,and_self,List.take_length];try(refine hK _ _ ?_;clear hK hE K E))))
   (refine call_ret can71 (run_S 72 blankB can72 blank_S (l.drop at_) hlen _) ?_;simp only[go_sem,seval,e0,e5,e6,hw];try(refine hK _ _ ?_;clear hK hE K E))
   cases hd:l.drop p with
   |nil=>
    have hpe:p=l.length:=by
     have:=congrArg List.length hd
     simp at this
     omega
    have ht:((p:Int)=(l.length:Int))=True:=by apply propext;simp;omega
    rw[hd]at hgo
    (repeat(first|refine L_seq ?_|refine L_ret ?_|(refine L_cond ?_;simp only[go_sem,seval,e0,e5,ht])|(refine L_region fun K E hK hE=>?_;simp only[go_sem,seval,e0,e5,ht];try(refine hK _ _ ?_;clear hK hE K E))))
    refine fin_retw (v:=.tup [.lst (out.map sgnC) o,.int .i64 0,.int .i64 0]) ?_ ?_ (Fg.own hown)
    ·simp only[go_sem,seval,res40,e5]
    ·rw[hgo];exact Wk.tup3
   |cons c rr=>
    have hplt:p<l.length:=by
     have:=congrArg List.length hd
     simp at this
     omega
    have ht:¬ ((p:Int)=(l.length:Int)):=by omega
    have hc:l[p]?=some c:=by
     have:=congrArg (·[0]?) hd
     simpa using this
    rw[hd]at hgo
    simp only at hgo
    have hlen2:(c::rr).length≤9223372036854775000:=by rw[← hd,List.length_drop];omega
    by_cases h35:c.toNat=35
    ·have h35':(c.toNat:Int)=35:=by omega
     rw[if_pos h35]at hgo
     have hq:=runN_le noLine (c::rr)
     have hq1:1≤runN noLine (c::rr):=by
      rw[runN_cons,if_pos (by simp[noLine];omega)];omega
     have hql:(c::rr).length=l.length - p:=by rw[← hd,List.length_drop]
     have hw2:IntKind.i64.wrap ((p:Int)+(runN noLine (c::rr):Int))=((p+runN noLine (c::rr):Nat):Int):=by rw[wrap_i64 (by omega) (by omega)];omega
     (repeat(first|refine L_seq ?_|refine L_skip ?_|(refine L_cond ?_;simp only[go_sem,seval,e0,e5,e6,hp0,hpl,ht,hc,h35',Nat.le_refl,and_self,List.take_length,hd])|(refine L_region fun K E hK hE=>?_;simp only[go_sem,seval,e0,e5,e6,hp0,hpl,ht,hc,h35',Nat.le_refl,and_self,List.take_length,hd];try(refine hK _ _ ?_;clear hK hE K E))))
     (refine call_ret can71 (run_S 74 noLine can74 noLine_S (c::rr) hlen2 _) ?_;simp only[go_sem,seval,e0,e5,hw2];try(refine hK _ _ ?_;clear hK hE K E))
     (repeat((refine L_exit ?_;repeat(first|refine X_code ?_|refine X_blk ?_))))
     refine⟨m,Nat.lt_succ_self m,p+runN noLine (c::rr),out,o,by omega,by omega,hout,?_,rfl,hown,?_,?_,?_⟩
     ·rw[hgo,← hd,List.drop_drop]
     all_goals simp only[go_sem,seval,e0,e5]
    ·have h35':¬ (c.toNat:Int)=35:=by omega
     rw[if_neg h35]at hgo
     (repeat(first|refine L_seq ?_|refine L_skip ?_|(refine L_cond ?_;simp only[go_sem,seval,e0,e5,e6,hp0,hpl,ht,hc,h35',Nat.le_refl,and_self,List.take_length,hd])|(refine L_region fun K E hK hE=>?_;simp only[go_sem,seval,e0,e5,e6,hp0,hpl,ht,hc,h35',Nat.le_refl,and_self,List.take_length,hd];try(refine hK _ _ ?_;clear hK hE K E))))
     (refine call_ret can75 (one_S c rr hlen2 _) ?_;simp only[go_sem,seval,e0,e5];try(refine hK _ _ ?_;clear hK hE K E))
     have hk:=oneK_le c rr
     rw[show (c::rr).length=l.length - p by rw[← hd,List.length_drop]]at hk
     generalize hone:oneK (c::rr)=kn at hgo hk
     obtain⟨kd,nn⟩:=kn
     simp only at hgo hk
     by_cases h0n:nn=0
     ·have h0':(nn:Int)=0:=by omega
      rw[if_pos h0n]at hgo
      (repeat(first|refine L_seq ?_|refine L_blk ?_|refine L_ret ?_|(refine L_cond ?_;simp only[go_sem,seval,e0,e5,e6,h0'])|(refine L_region fun K E hK hE=>?_;simp only[go_sem,seval,e0,e5,e6,h0'];try(refine hK _ _ ?_;clear hK hE K E))))
      refine fin_retw (v:=.tup [.lst [] .full,.int .i64 p,.int .i64 100]) ?_ ?_ (Fg.own hown)
      ·simp only[go_sem,seval,res40,e5,e6]
      ·rw[hgo];exact Wk.tup3
     ·have h0':¬ (nn:Int)=0:=by omega
      rw[if_neg h0n]at hgo
      by_cases hfull:4096≤out.length
      ·have hf':(4096:Int)≤(out.length:Int):=by omega
       rw[if_pos hfull]at hgo
       (repeat(first|refine L_seq ?_|refine L_blk ?_|refine L_ret ?_|(refine L_cond ?_;simp only[go_sem,seval,e0,e5,e6,h0',hf',List.length_map])|(refine L_region fun K E hK hE=>?_;simp only[go_sem,seval,e0,e5,e6,h0',hf',List.length_map];try(refine hK _ _ ?_;clear hK hE K E))))
       refine fin_retw (v:=.tup [.lst [] .full,.int .i64 p,.int .i64 2]) ?_ ?_ (Fg.own hown)
       ·simp only[go_sem,seval,res40,e5,e6]
       ·rw[hgo];exact Wk.tup3
      ·have hf':¬ (4096:Int)≤(out.length:Int):=by omega
       rw[if_neg hfull]at hgo
       have hw3:IntKind.i64.wrap ((p:Int)+(nn:Int))=((p+nn:Nat):Int):=by rw[wrap_i64 (by omega) (by omega)];omega
       have hpn:(0:Int)≤((p+nn:Nat):Int):=by omega
       have hpn2:p≤p+nn∧p+nn≤l.length:=by omega
       (repeat(first|refine L_seq ?_|refine L_blk ?_|refine L_skip ?_|(refine L_cond ?_;simp only[go_sem,seval,e0,e5,e6,h0',hf',List.length_map,hw3,hpn,hp0,hpn2,and_self,vrow])|(refine L_region fun K E hK hE=>?_;simp only[go_sem,seval,e0,e5,e6,h0',hf',List.length_map,hw3,hpn,hp0,hpn2,and_self,vrow];try(refine hK _ _ ?_;clear hK hE K E))))
       refine append_own (n:=out.length) (sz:=3) (m:=1) (by simp) rfl rfl hown (by simp only;omega) (by omega) (fun y hy=>by simp at hy;subst hy;rfl) rfl fun o' ho'=>?_
       refine hK _ _ ?_
       clear hK hE K E
       (repeat(first|refine L_endblk ?_|(refine L_region fun K E hK hE=>?_;simp only[go_sem,seval,e0,e5,hw3];try(refine hK _ _ ?_;clear hK hE K E))))
       refine⟨m,Nat.lt_succ_self m,p+nn,out++[{ kind:=kd,text:=(c::rr).take nn,at_:=p }],o',by omega,by omega,by simp;omega,?_,by simp,by simpa using ho',?_,?_,?_⟩
       ·rw[hgo,← hd,List.drop_drop]
       ·simp only[go_sem,seval,e0]
       ·have htk:List.drop p (List.take (p+nn) l)=(c::rr).take nn:=by
         rw[← hd,List.drop_take]
         congr 1
         omega
        simp only[go_sem,seval,htk,List.map_append,sgnC]
       ·simp only[go_sem,seval,e0]
def kwB (t:List UInt8):Bool:=
 decide (t=[99,108,97,115,115]) || decide (t=[101,120,116,101,110,100,115]) || decide (t=[115,116,97,116,105,99]) || decide (t=[110,101,119]) || decide (t=[114,101,116,117,114,110]) || decide (t=[105,102]) || decide (t=[101,108,115,101]) || decide (t=[108,111,111,112])
theorem keyword_S (t:List UInt8)(s:St):SRet Tryz.prog 182 [.str t] s (.bool (kwB t)) s:=by
 refine S_enter Tryz.func182 rfl Tryz.ntmps182 rfl ?_
 by_cases h1:t=[99,108,97,115,115]
 ·have e1:=eq_true h1
  (repeat(first|refine L_seq ?_|refine L_blk ?_|refine L_skip ?_|refine L_ret ?_|(refine L_cond ?_;simp only[go_sem,seval,e1])|(refine L_region fun K E hK hE=>?_;simp only[go_sem,seval,e1];try(refine hK _ _ ?_;clear hK hE K E))))
  (refine fin_ret ?_ (Fg.refl _);simp only[go_sem,seval,res182])
  exact sb (by subst h1;decide)
 have e1:=eq_false h1
 by_cases h2:t=[101,120,116,101,110,100,115]
 ·have e2:=eq_true h2
  (repeat(first|refine L_seq ?_|refine L_blk ?_|refine L_skip ?_|refine L_ret ?_|(refine L_cond ?_;simp only[go_sem,seval,e1,e2])|(refine L_region fun K E hK hE=>?_;simp only[go_sem,seval,e1,e2];try(refine hK _ _ ?_;clear hK hE K E))))
  (refine fin_ret ?_ (Fg.refl _);simp only[go_sem,seval,res182])
  exact sb (by subst h2;decide)
 have e2:=eq_false h2
 by_cases h3:t=[115,116,97,116,105,99]
 ·have e3:=eq_true h3
  (repeat(first|refine L_seq ?_|refine L_blk ?_|refine L_skip ?_|refine L_ret ?_|(refine L_cond ?_;simp only[go_sem,seval,e1,e2,e3])|(refine L_region fun K E hK hE=>?_;simp only[go_sem,seval,e1,e2,e3];try(refine hK _ _ ?_;clear hK hE K E))))
  (refine fin_ret ?_ (Fg.refl _);simp only[go_sem,seval,res182])
  exact sb (by subst h3;decide)
 have e3:=eq_false h3
 by_cases h4:t=[110,101,119]
 ·have e4:=eq_true h4
  (repeat(first|refine L_seq ?_|refine L_blk ?_|refine L_skip ?_|refine L_ret ?_|(refine L_cond ?_;simp only[go_sem,seval,e1,e2,e3,e4])|(refine L_region fun K E hK hE=>?_;simp only[go_sem,seval,e1,e2,e3,e4];try(refine hK _ _ ?_;clear hK hE K E))))
  (refine fin_ret ?_ (Fg.refl _);simp only[go_sem,seval,res182])
  exact sb (by subst h4;decide)
 have e4:=eq_false h4
 by_cases h5:t=[114,101,116,117,114,110]
 ·have e5:=eq_true h5
  (repeat(first|refine L_seq ?_|refine L_blk ?_|refine L_skip ?_|refine L_ret ?_|(refine L_cond ?_;simp only[go_sem,seval,e1,e2,e3,e4,e5])|(refine L_region fun K E hK hE=>?_;simp only[go_sem,seval,e1,e2,e3,e4,e5];try(refine hK _ _ ?_;clear hK hE K E))))
  (refine fin_ret ?_ (Fg.refl _);simp only[go_sem,seval,res182])
  exact sb (by subst h5;decide)
 have e5:=eq_false h5
 by_cases h6:t=[105,102]
 ·have e6:=eq_true h6
  (repeat(first|refine L_seq ?_|refine L_blk ?_|refine L_skip ?_|refine L_ret ?_|(refine L_cond ?_;simp only[go_sem,seval,e1,e2,e3,e4,e5,e6])|(refine L_region fun K E hK hE=>?_;simp only[go_sem,seval,e1,e2,e3,e4,e5,e6];try(refine hK _ _ ?_;clear hK hE K E))))
  (refine fin_ret ?_ (Fg.refl _);simp only[go_sem,seval,res182])
  exact sb (by subst h6;decide)
 have e6:=eq_false h6
 by_cases h7:t=[101,108,115,101]
 ·have e7:=eq_true h7
  (repeat(first|refine L_seq ?_|refine L_blk ?_|refine L_skip ?_|refine L_ret ?_|(refine L_cond ?_;simp only[go_sem,seval,e1,e2,e3,e4,e5,e6,e7])|(refine L_region fun K E hK hE=>?_;simp only[go_sem,seval,e1,e2,e3,e4,e5,e6,e7];try(refine hK _ _ ?_;clear hK hE K E))))
  (refine fin_ret ?_ (Fg.refl _);simp only[go_sem,seval,res182])
  exact sb (by subst h7;decide)
 have e7:=eq_false h7
 by_cases h8:t=[108,111,111,112]
 ·have e8:=eq_true h8
  (repeat(first|refine L_seq ?_|refine L_blk ?_|refine L_ret ?_|(refine L_cond ?_;simp only[go_sem,seval,e1,e2,e3,e4,e5,e6,e7,e8])|(refine L_region fun K E hK hE=>?_;simp only[go_sem,seval,e1,e2,e3,e4,e5,e6,e7,e8];try(refine hK _ _ ?_;clear hK hE K E))))
  (refine fin_ret ?_ (Fg.refl _);simp only[go_sem,seval,res182])
  exact sb (by subst h8;decide)
 have e8:=eq_false h8
 (repeat(first|refine L_seq ?_|refine L_blk ?_|refine L_skip ?_|refine L_ret ?_|(refine L_cond ?_;simp only[go_sem,seval,e1,e2,e3,e4,e5,e6,e7,e8])|(refine L_region fun K E hK hE=>?_;simp only[go_sem,seval,e1,e2,e3,e4,e5,e6,e7,e8];try(refine hK _ _ ?_;clear hK hE K E))))
 (refine fin_ret ?_ (Fg.refl _);simp only[go_sem,seval,res182])
 exact sb (by simp only[kwB,e1,e2,e3,e4,e5,e6,e7,e8];rfl)
def isT (L:List Sgn)(a:Nat)(t:List UInt8):Bool:=match L[a]? with|some x=>decide (x.text=t)|none=>false
def place (e:Nat):List Sgn→Nat
 |[]=>e
 |x::_=>x.at_
theorem sgn_all2 (x:Sgn)(L:List Sgn):(∀y,y∈[VV.int .i64 x.kind,VV.str x.text,VV.int .i64 x.at_]::L.map sgnC→y.length=3)=True:=by
 apply eq_true
 intro y h
 rcases List.mem_cons.1 h with rfl|h
 ·rfl
 ·obtain⟨y,_,rfl⟩:=List.mem_map.1 h;rfl
theorem sgn_take (L:List Sgn):(L.map sgnC).take L.length=L.map sgnC:=List.take_of_length_le (by simp)
abbrev PR (α:Type):=Except (Nat×Nat) (α×List Sgn×Nat)
def unitV (_:Unit):VV:=.tup []
def mustP (e:Nat)(L:List Sgn)(n:Nat)(t:List UInt8):PR Unit:=if isT L 0 t then .ok ((),L.tail,n)else .error (place e L,150)
def namedB:List Sgn→Bool
 |[]=>false
 |x::_=>decide (x.kind=1) && !kwB x.text
def nameP (e:Nat)(L:List Sgn)(n:Nat):PR (List UInt8):=
 match L with
 |[]=>.error (e,150)
 |x::L'=>if namedB (x::L')then .ok (x.text,L',n)else .error (x.at_,150)
def roomP (e:Nat)(L:List Sgn)(n:Nat)(hv mst:Nat)(b:Bool):PR Unit:=if mst≤hv∧b=true then .error (place e L,2)else .ok ((),L,n)
def bnd {α β:Type}(x:PR α)(k:α→List Sgn→Nat→PR β):PR β:=
 match x with
 |.ok (a,L,n)=>k a L n
 |.error y=>.error y
theorem bnd_ok {α β:Type}{a:α}{L:List Sgn}{n:Nat}{k:α→List Sgn→Nat→PR β}:bnd (.ok (a,L,n)) k=k a L n:=rfl
theorem bnd_err {α β:Type}{x:Nat×Nat}{k:α→List Sgn→Nat→PR β}:bnd (.error x) k=.error x:=rfl
theorem bnd_assoc {α β γ:Type}{x:PR α}{k:α→List Sgn→Nat→PR β}{k':β→List Sgn→Nat→PR γ}:bnd (bnd x k) k'=bnd x fun a L n=>bnd (k a L n) k':=by
 cases x with
 |error y=>rfl
 |ok v=>rfl
def strC (x:List UInt8):List VV:=[.str x]
def strsV (l:List (List UInt8)):VV:=.lst (l.map strC) .no
def namesGo (e:Nat):Nat→List (List UInt8)→List Sgn→Nat→PR (List (List UInt8))
 |0,out,L,n=>.ok (out,L,n)
 |f+1,out,L,n=>
  if isT L 0 [41] then .ok (out,L.tail,n)
  else bnd (if 0<out.length then mustP e L n [44] else .ok ((),L,n)) fun _ L n=>
   bnd (roomP e L n out.length 8 (namedB L)) fun _ L n=>
   bnd (nameP e L n) fun x L n=>namesGo e f (out++[x]) L n
def namesP (e:Nat)(L:List Sgn)(n:Nat):PR (List (List UInt8)):=bnd (mustP e L n [40]) fun _ L n=>namesGo e (L.length+1) [] L n
theorem mustP_len {e:Nat}{L L':List Sgn}{n n':Nat}{t:List UInt8}(h:mustP e L n t=.ok ((),L',n')):L'.length+1=L.length∧n'=n:=by
 unfold mustP at h
 split at h
 ·injection h with h;injection h with h1 h2;injection h2 with h2 h3
  subst h2;subst h3
  cases L with
  |nil=>rename_i h;simp[isT]at h
  |cons x L=>simp
 ·cases h
theorem nameP_len {e:Nat}{L L':List Sgn}{n n':Nat}{x:List UInt8}(h:nameP e L n=.ok (x,L',n')):L'.length+1=L.length∧n'=n:=by
 unfold nameP at h
 split at h
 ·cases h
 ·split at h
  ·injection h with h;injection h with h1 h2;injection h2 with h2 h3
   subst h2;subst h3;simp
  ·cases h
theorem roomP_eq {e:Nat}{L L':List Sgn}{n n' a b:Nat}{t:Bool}(h:roomP e L n a b t=.ok ((),L',n')):L'=L∧n'=n:=by
 unfold roomP at h
 split at h
 ·cases h
 ·injection h with h;injection h with h1 h2;injection h2 with h2 h3
  exact⟨h2.symm,h3.symm⟩
inductive WkL:List VV→List VV→Prop
 |nil:WkL [] []
 |same (x:VV) {xs ys:List VV} (h:WkL xs ys):WkL (x::xs) (x::ys)
 |lst (l:List (List VV)) (o:Own) {xs ys:List VV} (h:WkL xs ys):WkL (.lst l o::xs) (.lst l .no::ys)
theorem WkL.len {xs ys:List VV}(h:WkL xs ys):xs.length=ys.length:=by
 induction h with
 |nil=>rfl
 |same x h ih=>simp[ih]
 |lst l o h ih=>simp[ih]
theorem WkL.get {xs ys:List VV}(h:WkL xs ys):∀(j:Nat) (y:VV),ys[j]?=some y→∃x,xs[j]?=some x∧Wk x y∧(x.one=true→y.one=true):=by
 induction h with
 |nil=>intro j y hy;simp at hy
 |same x h ih=>
  intro j y hy
  cases j with
  |zero=>simp at hy;subst hy;exact⟨x,rfl,Wk.refl _,id⟩
  |succ j=>simpa using ih j y (by simpa using hy)
 |lst l o h ih=>
  intro j y hy
  cases j with
  |zero=>simp at hy;subst hy;exact⟨_,rfl,Wk.lst _ _,id⟩
  |succ j=>simpa using ih j y (by simpa using hy)
theorem Wk.agg {xs ys:List VV}(h:WkL xs ys):Wk (.agg xs) (.agg ys):=by
 intro G v hv
 cases hv with
 |agg vs xs hs h1 hR=>
  refine .agg vs ys (hs.trans h.len) (fun y hy=>?_) fun j v y hv hy=>?_
  ·obtain⟨j,hj,e⟩:=List.mem_iff_getElem.1 hy
   obtain⟨x,hx,_,hw⟩:=h.get j y (by rw[← e];exact List.getElem?_eq_getElem hj)
   exact hw (h1 x (List.mem_of_getElem? hx))
  ·obtain⟨x,hx,hw,_⟩:=h.get j y hy
   exact hw G v (hR j v x hv hx)
inductive Stm where
 |mk (kind:Int) (dst src cls nm:List UInt8) (args:List (List UInt8)) (one two:List Stm)
mutual
def stC:Stm→List VV
 |.mk k d s c m ar o t=>[.int .i64 k,.str d,.str s,.str c,.str m,strsV ar,.lst (stsC o) .no,.lst (stsC t) .no]
def stsC:List Stm→List (List VV)
 |[]=>[]
 |x::l=>stC x::stsC l
end
theorem stsC_map:∀l:List Stm,stsC l=l.map stC
 |[]=>rfl
 |x::l=>by simp[stsC,stsC_map l]
def stV (x:Stm):VV:=.agg (stC x)
theorem set_free {s:St}{b x:Nat}{T:TypeId}{xs:List VV}(h:(s.set b (.obj T xs)) x=.free):(x=b)=False∧(b=x)=False∧s x=.free:=by
 simp only[St.set]at h
 split at h
 ·cases h
 ·rename_i hb;exact⟨eq_false hb,eq_false (Ne.symm hb),h⟩
theorem wk_st {xs:List VV}{k:Nat}{d s c m:List UInt8}{ar:List (List UInt8)}{o t:List Stm}(h:WkL xs [.int .i64 k,.str d,.str s,.str c,.str m,strsV ar,.lst (stsC o) .no,.lst (stsC t) .no]) :
  Wk (.agg xs) (stV (.mk k d s c m ar o t)):=by
 unfold stV stC
 exact Wk.agg h
def callP (e:Nat)(dst nm:List UInt8)(load:Bool)(L:List Sgn)(n:Nat):PR Stm:=
 if isT L 0 [58,58] then bnd (nameP e L.tail n) fun x L n=>bnd (namesP e L n) fun ar L n=>.ok (.mk 6 dst [] nm x ar [] [],L,n)
 else bnd (mustP e L n [46]) fun _ L n=>bnd (nameP e L n) fun x L n=>
  if load=true∧isT L 0 [40]=false then .ok (.mk 3 dst nm [] x [] [] [],L,n)
  else bnd (namesP e L n) fun ar L n=>.ok (.mk 5 dst nm [] x ar [] [],L,n)
theorem blankB_mem (c:UInt8):blankB c=decide (c=32∨c=9∨c=10∨c=13):=by
 unfold blankB
 rw[← Lib.contains_iff_indexByte]
 simp
theorem lexGo_fuel:∀(f f':Nat) (l:List UInt8) (at_:Nat) (out:List Sgn),l.length<f→l.length<f'→lexGo f l at_ out=lexGo f' l at_ out
 |0,_,_,_,_,h,_=>by omega
 |_,0,_,_,_,_,h=>by omega
 |f+1,f'+1,l,at_,out,h,h'=>by
  simp only[lexGo]
  have hb:=runN_le blankB l
  generalize hd:l.drop (runN blankB l)=d
  have hdl:d.length=l.length - runN blankB l:=by rw[← hd,List.length_drop]
  cases d with
  |nil=>rfl
  |cons c r=>
   simp only[List.length_cons]at hdl
   simp only
   split
   ·rename_i hc
    have h1:1≤runN noLine (c::r):=by
     rw[runN_cons]
     rw[if_pos (by simp[noLine];omega)]
     omega
    exact lexGo_fuel f f' _ _ _ (by rw[List.length_drop];simp only[List.length_cons];omega) (by rw[List.length_drop];simp only[List.length_cons];omega)
   ·split
    ·rfl
    ·split
     ·rfl
     ·rename_i h0 _
      have h1:1≤(oneK (c::r)).2:=by omega
      exact lexGo_fuel f f' _ _ _ (by rw[List.length_drop];simp only[List.length_cons];omega) (by rw[List.length_drop];simp only[List.length_cons];omega)
def lexR (l:List UInt8)(at_:Nat)(out:List Sgn):Except (Nat×Nat) (List Sgn):=lexGo (l.length+1) l at_ out
theorem lexR_nil (at_:Nat)(out:List Sgn):lexR [] at_ out=.ok out:=rfl
theorem lexR_blank {c:UInt8}(h:blankB c=true)(r:List UInt8)(at_:Nat)(out:List Sgn):lexR (c::r) at_ out=lexR r (at_+1) out:=by
 unfold lexR
 rw[lexGo_fuel (r.length+1) ((c::r).length+1) r (at_+1) out (by omega) (by simp;omega)]
 simp only[lexGo]
 have h1:runN blankB (c::r)=runN blankB r+1:=by rw[runN_cons,if_pos h]
 rw[h1]
 simp only[List.drop_succ_cons]
 rw[show at_+(runN blankB r+1)=at_+1+runN blankB r by omega]
theorem lexR_hash {c:UInt8}(h:c.toNat=35)(r:List UInt8)(at_:Nat)(out:List Sgn):lexR (c::r) at_ out=lexR ((c::r).drop (runN noLine (c::r))) (at_+runN noLine (c::r)) out:=by
 have hc:c=35:=UInt8.toNat_inj.1 h
 subst hc
 have h0:runN blankB ((35:UInt8)::r)=0:=by rw[runN_cons,blankB_mem];rfl
 have h1:1≤runN noLine ((35:UInt8)::r):=by rw[runN_cons];rw[if_pos (by decide)];omega
 conv=>lhs;unfold lexR
 simp only[lexGo,h0,List.drop_zero,Nat.add_zero]
 rw[if_pos h]
 unfold lexR
 refine lexGo_fuel _ _ _ _ _ ?_ (by omega)
 rw[List.length_drop];simp only[List.length_cons];omega
theorem lexR_sign {c:UInt8}(hb:blankB c=false)(h:¬ c.toNat=35)(r:List UInt8)(at_:Nat)(out:List Sgn):lexR (c::r) at_ out =
  if (oneK (c::r)).2=0 then .error (at_,100)else if 4096≤out.length then .error (at_,2)
  else lexR ((c::r).drop (oneK (c::r)).2) (at_+(oneK (c::r)).2) (out++[⟨(oneK (c::r)).1,(c::r).take (oneK (c::r)).2,at_⟩]):=by
 have h0:runN blankB (c::r)=0:=by rw[runN_cons,hb];rfl
 conv=>lhs;unfold lexR
 simp only[lexGo,h0,List.drop_zero,Nat.add_zero]
 rw[if_neg h]
 split
 ·rfl
 ·split
  ·rfl
  ·unfold lexR
   refine lexGo_fuel _ _ _ _ _ ?_ (by omega)
   rw[List.length_drop];simp only[List.length_cons];omega
theorem lexR_noline {c:UInt8}(h:noLine c=true)(r:List UInt8)(at_:Nat)(out:List Sgn) :
  lexR ((c::r).drop (runN noLine (c::r))) (at_+runN noLine (c::r)) out=lexR (r.drop (runN noLine r)) (at_+1+runN noLine r) out:=by
 have h1:runN noLine (c::r)=runN noLine r+1:=by rw[runN_cons,if_pos h]
 rw[h1,List.drop_succ_cons,show at_+(runN noLine r+1)=at_+1+runN noLine r by omega]
end Go.Proofs.YtgdbgfjhenobdaaGreatDoor
