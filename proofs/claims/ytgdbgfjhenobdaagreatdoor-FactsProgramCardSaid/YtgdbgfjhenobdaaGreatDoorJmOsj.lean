/- Walks of functions that the claim reaches, and plain facts of them. Conditions: those in the statements. -/
import Derived.Test.YtgdbgfjhenobdaaGreatDoorJmOr
import Derived.Test.YtgdbgfjhenobdaaGreatDoorJmRlexj
import Derived.Lib.Hide
set_option linter.unusedSimpArgs false
set_option linter.unusedVariables false
set_option maxRecDepth 100000
namespace Go.Proofs.YtgdbgfjhenobdaaGreatDoor
open Go.RowKit
mutual
def totS:Stm→Nat
 |.mk k _ _ _ _ _ o t=>1+(if k=8 then totL o+totL t else if k=9 then totL o else 0)
def totL:List Stm→Nat
 |[]=>0
 |x::l=>totS x+totL l
end
mutual
def okS:Stm→Nat→Bool
 |.mk k d s c m ar o t,dp=>mayB (.mk k d s c m ar o t) && (if k=8 then decide (dp+1≤8) && okA o (dp+1) && okA t (dp+1)else if k=9 then decide (dp+1≤8) && okA o (dp+1)else true)
def okA:List Stm→Nat→Bool
 |[],_=>true
 |x::l,dp=>okS x dp && okA l dp
end
theorem totL_app (l r:List Stm):totL (l++r)=totL l+totL r:=by
 induction l with
 |nil=>simp[totL]
 |cons x l ih=>simp only[List.cons_append,totL,ih];omega
theorem okA_app (l r:List Stm)(dp:Nat):okA (l++r) dp=(okA l dp && okA r dp):=by
 induction l with
 |nil=>simp[okA]
 |cons x l ih=>simp only[List.cons_append,okA,ih,Bool.and_assoc]
theorem split_at {α:Type}{l:List α}{i:Nat}{x:α}(h:l[i]?=some x):l=l.take i++x::l.drop (i+1):=by
 have hlt:i<l.length:=(List.getElem?_eq_some_iff.1 h).1
 have hx:l[i]=x:=(List.getElem?_eq_some_iff.1 h).2
 conv=>lhs;rw[← List.take_append_drop i l,List.drop_eq_getElem_cons hlt,hx]
theorem take_at {α:Type}{l:List α}{i:Nat}{x:α}(h:l[i]?=some x):l.take (i+1)=l.take i++[x]:=by rw[List.take_add_one,h];rfl
theorem okA_at {l:List Stm}{i:Nat}{x:Stm}(h:l[i]?=some x)(dp:Nat):okA l dp=(okA (l.take i) dp && okS x dp && okA (l.drop (i+1)) dp):=by
 conv=>lhs;rw[split_at h,okA_app]
 simp only[okA,Bool.and_assoc]
theorem okA_tk {l:List Stm}{i:Nat}{x:Stm}(h:l[i]?=some x)(dp:Nat):okA (l.take (i+1)) dp=(okA (l.take i) dp && okS x dp):=by
 rw[take_at h,okA_app];simp[okA]
theorem totL_at {l:List Stm}{i:Nat}{x:Stm}(h:l[i]?=some x):totL l=totL (l.take i)+totS x+totL (l.drop (i+1)):=by
 conv=>lhs;rw[split_at h,totL_app]
 simp only[totL];omega
theorem totL_tk {l:List Stm}{i:Nat}{x:Stm}(h:l[i]?=some x):totL (l.take (i+1))=totL (l.take i)+totS x:=by
 rw[take_at h,totL_app];simp[totL]
abbrev Cn (s:St)(b n:Nat)(ok:Bool):St:=s.set b (.obj 242 [.int .i64 n,.bool ok])
def CR (g:Bool)(tot f n:Nat)(ok:Bool)(n':Nat)(ok':Bool):Prop:=
 ok'=(ok && g && decide (n+tot≤1024))∧(ok'=true→n'=n+tot)∧(ok=true→n'≤1025+2 * f)∧(ok=false→n'≤n+1)
theorem CR.ok {g:Bool}{tot f n n':Nat}{ok ok':Bool}(h:CR g tot f n ok n' ok'):ok'=true→n'≤1024:=fun e=>by
 have h1:=h.2.1 e
 have h2:=h.1
 rw[e]at h2
 have h3:decide (n+tot≤1024)=true:=by
  cases hd:decide (n+tot≤1024)
  ·rw[hd]at h2;simp at h2
  ·rfl
 have:=of_decide_eq_true h3
 omega
theorem CR.le {g:Bool}{tot f n n':Nat}{ok ok':Bool}(h:CR g tot f n ok n' ok'):n'≤n+1∨n'≤1025+2 * f:=by
 cases ok with
 |true=>exact .inr (h.2.2.1 rfl)
 |false=>exact .inl (h.2.2.2 rfl)
theorem Cn_out {s:St}{b bc:Nat}{xs:List VV}{c:Cell}(h:¬ b=bc):(s.set bc (.obj 242 xs)).set b c=(s.set b c).set bc (.obj 242 xs):=by
 funext x
 simp only[St.set]
 by_cases h1:x=b
 ·subst h1;simp[h]
 ·simp[h1]
theorem stsC_at {l:List Stm}{i:Nat}{x:Stm}(h:l[i]?=some x):(stsC l)[i]?=some (stC x):=by rw[stsC_map,List.getElem?_map,h];rfl
def CI (l:List Stm)(dp f n:Nat)(ok:Bool)(i n1:Nat)(ok1:Bool):Prop:=
 ok1=(ok && okA (l.take i) dp && decide (n+totL (l.take i)≤1024))∧(ok1=true→n1=n+totL (l.take i))∧(ok=true→ok1=false→n1≤1026+2 * f)∧(ok=false→i=0∧n1=n)
theorem CI.bd {l:List Stm}{dp f n i n1:Nat}{ok ok1:Bool}(h:CI l dp f n ok i n1 ok1)(hf:f≤9)(hn:n≤100000):n1≤101000:=by
 obtain⟨h1,h2,h3,h4⟩:=h
 cases ok with
 |false=>have:=(h4 rfl).2;omega
 |true=>
  cases ok1 with
  |false=>have:=h3 rfl rfl;omega
  |true=>
   have:=h2 rfl
   have h5:decide (n+totL (l.take i)≤1024)=true:=by
    cases hd:decide (n+totL (l.take i)≤1024)
    ·rw[hd]at h1;simp at h1
    ·rfl
   have:=of_decide_eq_true h5
   omega
theorem totS_pos (x:Stm):1≤totS x:=by cases x;simp only[totS];omega
theorem okS_may {x:Stm}{dp:Nat}(h:okS x dp=true):mayB x=true:=by cases x;simp only[okS,Bool.and_eq_true]at h;exact h.1
theorem CI.stop {l:List Stm}{dp f n i n1:Nat}{ok ok1:Bool}{x:Stm}(h:CI l dp f n ok i n1 ok1)(hx:l[i]?=some x)(hs:ok1=false∨¬ n1+1≤1024∨mayB x=false)(hok:ok=true→n≤1024) :
  CR (decide (dp≤8) && okA l dp) (totL l) (f+1) n ok (n1+1) false:=by
 obtain⟨h1,h2,h3,h4⟩:=h
 have hp:=totS_pos x
 refine⟨?_,by simp,fun e=>?_,fun e=>?_⟩
 ·cases hr:(ok && (decide (dp≤8) && okA l dp) && decide (n+totL l≤1024))
  ·rfl
  ·exfalso
   rw[okA_at hx,totL_at hx]at hr
   simp only[Bool.and_eq_true,decide_eq_true_eq]at hr
   obtain⟨⟨ho,_,⟨ha,hm⟩,_⟩,ht⟩:=hr
   have h5:ok1=true:=by rw[h1,ho,ha];simp;omega
   have h6:=h2 h5
   rcases hs with hs|hs|hs
   ·rw[h5]at hs;cases hs
   ·omega
   ·rw[okS_may hm]at hs;cases hs
 ·cases ok1 with
  |false=>have:=h3 e rfl;omega
  |true=>
   have h6:=h2 rfl
   have h7:decide (n+totL (l.take i)≤1024)=true:=by
    cases hd:decide (n+totL (l.take i)≤1024)
    ·rw[hd]at h1;simp at h1
    ·rfl
   have:=of_decide_eq_true h7
   omega
 ·have:=(h4 e).2;omega
theorem CI.next {l:List Stm}{dp f n i n1 n2:Nat}{ok ok2:Bool}{x:Stm}(h:CI l dp f n ok i n1 true)(hx:l[i]?=some x)
  (h1:ok2=(okS x dp && decide (n1+totS x≤1024))) (h2:ok2=true→n2=n1+totS x) (h3:ok2=false→n2≤1026+2 * f):CI l dp f n ok (i+1) n2 ok2:=by
 obtain⟨a1,a2,a3,a4⟩:=h
 have e:=a2 rfl
 have hok:ok=true:=by
  cases ok with
  |true=>rfl
  |false=>rw[Bool.false_and,Bool.false_and]at a1;exact a1.symm
 subst hok
 have ha:okA (l.take i) dp=true:=by
  cases hh:okA (l.take i) dp with
  |true=>rfl
  |false=>rw[hh,Bool.and_false,Bool.false_and]at a1;exact a1.symm
 refine⟨?_,fun h=>?_,fun _ h=>h3 h,fun h=>by cases h⟩
 ·rw[h1,okA_tk hx,totL_tk hx,ha,e];simp[Nat.add_assoc]
 ·rw[h2 h,totL_tk hx,e];omega
theorem CI.plain {l:List Stm}{dp f n i n1:Nat}{q:Int}{ok:Bool}{d s c m:List UInt8}{ar:List (List UInt8)}{o t:List Stm}(h:CI l dp f n ok i n1 true)(hx:l[i]?=some (.mk q d s c m ar o t))
  (hm:mayB (.mk q d s c m ar o t)=true) (hn:n1+1≤1024) (h8:¬ q=8) (h9:¬ q=9):CI l dp f n ok (i+1) (n1+1) true:=by
 refine h.next hx ?_ (fun _=>?_) (fun h=>by cases h)
 ·simp[okS,totS,hm,h8,h9,hn]
 ·simp[totS,h8,h9]
theorem CI.loop {l:List Stm}{dp f n i n1 n2:Nat}{ok ok2:Bool}{d s c m:List UInt8}{ar:List (List UInt8)}{o t:List Stm}(h:CI l dp f n ok i n1 true)(hx:l[i]?=some (.mk 9 d s c m ar o t))
  (hm:mayB (.mk 9 d s c m ar o t)=true) (hr:CR (decide (dp+1≤8) && okA o (dp+1)) (totL o) f (n1+1) true n2 ok2):CI l dp f n ok (i+1) n2 ok2:=by
 obtain⟨r1,r2,r3,_⟩:=hr
 refine h.next hx ?_ (fun e=>?_) (fun _=>by have:=r3 rfl;omega)
 ·simp only[okS,totS,hm,r1]
  simp[Nat.add_assoc]
 ·rw[r2 e];simp[totS];omega
theorem CI.both {l:List Stm}{dp f n i n1 n2 n3:Nat}{ok ok2 ok3:Bool}{d s c m:List UInt8}{ar:List (List UInt8)}{o t:List Stm}(h:CI l dp f n ok i n1 true)(hx:l[i]?=some (.mk 8 d s c m ar o t))
  (hm:mayB (.mk 8 d s c m ar o t)=true) (hr:CR (decide (dp+1≤8) && okA o (dp+1)) (totL o) f (n1+1) true n2 ok2)
  (hq:CR (decide (dp+1≤8) && okA t (dp+1)) (totL t) f n2 ok2 n3 ok3):CI l dp f n ok (i+1) n3 ok3:=by
 obtain⟨r1,r2,r3,_⟩:=hr
 obtain⟨q1,q2,q3,q4⟩:=hq
 have:=r3 rfl
 refine h.next hx ?_ (fun e=>?_) (fun e=>?_)
 ·simp only[okS,totS,hm,if_true,Bool.true_and]
  cases ok2 with
  |false=>
   rw[q1]
   simp only[Bool.false_and]
   cases hr:(decide (dp+1≤8) && okA o (dp+1) && okA t (dp+1) && decide (n1+(1+(totL o+totL t))≤1024))
   ·rfl
   ·simp only[Bool.and_eq_true,decide_eq_true_eq]at hr
    obtain⟨⟨⟨hd,ho⟩,ht⟩,hn⟩:=hr
    rw[ho]at r1
    simp[hd]at r1
    omega
  |true=>
   have h2:=r2 rfl
   subst h2
   have r1':=r1.symm
   simp only[Bool.and_eq_true]at r1'
   have ho:okA o (dp+1)=true:=r1'.1.2.2
   have hd:decide (dp+1≤8)=true:=r1'.1.2.1
   rw[q1,ho,hd,show n1+1+totL o+totL t=n1+(1+(totL o+totL t)) by omega]
   simp
 ·rw[q2 e]
  have:ok2=true:=by
   rw[e]at q1
   have:=q1.symm
   simp only[Bool.and_eq_true]at this
   exact this.1.1
  rw[r2 this]
  simp[totS];omega
 ·cases ok2 with
  |false=>have:=q4 rfl;omega
  |true=>have:=q3 rfl;omega
set_option maxHeartbeats 4000000 in
theorem cblock_S (f:Nat):∀(dp:Nat),dp+f=9→∀(l:List Stm) (o0:Own) (s:St) (bc n:Nat) (ok:Bool),StmsOk l→l.length≤140737488355328→n≤100000→(ok=true→n≤1024) →
    SCalls Tryz.prog 174 [.ptr bc 0,.lst (stsC l) o0,.int .i64 dp] (Cn s bc n ok) fun w u=>∃q:Nat×Bool,w=.ret (.tup [])∧u=Cn s bc q.1 q.2∧CR (decide (dp≤8) && okA l dp) (totL l) f n ok q.1 q.2:=by
  induction f with
  |zero=>
    intro dp hdp l o0 s bc n ok hl hll hn hok
    have h9:dp=9:=by omega
    subst h9
    refine G_enter Tryz.func174 rfl Tryz.ntmps174 rfl fun Q hQ hQe=>?_
    (repeat'(first|refine Ctl ?_|((with_reducible refine Kof.use hK ?_);clear hK hE K E)|((with_reducible refine W_cond (fun h=>?_) (fun h=>?_))<;>(try(exfalso;assumption)))|(((with_reducible refine G_region fun K E hK hE=>?_))<;>(try simp(disch:=omega) only[go_sem,seval, *]))))
    all_goals(refine W_ret res174 hQ ?_)
    refine⟨_,_,Wk.refl _,Fg.refl _,(n,false),rfl,rfl,?_⟩
    simp only[CR]
    refine⟨by simp,by simp,fun h=>by have:=hok h;omega,fun _=>by omega⟩
  |succ f ih=>
    intro dp hdp l o0 s bc n ok hl hll hn hok
    replace ih:=ih (dp+1) (by omega)
    refine G_enter Tryz.func174 rfl Tryz.ntmps174 rfl fun Q hQ hQe=>?_
    (repeat'(first|refine Ctl ?_|((with_reducible refine Kof.use hK ?_);clear hK hE K E)|((with_reducible refine W_cond (fun h=>?_) (fun h=>?_))<;>(try(exfalso;omega)))|(((with_reducible refine G_region fun K E hK hE=>?_))<;>(try simp(disch:=omega) only[go_sem,seval,stsC_len, *]))))
    refine G_loop (fun m env s'=>∃(i n1:Nat) (ok1:Bool),i≤l.length∧m+i=l.length∧s'=Cn s bc n1 ok1∧CI l dp f n ok i n1 ok1 ∧
      env 0=.ptr bc 0∧env 2=.int .i64 dp∧env 13=.lst (stsC l) o0∧env 14=.int .i64 l.length∧env 15=.int .i64 i) l.length ?_ ?_
    · refine⟨_,Fg.refl _,0,n,ok,by omega,by omega,rfl,⟨?_,fun _=>by simp[totL],fun h1 h2=>by simp_all,fun _=>⟨rfl,rfl⟩⟩,z_sl,z_sl,z_sl,z_sl,z_sl⟩
      cases ok with
      |false=>rfl
      |true=>have:=hok rfl;simp[okA,totL,this]
    · rintro m env s' ⟨i,n1,ok1,hi,hm,rfl,hC,e0,e2,e13,e14,e15⟩
      have hn1:=hC.bd (by omega) hn
      have HC:=Lib.hid hC
      clear hC
      by_cases hlt:i<l.length
      · have hx:l[i]?=some l[i]:=List.getElem?_eq_getElem hlt
        generalize l[i]=x at hx
        have hxo:=hl.get hx
        have hsx:=stsC_at hx
        have hmx:=fun s=>may_S x hxo s
        have HX:=Lib.hid hx
        obtain⟨k,d,sr,c,mm,ar,o,t⟩:=x
        simp only[StmOk]at hxo
        obtain⟨_,_,⟨ho1,ho2⟩,⟨ht1,ht2⟩⟩:=hxo
        simp only[stC,strsV,strs_C]at hmx
        clear hx hl
        have hk:k=8∨k=9∨(¬ k=8∧¬ k=9):=by omega
        rcases hk with rfl|rfl|⟨_,_⟩
        all_goals(repeat'(first|refine Ctl ?_|((with_reducible refine Kof.use hK ?_);clear hK hE K E)|((with_reducible refine W_cond (fun h=>?_) (fun h=>?_))<;>(try(exfalso;assumption)))|((first|(with_reducible first|refine G_region fun K E hK hE=>?_|refine call_ret can185 (hmx _) ?_)|((with_reducible refine call_ex can174 (ih _ _ _ _ _ _ (by assumption) (by assumption) (by first|assumption|omega) (by first|assumption|(intro _;omega))) (fun a h=>?_));(obtain⟨n2,ok2⟩:=a;(try dsimp only at h);have hok2:=h.ok;have hle2:=h.le))|((with_reducible refine W_fresh (fun b hb=>?_));(repeat(obtain⟨_,hb⟩:=hb)))|((with_reducible refine W_gd (fun h=>?_) (fun h=>?_))))<;>(try simp(disch:=first|assumption|omega) only[go_sem,seval,stsC_len,hsx,stC,strsV,strs_C,Cn_out, *]))))
        all_goals first
          | (subst_vars
             first|have hN:=HC.out.both HX.out (by assumption) (by assumption) (by assumption)|have hN:=HC.out.loop HX.out (by assumption) (by assumption)|have hN:=HC.out.plain HX.out (by assumption) (by omega) (by assumption) (by assumption)
             exact⟨_,z_fg,m - 1,by omega,i+1,_,_,by omega,by omega,rfl,hN,z_sl,z_sl,z_sl,z_sl,z_sl⟩)
          | (have hR := HC.out.stop HX.out (by first | exact .inl (by assumption) | exact .inr (.inl (by omega)) | exact .inr (.inr (by assumption))) hok
             (refine W_ret res174 hQ ?_)
             (try simp only[h])
             exact⟨_,_,Wk.refl _,z_fg,(_,_),rfl,rfl,hR⟩)
      · have hiL:i=l.length:=by omega
        have htk:l.take i=l:=by rw[hiL];exact List.take_length
        clear ih
        (repeat'(first|refine Ctl ?_|((with_reducible refine Kof.use hK ?_);clear hK hE K E)|((with_reducible refine W_cond (fun h=>?_) (fun h=>?_))<;>(try(exfalso;omega)))|(((with_reducible refine G_region fun K E hK hE=>?_))<;>(try simp(disch:=omega) only[go_sem,seval, *]))))
        all_goals(refine W_norm res174 hQ ?_)
        refine⟨_,_,Wk.refl _,Fg.refl _,(_,_),rfl,rfl,?_⟩
        obtain⟨c1,c2,c3,c4⟩:=HC.out
        rw[htk]at c1 c2
        have hd8:decide (dp≤8)=true:=decide_eq_true (by omega)
        refine⟨by rw[hd8,Bool.true_and];exact c1,c2,fun e=>?_,fun e=>by have:=(c4 e).2;omega⟩
        cases ok1 with
        |false=>have:=c3 e rfl;omega
        |true=>
          have h2:=c1.symm
          simp only[Bool.and_eq_true,decide_eq_true_eq]at h2
          have:=c2 rfl
          omega
theorem cblock1_S (l:List Stm)(o0:Own)(s:St)(bc n:Nat)(ok:Bool)(hl:StmsOk l)(hll:l.length≤140737488355328)(hn:n≤100000)(hok:ok=true→n≤1024) :
  SCalls Tryz.prog 174 [.ptr bc 0,.lst (stsC l) o0,.int .i64 1] (Cn s bc n ok) fun w u=>∃q:Nat×Bool,w=.ret (.tup [])∧u=Cn s bc q.1 q.2∧CR (decide (1≤8) && okA l 1) (totL l) 8 n ok q.1 q.2:=
 cblock_S 8 1 (by omega) l o0 s bc n ok hl hll hn hok
def MthOk (m:Mth):Prop:=m.nm.length≤140737488355328∧TxOk m.pars∧m.body.length≤140737488355328∧StmsOk m.body
def ClsOk (c:Cls):Prop:=c.nm.length≤140737488355328∧c.par.length≤140737488355328∧c.mths.length≤140737488355328∧∀m,m∈c.mths→MthOk m
def SrcOk (x:List Cls):Prop:=x.length≤140737488355328∧∀c,c∈x→ClsOk c
def headM (m:Mth):Bool:=isNameB m.nm && namesB m.pars
def headC (c:Cls):Bool:=isNameB c.nm && (c.par.isEmpty || isNameB c.par) && decide (c.mths.length≤32) && c.mths.all headM
def totM:List Mth→Nat
 |[]=>0
 |m::l=>totL m.body+totM l
def allM:List Cls→List Mth
 |[]=>[]
 |c::l=>c.mths++allM l
def checkB (x:List Cls):Bool:=decide (x.length≤32) && x.all headC && ((allM x).all (fun m=>okA m.body 1) && decide (totM (allM x)≤1024))
theorem totM_app (l r:List Mth):totM (l++r)=totM l+totM r:=by
 induction l with
 |nil=>simp[totM]
 |cons x l ih=>simp only[List.cons_append,totM,ih];omega
theorem allM_app (l r:List Cls):allM (l++r)=allM l++allM r:=by
 induction l with
 |nil=>rfl
 |cons x l ih=>simp only[List.cons_append,allM,ih,List.append_assoc]
def CK (P:List Mth)(n:Nat)(ok:Bool):Prop:=ok=(P.all (fun m=>okA m.body 1) && decide (totM P≤1024))∧(ok=true→n=totM P)∧n≤2000+P.length
theorem CK.step {P:List Mth}{n n':Nat}{ok ok':Bool}{m:Mth}(h:CK P n ok)(hr:CR (decide (1≤8) && okA m.body 1) (totL m.body) 8 n ok n' ok'):CK (P++[m]) n' ok':=by
 obtain⟨h1,h2,h3⟩:=h
 obtain⟨r1,r2,r3,r4⟩:=hr
 have ht:totM (P++[m])=totM P+totL m.body:=by rw[totM_app];simp[totM]
 refine⟨?_,fun e=>?_,?_⟩
 ·rw[ht,r1,List.all_append]
  cases ok with
  |false=>
   simp only[Bool.false_and]
   cases hr:(P.all (fun m=>okA m.body 1) && [m].all (fun m=>okA m.body 1) && decide (totM P+totL m.body≤1024))
   ·rfl
   ·simp only[Bool.and_eq_true,decide_eq_true_eq]at hr
    rw[hr.1.1]at h1
    have:decide (totM P≤1024)=true:=decide_eq_true (by omega)
    rw[this]at h1
    cases h1
  |true=>
   have h5:=h1.symm
   simp only[Bool.and_eq_true]at h5
   rw[h5.1,h2 rfl]
   simp
 ·rw[r2 e,ht]
  have:ok=true:=by
   rw[e]at r1
   have:=r1.symm
   simp only[Bool.and_eq_true]at this
   exact this.1.1
  rw[h2 this]
 ·rw[List.length_append,List.length_singleton]
  cases ok with
  |true=>have:=r3 rfl;omega
  |false=>have:=r4 rfl;omega
theorem CK.ok {P:List Mth}{n:Nat}{ok:Bool}(h:CK P n ok):ok=true→n≤1024:=fun e=>by
 have h1:=h.1
 rw[e]at h1
 have h5:=h1.symm
 simp only[Bool.and_eq_true,decide_eq_true_eq]at h5
 have:=h.2.1 e
 omega
theorem list_get {α:Type}{l:List α}{i:Nat}(h:i<l.length):∃x,l[i]?=some x:=⟨_,List.getElem?_eq_getElem h⟩
theorem all_take {α:Type}{l:List α}{p:α→Bool}{i:Nat}{x:α}(h:(l.take i).all p=true)(hx:l[i]?=some x)(hp:p x=true):(l.take (i+1)).all p=true:=by
 rw[take_at hx,List.all_append,h];simp[hp]
theorem all_not {α:Type}{l:List α}{p:α→Bool}{i:Nat}{x:α}(hx:l[i]?=some x)(hp:p x=false):l.all p=false:=by
 cases h:l.all p with
 |false=>rfl
 |true=>rw[List.all_eq_true.1 h x (List.mem_of_getElem? hx)]at hp;cases hp
theorem allM_len:∀{l:List Cls},l.all headC=true→(allM l).length≤32 * l.length
 |[],_=>by simp[allM]
 |c::l,h=>by
  simp only[List.all_cons,Bool.and_eq_true]at h
  have h1:=allM_len h.2
  have h2:=h.1
  simp only[headC,Bool.and_eq_true,decide_eq_true_eq]at h2
  simp only[allM,List.length_append,List.length_cons]
  omega
theorem allM_at {l:List Cls}{i:Nat}{x:Cls}(hx:l[i]?=some x):allM (l.take (i+1))=allM (l.take i)++x.mths:=by
 rw[take_at hx,allM_app];simp[allM]
theorem clsC_at {l:List Cls}{i:Nat}{x:Cls}(h:l[i]?=some x):(l.map clsC)[i]?=some (clsC x):=by rw[List.getElem?_map,h];rfl
theorem mthC_at {l:List Mth}{i:Nat}{x:Mth}(h:l[i]?=some x):(l.map mthC)[i]?=some (mthC x):=by rw[List.getElem?_map,h];rfl
set_option maxHeartbeats 4000000 in
theorem check_S (x:List Cls)(hx:SrcOk x)(s:St):SRet Tryz.prog 159 [srcV x] s (.bool (checkB x)) s:=by
  obtain⟨hxl,hxc⟩:=hx
  refine G_enter Tryz.func159 rfl Tryz.ntmps159 rfl fun Q hQ hQe=>?_
  by_cases h32:x.length≤32
  · (repeat'(first|refine Ctl ?_|((with_reducible refine Kof.use hK ?_);clear hK hE K E)|((with_reducible refine W_cond (fun h=>?_) (fun h=>?_))<;>(try(exfalso;omega)))|((first|(with_reducible refine G_region fun K E hK hE=>?_)|((with_reducible refine W_fresh (fun b hb=>?_));(repeat(obtain⟨_,hb⟩:=hb))))<;>(try simp(disch:=omega) only[go_sem,seval,List.length_map,srcV, *]))))
    rename_i bx hbx hnb1 hnb2
    obtain⟨bc,hbc⟩:∃bc,bc=b:=⟨_,rfl⟩
    subst hbc
    refine G_loop (fun m env s'=>∃(i n:Nat) (ok:Bool),i≤x.length∧m+i=x.length∧s'=Cn s bc n ok∧(x.take i).all headC=true∧CK (allM (x.take i)) n ok ∧
      env 3=.ptr bc 0∧env 15=.lst (x.map clsC) .no∧env 16=.int .i64 x.length∧env 17=.int .i64 i) x.length ?_ ?_
    · exact⟨Cn s bc 0 true,z_fg,0,0,true,by omega,by omega,rfl,rfl,⟨rfl,fun _=>rfl,by omega⟩,z_sl,z_sl,z_sl,z_sl⟩
    · rintro m env s' ⟨i,n,ok,hi,hm,rfl,hh,hC,e3,e15,e16,e17⟩
      have HC:=Lib.hid hC
      have hn:=hC.2.2
      have hlm:=allM_len hh
      rw[List.length_take]at hlm
      by_cases hlt:i<x.length
      · obtain⟨c,hc⟩:=list_get hlt
        obtain⟨hc1,hc2,hc3,hc4⟩:=hxc c (List.mem_of_getElem? hc)
        have hsx:=clsC_at hc
        have HX:=Lib.hid hc
        have HH:=Lib.hid hh
        clear hc hh hC
        obtain⟨nm,pa,ms⟩:=c
        simp only at hc1 hc2 hc3 hc4
        (repeat'(first|refine Ctl ?_|((with_reducible refine Kof.use hK ?_);clear hK hE K E)|((with_reducible refine W_cond (fun h=>?_) (fun h=>?_))<;>(try(exfalso;assumption)))|((first|(with_reducible first|refine G_region fun K E hK hE=>?_|refine call_ret can172 (isName_S _ (by omega) _) ?_)|((with_reducible refine W_fresh (fun b hb=>?_));(repeat(obtain⟨_,hb⟩:=hb)))|((with_reducible refine W_gd (fun h=>?_) (fun h=>?_))))<;>(try simp(disch:=first|assumption|omega) only[go_sem,seval,List.length_map,hsx,clsC,Cn_out, *]))))
        all_goals first
          | (have hbad : headC ⟨nm, pa, ms⟩ = false := by
               simp[headC];grind
             have hres:checkB x=false:=by
               unfold checkB;rw[all_not HX.out hbad];simp
             (refine W_ret res159 hQ ?_)
             (refine⟨_,_,Wk.of_eq ?_,?_,rfl,rfl⟩)
             · rw[hres]
             · (exact z_fg))
          |skip
        all_goals
          have hgood:isNameB nm=true∧(pa=[]∨isNameB pa=true)∧ms.length≤32:=by grind
          refine G_loop (fun m2 env s'=>∃(j n2:Nat) (ok2:Bool),j≤ms.length∧m2+j=ms.length∧s'=Cn s bc n2 ok2∧(ms.take j).all headM=true∧CK (allM (x.take i)++ms.take j) n2 ok2 ∧
            env 3=.ptr bc 0∧env 15=.lst (x.map clsC) .no∧env 16=.int .i64 x.length∧env 17=.int .i64 i∧env 43=.lst (ms.map mthC) .no∧env 44=.int .i64 ms.length∧env 45=.int .i64 j) ms.length ?_ ?_
          · exact⟨_,z_fg,0,n,ok,by omega,by omega,rfl,rfl,by rw[List.take_zero,List.append_nil];exact HC.out,z_sl,z_sl,z_sl,z_sl,z_sl,z_sl,z_sl⟩
          · clear e3 e15 e16 e17 env
            rintro m2 env s' ⟨j,n2,ok2,hj,hm2,rfl,hh2,hC2,e3,e15,e16,e17,e43,e44,e45⟩
            have HC2:=Lib.hid hC2
            have hok2:=hC2.ok
            have hn2:n2≤100000:=by
              have:=hC2.2.2
              rw[List.length_append,List.length_take]at this
              omega
            clear hC2
            by_cases hlt2:j<ms.length
            · obtain⟨c,hc⟩:=list_get hlt2
              have hmok:=hc4 c (List.mem_of_getElem? hc)
              have hsm:=mthC_at hc
              have HY:=Lib.hid hc
              have HH2:=Lib.hid hh2
              clear hc hh2
              obtain⟨st,mn,ps,bd⟩:=c
              simp only[MthOk,TxOk]at hmok
              obtain⟨_,⟨_,hps⟩,_,_⟩:=hmok
              have hps2:∀x,x∈ps→x.length≤9223372036854775000:=fun x hx=>Nat.le_trans (hps x hx) (by omega)
              clear hps
              (repeat'(first|refine Ctl ?_|((with_reducible refine Kof.use hK ?_);clear hK hE K E)|((with_reducible refine W_cond (fun h=>?_) (fun h=>?_))<;>(try(exfalso;assumption)))|((first|(with_reducible first|refine G_region fun K E hK hE=>?_|refine call_ret can172 (isName_S _ (by omega) _) ?_|refine call_ret can173 (oonames_S _ _ (by assumption) _) ?_)|((with_reducible refine call_ex can174 (cblock1_S _ _ _ _ _ _ (by assumption) (by assumption) (by assumption) (by assumption)) (fun a h=>?_));(obtain⟨n3,ok3⟩:=a;(try dsimp only at h)))|((with_reducible refine W_fresh (fun b hb=>?_));(repeat(obtain⟨_,hb⟩:=hb)))|((with_reducible refine W_gd (fun h=>?_) (fun h=>?_))))<;>(try simp(disch:=first|assumption|omega) only[go_sem,seval,List.length_map,hsm,mthC,strsV,strs_C,stsV,Cn_out, *]))))
              all_goals first
                | (have hN := HC2.out.step (m := ⟨st, mn, ps, bd⟩) h
                   have hgm:headM ⟨st,mn,ps,bd⟩=true:=by simp[headM, *]
                   rw[List.append_assoc,← take_at HY.out]at hN
                   exact⟨_,z_fg,m2 - 1,by omega,j+1,_,_,by omega,by omega,rfl,all_take HH2.out HY.out hgm,hN,z_sl,z_sl,z_sl,z_sl,z_sl,z_sl,z_sl⟩)
                | (have hbad : headM ⟨st, mn, ps, bd⟩ = false := by simp [headM, *]
                   have hbc:headC ⟨nm,pa,ms⟩=false:=by unfold headC;rw[all_not HY.out hbad];simp
                   have hres:checkB x=false:=by
                     unfold checkB;rw[all_not HX.out hbc];simp
                   (refine W_ret res159 hQ ?_)
                   (refine⟨_,_,Wk.of_eq ?_,?_,rfl,rfl⟩)
                   · rw[hres]
                   · (exact z_fg))
            · have hjL:j=ms.length:=by omega
              have htk:ms.take j=ms:=by rw[hjL];exact List.take_length
              have hgc:headC ⟨nm,pa,ms⟩=true:=by
                rw[htk]at hh2
                simp[headC,hgood,hh2]
              have hN:=HC2.out
              rw[htk]at hN
              clear hok2 hh2
              (repeat'(first|refine Ctl ?_|((with_reducible refine Kof.use hK ?_);clear hK hE K E)|((with_reducible refine W_cond (fun h=>?_) (fun h=>?_))<;>(try(exfalso;omega)))|(((with_reducible refine G_region fun K E hK hE=>?_))<;>(try simp(disch:=omega) only[go_sem,seval,Cn_out, *]))))
              all_goals exact⟨_,z_fg,m - 1,by omega,i+1,n2,ok2,by omega,by omega,rfl,all_take HH.out HX.out hgc,by rw[allM_at HX.out];exact hN,z_sl,z_sl,z_sl,z_sl⟩
      · have hiL:i=x.length:=by omega
        have htk:x.take i=x:=by rw[hiL];exact List.take_length
        rw[htk]at hh hC
        (repeat'(first|refine Ctl ?_|((with_reducible refine Kof.use hK ?_);clear hK hE K E)|((with_reducible refine W_cond (fun h=>?_) (fun h=>?_))<;>(try(exfalso;omega)))|(((with_reducible refine G_region fun K E hK hE=>?_))<;>(try simp(disch:=omega) only[go_sem,seval, *]))))
        all_goals(refine W_ret res159 hQ ?_)
        all_goals(refine⟨_,_,Wk.of_eq ?_,?_,rfl,rfl⟩)
        · have:=hC.1
          simp only[checkB,hh,decide_eq_true h32,Bool.true_and]
          rw[← this]
        · (exact z_fg)
  · (repeat'(first|refine Ctl ?_|((with_reducible refine Kof.use hK ?_);clear hK hE K E)|((with_reducible refine W_cond (fun h=>?_) (fun h=>?_))<;>(try(exfalso;omega)))|((first|(with_reducible refine G_region fun K E hK hE=>?_)|((with_reducible refine W_fresh (fun b hb=>?_))))<;>(try simp(disch:=omega) only[go_sem,seval,List.length_map,srcV, *]))))
    all_goals(refine W_ret res159 hQ ?_)
    all_goals(refine⟨_,_,Wk.of_eq ?_,?_,rfl,rfl⟩)
    all_goals first|(exact z_fg)|(simp[checkB,h32])
theorem own_disown {t:St}{o:Own}{T:TypeId}{sz n:Nat}(h:Owned t o T sz n):(t.disown o).own o T sz n=t:=by
 cases o with
 |no=>rfl
 |full=>rfl
 |at_ b=>
  funext x
  simp only[Owned]at h
  simp only[St.own,St.disown,St.set]
  by_cases hx:x=b
  ·subst hx;simp[h]
  ·simp[hx]
theorem ownok_disown {t:St}{o:Own}{T:TypeId}{sz n:Nat}(h:Owned t o T sz n):OwnOk (t.disown o) o n:=by
 cases o with
 |no=>exact h
 |full=>exact h
 |at_ b=>simp[OwnOk,St.disown,St.set]
theorem Wr_out {s:St}{r b:Nat}{xs:List VV}{c:Cell}(h:¬ b=r):(s.set r (.obj 229 xs)).set b c=(s.set b c).set r (.obj 229 xs):=by
 funext x
 simp only[St.set]
 by_cases h1:x=b
 ·subst h1;simp[h]
 ·simp[h1]
def AdOk (b:Nat)(ad:VV):Prop:=ad=.raw (.pointer none)∨ad=.ptr b 0
abbrev WS (t:St)(b:Nat)(o:Own)(bs':List UInt8)(d:Int)(q:Own×VV):St:=Wr ((t.disown o).own q.1 5 1 bs'.length) b q.2 bs' q.1 d
def WO (t:St)(b:Nat)(o:Own)(bs':List UInt8)(q:Own×VV):Prop:=OwnOk (t.disown o) q.1 bs'.length∧NotOwn q.1 b∧AdOk b q.2
def WP (t:St)(b:Nat)(o:Own)(bs':List UInt8)(d:Int)(w:SEnd)(u:St):Prop:=∃q:Own×VV,w=.ret (.tup [])∧u=WS t b o bs' d q∧WO t b o bs' q
theorem Bw_S (t:St)(b:Nat)(ad:VV)(bs:List UInt8)(o:Own)(d:Int)(x:List UInt8)(had:AdOk b ad)(hO:Owned t o 5 1 bs.length)(hn:NotOwn o b)(hl:bs.length+x.length≤140737488355328) :
  SCalls Tryz.prog 175 [.ptr b 0,.str x] (Wr t b ad bs o d) fun e u=>∃q:Own×VV,e=.ret (.tup [.int .i64 (x.length:Int),.raw .nilIface])∧u=WS t b o (bs++x) d q∧WO t b o (bs++x) q:=by
 have:=Bwrite_S (t.disown o) b ad bs o d x had (ownok_disown hO) hn hl
 rw[own_disown hO]at this
 refine this.mono ?_
 rintro e u ⟨o',h1,h2,h3,h4⟩
 exact⟨(o',.ptr b 0),h1,h2,h3,h4,.inr rfl⟩
def lineB (d:Nat)(l:List (List UInt8)):List UInt8:=Lib.repeatL [32,32] d++Lib.join l []++[10]
theorem repeatL_len (x:List UInt8):∀n:Nat,(Lib.repeatL x n).length=x.length * n
 |0=>rfl
 |n+1=>by simp only[Lib.repeatL,List.length_append,repeatL_len x n,Nat.mul_succ];omega
set_option maxHeartbeats 1000000 in
theorem line_S (t:St)(b:Nat)(ad:VV)(bs:List UInt8)(o:Own)(d:Nat)(l:List (List UInt8))(o0:Own)(had:AdOk b ad)(hO:Owned t o 5 1 bs.length)(hn:NotOwn o b)(hl:bs.length+(lineB d l).length≤140737488355328)(hN:l.length≤1000)(hd:d≤100000) :
  SCalls Tryz.prog 160 [.ptr b 0,.lst (strs l) o0] (Wr t b ad bs o d) (WP t b o (bs++lineB d l) d):=by
 have hln:(lineB d l).length=2 * d+(Lib.join l []).length+1:=by simp[lineB,repeatL_len,Nat.add_assoc]
 have hj:(Lib.join l []).length≤140737488355328:=by omega
 have hN2:l.length≤140737488355328:=by omega
 have hr:([32,32]:List UInt8).length * d≤140737488355328:=by simp;omega
 have hd2:d≤9223372036854775807:=by omega
 have hs1:(Lib.repeatL [32,32] d).length+(Lib.join l []).length≤9223372036854775807:=by rw[repeatL_len];simp;omega
 have hs2:(Lib.repeatL [32,32] d++Lib.join l []).length+1≤9223372036854775807:=by rw[List.length_append,repeatL_len];simp;omega
 have hw:bs.length+(Lib.repeatL [32,32] d++Lib.join l []++[10]).length≤140737488355328:=hl
 refine G_enter Tryz.func160 rfl Tryz.ntmps160 rfl fun Q hQ hQe=>?_
 (repeat'(first|(with_reducible first|(refine Kof.use hK ?_;clear hK hE K E)|(refine Kof.use hKh ?_;clear hKh Kh)|(refine Kof.use hKb (P_next ?_);clear hKb Kb)|refine G_plan 0 [([0,1,2,3,4,5,6,8],7,[[0,1,2,8]]),([],9,[[],[0,1,2]]),([10,11],12,[[],[],[]])] [] hQe fun K E hK hE=>?_)|((first|(with_reducible first|refine call_ret can176 (Repeat_S _ _ (by assumption) (by assumption) _) ?_|refine call_ret can177 (Join_S _ _ _ (by assumption) (by assumption) _) ?_|refine P_heads fun Kh hKh=>?_|refine P_fin fun Kh hKh=>?_|refine P_each fun Kb hKb=>?_)|((with_reducible refine call_ex can175 (Bw_S _ _ _ _ _ _ _ (by assumption) (by assumption) (by assumption) (by assumption)) (fun a h=>?_))))<;>(try simp(disch:=omega) only[go_sem,seval,Wr, *]))))
 all_goals(refine W_norm res160 hQ ?_)
 exact⟨_,_,Wk.refl _,Fg.refl _,a,rfl,rfl,h⟩
theorem within_S (t:St)(b:Nat)(ad:VV)(bs bs':List UInt8)(o:Own)(d:Nat)(g:FuncId)(caps:List VV)(hd:d≤100000)(hg:Callable Tryz.prog g)
  (h:SCalls Tryz.prog g caps (Wr t b ad bs o ((d+1:Nat):Int)) (WP t b o bs' ((d+1:Nat):Int))) :
  SCalls Tryz.prog 161 [.ptr b 0,.fn g caps] (Wr t b ad bs o d) (WP t b o bs' d):=by
 refine G_enter Tryz.func161 rfl Tryz.ntmps161 rfl fun Q hQ hQe=>?_
 unfold WP at h
 (repeat'(first|refine Ctl ?_|((with_reducible refine Kof.use hK ?_);clear hK hE K E)|(((with_reducible refine G_region fun K E hK hE=>?_))<;>(try simp(disch:=omega) only[go_sem,seval,Wr,WS, *]))|((with_reducible refine call_ex hg h (fun a h=>?_));(try simp(disch:=omega) only[go_sem,seval,Wr,WS, *]))))
 all_goals(refine W_norm res161 hQ ?_)
 exact⟨_,_,Wk.refl _,Fg.refl _,a,rfl,rfl,by assumption⟩
end Go.Proofs.YtgdbgfjhenobdaaGreatDoor
