/- Walks. Conditions: in the statements. -/
import Derived.Test.YtohnaepcgnbaiaaGreatDoorJlValj
set_option linter.unusedSimpArgs false
set_option linter.unusedVariables false
namespace Go.Proofs.YtohnaepcgnbaiaaGreatDoor
open Go.RowKit
def cn:TZ->TZ->Int
 |[],[]=>0
 |[],_::_=>-1
 |_::_,[]=>1
 |a::aa,b::bb=>if a<b then -1 else if b<a then 1 else cn aa bb
def ef:TZ->TZ->Bool
 |[],[]=>false
 |[],_::_=>true
 |_::_,[]=>false
 |a::aa,b::bb=>if a=b then ef aa bb else decide (a<b)
theorem li:∀(a b:TZ),ef a b=decide (cn a b<0)
 |[],[]=>rfl
 |[],_::_=>rfl
 |_::_,[]=>rfl
 |a::aa,b::bb=>by
  simp only[ef,cn]
  by_cases h:a=b
  ·subst h;simp[li aa bb]
  ·rw[if_neg h]
   by_cases h1:a<b
   ·simp[h1]
   ·have:b<a:=by omega
    simp[h1,this]
theorem mN:∀{a b:TZ},cn a b=0->a=b
 |[],[],_=>rfl
 |[],_::_,h=>by simp[cn]at h
 |_::_,[],h=>by simp[cn]at h
 |a::aa,b::bb,h=>by
  simp only[cn]at h
  split at h
  ·cases h
  ·split at h
   ·cases h
   ·rw[mN h,show a=b by omega]
theorem gd:∀(a:TZ),cn a a=0
 |[]=>rfl
 |a::aa=>by simp[cn,gd aa]
theorem ir:∀(a b:TZ),cn b a=- cn a b
 |[],[]=>rfl
 |[],_::_=>rfl
 |_::_,[]=>rfl
 |a::aa,b::bb=>by
  simp only[cn]
  by_cases h1:a<b
  ·have:¬ b<a:=by omega
   simp[h1,this]
  ·by_cases h2:b<a
   ·simp[h1,h2]
   ·simp[h1,h2,ir aa bb]
theorem gH:∀(a b c:TZ),cn a b<0->cn b c<0->cn a c<0
 |[],[],_,h,_=>by simp[cn]at h
 |[],_::_,[],_,h=>by simp[cn]at h
 |[],_::_,_::_,_,_=>by simp[cn]
 |_::_,[],_,h,_=>by simp[cn]at h
 |_::_,_::_,[],_,h=>by simp[cn]at h
 |a::aa,b::bb,c::cc,h,k=>by
  simp only[cn]at h k ⊢
  by_cases h1:a<b
  ·by_cases h2:b<c
   ·rw[if_pos (show a<c by omega)];omega
   ·rw[if_neg h2]at k
    by_cases h3:c<b
    ·rw[if_pos h3]at k;omega
    ·rw[if_pos (show a<c by omega)];omega
  ·rw[if_neg h1]at h
   by_cases h3:b<a
   ·rw[if_pos h3]at h;omega
   ·rw[if_neg h3]at h
    have e:a=b:=by omega
    subst e
    by_cases h2:a<c
    ·rw[if_pos h2];omega
    ·rw[if_neg h2]at k ⊢
     by_cases h4:c<a
     ·rw[if_pos h4]at k;omega
     ·rw[if_neg h4]at k ⊢
      exact gH aa bb cc h k
def Rising (l:TX):Prop:=l.Pairwise fun a b=>cn a b<0
theorem Rising.nil:Rising []:=List.Pairwise.nil
theorem Rising.nodup {l:TX}(h:Rising l):l.Nodup:=h.imp fun {a b} hab e=>by
 subst e
 rw[gd]at hab
 omega
theorem pW:∀{l m:TX},Rising l->Rising m->(∀r,r∈l↔r∈m)->l=m
 |[],[],_,_,_=>rfl
 |[],b::m,_,_,h=>by have:=(h b).2 (by simp);cases this
 |a::l,[],_,_,h=>by have:=(h a).1 (by simp);cases this
 |a::l,b::m,hl,hm,h=>by
  unfold Rising at hl hm
  rw[List.pairwise_cons]at hl hm
  have hab:a=b:=by
   rcases AT.1 ((h a).1 (by simp))with e|h1
   ·exact e
   ·rcases AT.1 ((h b).2 (by simp))with e|h2
    ·exact e.symm
    ·have h3:=hm.1 a h1
     have h4:=hl.1 b h2
     rw[ir]at h3
     omega
  subst hab
  rw[pW hl.2 hm.2 fun r=>?_]
  have h1:=h r
  simp only[AT]at h1
  constructor
  ·intro hr
   rcases h1.1 (.inr hr)with e|h2
   ·subst e
    have:=hl.1 r hr
    rw[gd]at this
    omega
   ·exact h2
  ·intro hr
   rcases h1.2 (.inr hr)with e|h2
   ·subst e
    have:=hm.1 r hr
    rw[gd]at this
    omega
   ·exact h2
def putRow (l:TX)(r:TZ):TX:=
 match l with
 |[]=>[r]
 |a::l=>if ef a r then a::putRow l r else if a=r then a::l else r::a::l
theorem gz {x:TZ}:∀{l:TX} {r:TZ},x∈putRow l r↔x∈l\/x=r
 |[],r=>by simp[putRow]
 |a::l,r=>by
  simp only[putRow]
  split
  ·simp only[AT,gz (l:=l)];grind
  ·split
   ·rename_i h;subst h;simp only[AT];constructor
    ·intro h;exact .inl h
    ·rintro((h|h)|h)
     ·exact .inl h
     ·exact .inr h
     ·exact .inl h
   ·simp only[AT];grind
theorem fD:∀{l:TX} {r:TZ},Rising l->Rising (putRow l r)
 |[],r,_=>by simp[putRow,Rising]
 |a::l,r,h=>by
  simp only[putRow]
  have h':=h
  unfold Rising at h'
  rw[List.pairwise_cons]at h'
  split
  ·rename_i hlt
   rw[li,decide_eq_true_eq]at hlt
   unfold Rising
   rw[List.pairwise_cons]
   refine⟨fun x hx=>?_,fD h'.2⟩
   rcases gz.1 hx with hx|rfl
   ·exact h'.1 x hx
   ·exact hlt
  ·split
   ·exact h
   ·rename_i h1 h2
    rw[li,decide_eq_true_eq]at h1
    have h3:cn r a<0:=by
     rw[ir]
     have:cn a r≠0:=fun e=>h2 (mN e)
     omega
    unfold Rising
    rw[List.pairwise_cons]
    refine⟨fun x hx=>?_,h⟩
    rcases AT.1 hx with rfl|hx
    ·exact h3
    ·exact gH _ _ _ h3 (h'.1 x hx)
theorem oB:∀{l:TX} {r:TZ},(putRow l r).length<=l.length+1/\l.length<=(putRow l r).length
 |[],r=>by simp[putRow]
 |a::l,r=>by
  simp only[putRow]
  have:=oB (l:=l) (r:=r)
  split
  ·simp only[List.length_cons];omega
  ·split<;>simp
theorem gy:∀{l:TX} {r:TZ} (k:Nat),(∀(i:Nat) (a:TZ),i<k->l[i]?=some a->ef a r=true)->(∀a,l[k]?=some a->ef a r=false)->k<=l.length ->
  putRow l r=if l[k]?=some r then l else l.take k++r::l.drop k
 |[],r,k,h1,h2,hk=>by
  have:k=0:=by simpa using hk
  subst this
  simp[putRow]
 |a::l,r,0,h1,h2,hk=>by
  have h3:=h2 a (by simp)
  simp only[putRow,h3,Bool.false_eq_true,if_false,List.getElem?_cons_zero,Option.some.injEq,List.take_zero,List.nil_append,List.drop_zero]
 |a::l,r,k+1,h1,h2,hk=>by
  have h3:=h1 0 a (by omega) (by simp)
  simp only[putRow,h3,if_true,List.getElem?_cons_succ,List.take_succ_cons,List.drop_succ_cons,List.cons_append]
  rw[gy (l:=l) k (fun i b hi hb=>h1 (i+1) b (by omega) (by simpa using hb)) (fun b hb=>h2 b (by simpa using hb)) (by simpa using hk)]
  split<;>rfl
end Go.Proofs.YtohnaepcgnbaiaaGreatDoor
