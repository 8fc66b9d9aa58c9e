/- Walks of functions that the claim reaches, and plain facts of them. Conditions: those in the statements. -/
import Derived.Test.YtohnaepcgnbaiaaGreatDoorJjIterj
set_option linter.unusedSimpArgs false
set_option linter.unusedVariables false
namespace Go.Proofs.YtohnaepcgnbaiaaGreatDoor
open Go.RowKit
def cmpZ:List Int→List Int→Int
 |[],[]=>0
 |[],_::_=>-1
 |_::_,[]=>1
 |a::aa,b::bb=>if a<b then -1 else if b<a then 1 else cmpZ aa bb
def lessZ:List Int→List Int→Bool
 |[],[]=>false
 |[],_::_=>true
 |_::_,[]=>false
 |a::aa,b::bb=>if a=b then lessZ aa bb else decide (a<b)
theorem lessZ_cmp:∀(a b:List Int),lessZ a b=decide (cmpZ a b<0)
 |[],[]=>rfl
 |[],_::_=>rfl
 |_::_,[]=>rfl
 |a::aa,b::bb=>by
  simp only[lessZ,cmpZ]
  by_cases h:a=b
  ·subst h;simp[lessZ_cmp aa bb]
  ·rw[if_neg h]
   by_cases h1:a<b
   ·simp[h1]
   ·have:b<a:=by omega
    simp[h1,this]
theorem cmpZ_eq:∀{a b:List Int},cmpZ a b=0→a=b
 |[],[],_=>rfl
 |[],_::_,h=>by simp[cmpZ]at h
 |_::_,[],h=>by simp[cmpZ]at h
 |a::aa,b::bb,h=>by
  simp only[cmpZ]at h
  split at h
  ·cases h
  ·split at h
   ·cases h
   ·rw[cmpZ_eq h,show a=b by omega]
theorem cmpZ_self:∀(a:List Int),cmpZ a a=0
 |[]=>rfl
 |a::aa=>by simp[cmpZ,cmpZ_self aa]
theorem cmpZ_neg:∀(a b:List Int),cmpZ b a=- cmpZ a b
 |[],[]=>rfl
 |[],_::_=>rfl
 |_::_,[]=>rfl
 |a::aa,b::bb=>by
  simp only[cmpZ]
  by_cases h1:a<b
  ·have:¬ b<a:=by omega
   simp[h1,this]
  ·by_cases h2:b<a
   ·simp[h1,h2]
   ·simp[h1,h2,cmpZ_neg aa bb]
theorem cmpZ_trans:∀(a b c:List Int),cmpZ a b<0→cmpZ b c<0→cmpZ a c<0
 |[],[],_,h,_=>by simp[cmpZ]at h
 |[],_::_,[],_,h=>by simp[cmpZ]at h
 |[],_::_,_::_,_,_=>by simp[cmpZ]
 |_::_,[],_,h,_=>by simp[cmpZ]at h
 |_::_,_::_,[],_,h=>by simp[cmpZ]at h
 |a::aa,b::bb,c::cc,h,k=>by
  simp only[cmpZ]at h k ⊢
  by_cases h1:a<b
  ·by_cases h2:b<c
   ·rw[if_pos (show a<c by omega)];omega
   ·rw[if_neg h2]at k
    by_cases h3:c<b
    ·rw[if_pos h3]at k;omega
    ·rw[if_pos (show a<c by omega)];omega
  ·rw[if_neg h1]at h
   by_cases h3:b<a
   ·rw[if_pos h3]at h;omega
   ·rw[if_neg h3]at h
    have e:a=b:=by omega
    subst e
    by_cases h2:a<c
    ·rw[if_pos h2];omega
    ·rw[if_neg h2]at k ⊢
     by_cases h4:c<a
     ·rw[if_pos h4]at k;omega
     ·rw[if_neg h4]at k ⊢
      exact cmpZ_trans aa bb cc h k
def Rising (l:List (List Int)):Prop:=l.Pairwise fun a b=>cmpZ a b<0
theorem Rising.nil:Rising []:=List.Pairwise.nil
theorem Rising.nodup {l:List (List Int)}(h:Rising l):l.Nodup:=h.imp fun {a b} hab e=>by
 subst e
 rw[cmpZ_self]at hab
 omega
theorem rising_eq:∀{l m:List (List Int)},Rising l→Rising m→(∀r,r∈l↔r∈m)→l=m
 |[],[],_,_,_=>rfl
 |[],b::m,_,_,h=>by have:=(h b).2 (by simp);cases this
 |a::l,[],_,_,h=>by have:=(h a).1 (by simp);cases this
 |a::l,b::m,hl,hm,h=>by
  unfold Rising at hl hm
  rw[List.pairwise_cons]at hl hm
  have hab:a=b:=by
   rcases List.mem_cons.1 ((h a).1 (by simp))with e|h1
   ·exact e
   ·rcases List.mem_cons.1 ((h b).2 (by simp))with e|h2
    ·exact e.symm
    ·have h3:=hm.1 a h1
     have h4:=hl.1 b h2
     rw[cmpZ_neg]at h3
     omega
  subst hab
  rw[rising_eq hl.2 hm.2 fun r=>?_]
  have h1:=h r
  simp only[List.mem_cons]at h1
  constructor
  ·intro hr
   rcases h1.1 (.inr hr)with e|h2
   ·subst e
    have:=hl.1 r hr
    rw[cmpZ_self]at this
    omega
   ·exact h2
  ·intro hr
   rcases h1.2 (.inr hr)with e|h2
   ·subst e
    have:=hm.1 r hr
    rw[cmpZ_self]at this
    omega
   ·exact h2
def putRow (l:List (List Int))(r:List Int):List (List Int):=
 match l with
 |[]=>[r]
 |a::l=>if lessZ a r then a::putRow l r else if a=r then a::l else r::a::l
theorem putRow_mem {x:List Int}:∀{l:List (List Int)} {r:List Int},x∈putRow l r↔x∈l∨x=r
 |[],r=>by simp[putRow]
 |a::l,r=>by
  simp only[putRow]
  split
  ·simp only[List.mem_cons,putRow_mem (l:=l)];grind
  ·split
   ·rename_i h;subst h;simp only[List.mem_cons];constructor
    ·intro h;exact .inl h
    ·rintro((h|h)|h)
     ·exact .inl h
     ·exact .inr h
     ·exact .inl h
   ·simp only[List.mem_cons];grind
theorem putRow_rising:∀{l:List (List Int)} {r:List Int},Rising l→Rising (putRow l r)
 |[],r,_=>by simp[putRow,Rising]
 |a::l,r,h=>by
  simp only[putRow]
  have h':=h
  unfold Rising at h'
  rw[List.pairwise_cons]at h'
  split
  ·rename_i hlt
   rw[lessZ_cmp,decide_eq_true_eq]at hlt
   unfold Rising
   rw[List.pairwise_cons]
   refine⟨fun x hx=>?_,putRow_rising h'.2⟩
   rcases putRow_mem.1 hx with hx|rfl
   ·exact h'.1 x hx
   ·exact hlt
  ·split
   ·exact h
   ·rename_i h1 h2
    rw[lessZ_cmp,decide_eq_true_eq]at h1
    have h3:cmpZ r a<0:=by
     rw[cmpZ_neg]
     have:cmpZ a r≠0:=fun e=>h2 (cmpZ_eq e)
     omega
    unfold Rising
    rw[List.pairwise_cons]
    refine⟨fun x hx=>?_,h⟩
    rcases List.mem_cons.1 hx with rfl|hx
    ·exact h3
    ·exact cmpZ_trans _ _ _ h3 (h'.1 x hx)
end Go.Proofs.YtohnaepcgnbaiaaGreatDoor
